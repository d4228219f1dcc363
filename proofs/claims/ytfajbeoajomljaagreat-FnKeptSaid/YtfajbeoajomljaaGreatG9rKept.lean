/- FnKept: whatever the input, true; the input reads as it did. No conditions. -/
import Derived.Test.YtfajbeoajomljaaGreatWCBM
import Derived.Test.YtfajbeoajomljaaGreatRows
set_option linter.unusedSimpArgs false
set_option linter.unusedVariables false
set_option linter.unnecessarySimpa false

namespace Go.Tw
open Go.Proofs
theorem fits_fnKept : ∀ args : List A, FitsA [(false, [.sl 1 [.int .u8]])] args → PC Tryz.prog 4 args [(false, [.bool true])] := by
  intro args h0
  obtain ⟨ts0, as0, rfl, f0, h1⟩ := rk h0
  obtain ⟨x0, rfl, ok0⟩ := vp f0
  obtain rfl := tD h1
  exact mz x0
end Go.Tw
namespace Go.Proofs.YtfajbeoajomljaaGreat.fnKept
theorem own : ownKnob Tryz.prog.godebug = none := by kernel_rfl
theorem laidOut : laidOutB Tryz.prog = true := by kernel_rfl
set_option maxRecDepth 100000 in
theorem lifted (os : Os) (started : os.Started) (H : Type) (enc : TypeId × Value → H) :
    ReturnsInHanded {} Tryz.checked os 4 .any (Rows.fnKeptSpec.pre6 enc Tryz.prog Tryz.f4 Rows.fnKeptRow.domain false) (Rows.fnKeptSpec.post enc Tryz.prog Tryz.f4 false true false false) :=
  Go.Tw.law_lift (tb := 4) own laidOut started (by kernel_rfl) Tryz.func4
    (ChangeSpec.witness6 (enc := enc) (C := Tryz.checked) false ⟨#[], #[.slice none 0 0], []⟩ 8 (by kernel_rfl) (by kernel_rfl) (by kernel_rfl) (by kernel_rfl)) rfl
    (fun ds h => by match ds, h with | [d0], _ => exact ⟨rfl, rfl, rfl⟩) (by kernel_rfl) (by kernel_rfl) rfl Tryz.underlying4 Go.Tw.fits_fnKept
theorem over : Rows.fnKeptRow.holds Tryz.pinned (OpenSpec.ofChange Rows.fnKeptSpec) :=
  OpenClaim.holds_of_wide 4 Tryz.f4 rfl rfl rfl rfl rfl rfl rfl ⟨rfl, rfl, rfl, rfl, rfl⟩ rfl rfl rfl rfl rfl (by kernel_rfl) Tryz.func4 (by kernel_rfl)
    (of_decide_eq_true (by kernel_rfl)) (by unfold Func.isWrapper; first | (rw [if_pos (by decide +kernel)]; kernel_rfl) | (rw [if_neg (by decide +kernel)]; exact ⟨rfl, rfl⟩))
    (fun os started H enc _ => lifted os started H enc)
end Go.Proofs.YtfajbeoajomljaaGreat.fnKept
namespace Go.Proofs.YtfajbeoajomljaaGreat
theorem fnKept_holds : Rows.FnKeptSaid := fnKept.over
end Go.Proofs.YtfajbeoajomljaaGreat
