/- FnTraced: whatever the input, true; the input reads as it did. No conditions. -/
import Derived.Test.YtgcjdkgddnnlpaaE8F
import Derived.Test.YtgcjdkgddnnlpaaRows
set_option linter.unusedSimpArgs false
set_option linter.unusedVariables false
set_option linter.unnecessarySimpa false
namespace Go.Tw
open Go.Proofs
theorem fits_fnTraced : ∀ args : List A, FitsA [(false, [.sl 1 [.int .u8]])] args → PC Try.prog 9 args [(false, [.bool true])] := by
  intro args h0
  obtain ⟨ts0, as0, rfl, f0, h1⟩ := fitsA_cons h0
  obtain ⟨x0, rfl, ok0⟩ := fits_U8S f0
  obtain rfl := fitsA_nil h1
  exact pc_laws_FnTraced x0
end Go.Tw
namespace Go.Proofs.Ytgcjdkgddnnlpaa.fnTraced
theorem own : ownKnob Try.prog.godebug = none := by kernel_rfl
theorem laidOut : laidOutB Try.prog = true := by kernel_rfl
set_option maxRecDepth 100000 in
theorem lifted (os : Os) (started : os.Started) (H : Type) (enc : TypeId × Value → H) :
    ReturnsInHanded {} Try.checked os 9 .any (Rows.fnTracedSpec.pre6 enc Try.prog Try.f9 Rows.fnTracedRow.domain false) (Rows.fnTracedSpec.post enc Try.prog Try.f9 false true false false) :=
  Go.Tw.law_lift (tb := 4) own laidOut started (by kernel_rfl) Try.func9
    (ChangeSpec.witness6 (enc := enc) (C := Try.checked) false ⟨#[], #[.slice none 0 0], []⟩ 8 (by kernel_rfl) (by kernel_rfl) (by kernel_rfl) (by kernel_rfl)) rfl
    (fun ds h => by match ds, h with | [d0], _ => exact ⟨rfl, rfl, rfl⟩) (by kernel_rfl) (by kernel_rfl) rfl Try.underlying4 Go.Tw.fits_fnTraced
theorem over : Rows.fnTracedRow.holds Try.pinned (OpenSpec.ofChange Rows.fnTracedSpec) :=
  OpenClaim.holds_of_wide 9 Try.f9 rfl rfl rfl rfl rfl rfl rfl ⟨rfl, rfl, rfl, rfl, rfl⟩ rfl rfl rfl rfl rfl (by kernel_rfl) Try.func9 (by kernel_rfl)
    (of_decide_eq_true (by kernel_rfl)) (by unfold Func.isWrapper; first | (rw [if_pos (by decide +kernel)]; kernel_rfl) | (rw [if_neg (by decide +kernel)]; exact ⟨rfl, rfl⟩))
    (fun os started H enc _ => lifted os started H enc)
end Go.Proofs.Ytgcjdkgddnnlpaa.fnTraced
namespace Go.Proofs.Ytgcjdkgddnnlpaa
theorem fnTraced_holds : Rows.FnTracedSaid := fnTraced.over
end Go.Proofs.Ytgcjdkgddnnlpaa
