/- FnExactMemory: whatever the input, true; the input reads as it did. No conditions. -/
import Derived.Test.YtafocmjoejchbaaGreatZrm
import Derived.Test.YtafocmjoejchbaaGreatRows
set_option linter.unusedSimpArgs false
set_option linter.unusedVariables false
set_option linter.unnecessarySimpa false
namespace Go.Tw
open Go.Proofs
theorem fits_fnExactMemory : ∀ args : List A, FitsA [(true, [.int .i64, .sl 5 [.int .i64, .sl 3 [.int .i64, .sl 1 [.int .i64], .bool], .sl 8 [.sl 1 [.int .i64], .int .i64, .sl 1 [.bool], .bool, .int .i64, .bool, .int .i64, .sl 2 [.int .i64, .bool]], .sl 2 [.int .i64, .sl 4 [.int .i64, .int .i64, .bool, .sl 1 [.int .i64]]], .sl 1 [.int .i64]], .sl 8 [.int .i64, .int .i64, .bool, .int .i64, .int .i64, .int .i64, .bool, .sl 1 [.int .i64]]])] args → PC Tryz.prog 4 args [(false, [.bool true])] := by
  intro args h0
  obtain ⟨ts0, as0, rfl, f0, h1⟩ := fitsA_cons h0
  obtain ⟨x0, rfl, ok0⟩ := fits_World f0
  obtain rfl := fitsA_nil h1
  exact pc_laws_FnExactMemory x0 ok0
end Go.Tw
namespace Go.Proofs.YtafocmjoejchbaaGreat.fnExactMemory
theorem own : ownKnob Tryz.prog.godebug = none := by kernel_rfl
theorem laidOut : laidOutB Tryz.prog = true := by kernel_rfl
set_option maxRecDepth 100000 in
theorem lifted (os : Os) (started : os.Started) (H : Type) (enc : TypeId × Value → H) :
    ReturnsInHanded {} Tryz.checked os 4 .any (Rows.fnExactMemorySpec.pre6 enc Tryz.prog Tryz.f4 Rows.fnExactMemoryRow.domain false) (Rows.fnExactMemorySpec.post enc Tryz.prog Tryz.f4 false true false false) :=
  Go.Tw.law_lift (tb := 4) own laidOut started (by kernel_rfl) Tryz.func4
    (ChangeSpec.witness6 (enc := enc) (C := Tryz.checked) false ⟨#[], #[.agg #[.int .i64 0, .slice none 0 0, .slice none 0 0]], []⟩ 8 (by kernel_rfl) (by kernel_rfl) (by kernel_rfl) (by kernel_rfl)) rfl
    (fun ds h => by match ds, h with | [d0], _ => exact ⟨rfl, rfl, rfl⟩) (by kernel_rfl) (by kernel_rfl) rfl Tryz.underlying4 Go.Tw.fits_fnExactMemory
theorem over : Rows.fnExactMemoryRow.holds Tryz.pinned (OpenSpec.ofChange Rows.fnExactMemorySpec) :=
  OpenClaim.holds_of_wide 4 Tryz.f4 rfl rfl rfl rfl rfl rfl rfl ⟨rfl, rfl, rfl, rfl, rfl⟩ rfl rfl rfl rfl rfl (by kernel_rfl) Tryz.func4 (by kernel_rfl)
    (of_decide_eq_true (by kernel_rfl)) (by unfold Func.isWrapper; first | (rw [if_pos (by decide +kernel)]; kernel_rfl) | (rw [if_neg (by decide +kernel)]; exact ⟨rfl, rfl⟩))
    (fun os started H enc _ => lifted os started H enc)
end Go.Proofs.YtafocmjoejchbaaGreat.fnExactMemory
namespace Go.Proofs.YtafocmjoejchbaaGreat
theorem fnExactMemory_holds : Rows.FnExactMemorySaid := fnExactMemory.over
end Go.Proofs.YtafocmjoejchbaaGreat
