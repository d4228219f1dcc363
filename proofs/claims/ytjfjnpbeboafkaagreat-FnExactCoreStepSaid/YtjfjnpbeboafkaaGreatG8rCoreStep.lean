/- FnExactCoreStep: whatever the input, true; the input reads as it did. No conditions. -/
import Derived.Test.YtjfjnpbeboafkaaGreatG8y
import Derived.Test.YtjfjnpbeboafkaaGreatRows
set_option linter.unusedSimpArgs false
set_option linter.unusedVariables false
set_option linter.unnecessarySimpa false
namespace Go.Tw
open Go.Proofs
theorem fits_fnExactCoreStep : ∀ args : List A, FitsA [(true, [.sl 1 [.int .i64], .int .i64, .int .i64, .sl 2 [.int .i64, .sl 5 [.int .i64, .int .i64, .int .i64, .int .i64, .int .i64]]]), (true, [.int .i64, .sl 3 [.int .i64, .sl 1 [.int .i64], .bool], .sl 8 [.sl 1 [.int .i64], .int .i64, .sl 1 [.bool], .bool, .int .i64, .bool, .int .i64, .sl 2 [.int .i64, .bool]], .sl 2 [.int .i64, .sl 4 [.int .i64, .int .i64, .bool, .sl 1 [.int .i64]]], .sl 1 [.int .i64]]), (false, [.int .i64])] args → PC Tryz.prog 3 args [(false, [.bool true])] := by
  intro args h0
  obtain ⟨ts0, as0, rfl, f0, h1⟩ := fitsA_cons h0
  obtain ⟨x0, rfl, ok0⟩ := fits_Core f0
  obtain ⟨ts1, as1, rfl, f1, h2⟩ := fitsA_cons h1
  obtain ⟨x1, rfl, ok1⟩ := fits_Node f1
  obtain ⟨ts2, as2, rfl, f2, h3⟩ := fitsA_cons h2
  obtain ⟨x2, rfl, ok2⟩ := fits_I f2
  obtain rfl := fitsA_nil h3
  exact pc_laws_FnExactCoreStep x0 x1 x2 ok0 ok1
end Go.Tw
namespace Go.Proofs.YtjfjnpbeboafkaaGreat.fnExactCoreStep
theorem own : ownKnob Tryz.prog.godebug = none := by kernel_rfl
theorem laidOut : laidOutB Tryz.prog = true := by kernel_rfl
set_option maxRecDepth 100000 in
theorem lifted (os : Os) (started : os.Started) (H : Type) (enc : TypeId × Value → H) :
    ReturnsInHanded {} Tryz.checked os 3 .any (Rows.fnExactCoreStepSpec.pre6 enc Tryz.prog Tryz.f3 Rows.fnExactCoreStepRow.domain false) (Rows.fnExactCoreStepSpec.post enc Tryz.prog Tryz.f3 false true false false) :=
  Go.Tw.law_lift (tb := 4) own laidOut started (by kernel_rfl) Tryz.func3
    (ChangeSpec.witness6 (enc := enc) (C := Tryz.checked) false ⟨#[], #[.agg #[.slice none 0 0, .int .i64 0, .int .i64 0, .slice none 0 0], .agg #[.int .i64 0, .slice none 0 0, .slice none 0 0, .slice none 0 0, .slice none 0 0], .int .i64 0], []⟩ 8 (by kernel_rfl) (by kernel_rfl) (by kernel_rfl) (by kernel_rfl)) rfl
    (fun ds h => by match ds, h with | [d0, d1, d2], _ => exact ⟨rfl, rfl, rfl⟩) (by kernel_rfl) (by kernel_rfl) rfl Tryz.underlying4 Go.Tw.fits_fnExactCoreStep
theorem over : Rows.fnExactCoreStepRow.holds Tryz.pinned (OpenSpec.ofChange Rows.fnExactCoreStepSpec) :=
  OpenClaim.holds_of_wide 3 Tryz.f3 rfl rfl rfl rfl rfl rfl rfl ⟨rfl, rfl, rfl, rfl, rfl⟩ rfl rfl rfl rfl rfl (by kernel_rfl) Tryz.func3 (by kernel_rfl)
    (of_decide_eq_true (by kernel_rfl)) (by unfold Func.isWrapper; first | (rw [if_pos (by decide +kernel)]; kernel_rfl) | (rw [if_neg (by decide +kernel)]; exact ⟨rfl, rfl⟩))
    (fun os started H enc _ => lifted os started H enc)
end Go.Proofs.YtjfjnpbeboafkaaGreat.fnExactCoreStep
namespace Go.Proofs.YtjfjnpbeboafkaaGreat
theorem fnExactCoreStep_holds : Rows.FnExactCoreStepSaid := fnExactCoreStep.over
end Go.Proofs.YtjfjnpbeboafkaaGreat
