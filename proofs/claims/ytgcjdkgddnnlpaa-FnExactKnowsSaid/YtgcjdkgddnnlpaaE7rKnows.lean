/- FnExactKnows: whatever the input, true; the input reads as it did. No conditions. -/
import Derived.Test.YtgcjdkgddnnlpaaE7P
import Derived.Test.YtgcjdkgddnnlpaaRows
set_option linter.unusedSimpArgs false
set_option linter.unusedVariables false
set_option linter.unnecessarySimpa false
namespace Go.Tw
open Go.Proofs
theorem fits_fnExactKnows : ∀ args : List A, FitsA [(false, [.int .i64]), (false, [.sl 5 [.int .i64, .int .i64, .int .i64, .int .i64, .int .i64]]), (false, [.int .i64]), (false, [.int .i64])] args → PC Try.prog 4 args [(false, [.bool true])] := by
  intro args h0
  obtain ⟨ts0, as0, rfl, f0, h1⟩ := fitsA_cons h0
  obtain ⟨x0, rfl, ok0⟩ := fits_I f0
  obtain ⟨ts1, as1, rfl, f1, h2⟩ := fitsA_cons h1
  obtain ⟨x1, rfl, ok1⟩ := fits_EventS f1
  obtain ⟨ts2, as2, rfl, f2, h3⟩ := fitsA_cons h2
  obtain ⟨x2, rfl, ok2⟩ := fits_I f2
  obtain ⟨ts3, as3, rfl, f3, h4⟩ := fitsA_cons h3
  obtain ⟨x3, rfl, ok3⟩ := fits_I f3
  obtain rfl := fitsA_nil h4
  exact pc_laws_FnExactKnows x0 x1 x2 x3 ok1.1
end Go.Tw
namespace Go.Proofs.Ytgcjdkgddnnlpaa.fnExactKnows
theorem own : ownKnob Try.prog.godebug = none := by kernel_rfl
theorem laidOut : laidOutB Try.prog = true := by kernel_rfl
set_option maxRecDepth 100000 in
theorem lifted (os : Os) (started : os.Started) (H : Type) (enc : TypeId × Value → H) :
    ReturnsInHanded {} Try.checked os 4 .any (Rows.fnExactKnowsSpec.pre6 enc Try.prog Try.f4 Rows.fnExactKnowsRow.domain false) (Rows.fnExactKnowsSpec.post enc Try.prog Try.f4 false true false false) :=
  Go.Tw.law_lift (tb := 4) own laidOut started (by kernel_rfl) Try.func4
    (ChangeSpec.witness6 (enc := enc) (C := Try.checked) false ⟨#[], #[.int .i64 0, .slice none 0 0, .int .i64 0, .int .i64 0], []⟩ 8 (by kernel_rfl) (by kernel_rfl) (by kernel_rfl) (by kernel_rfl)) rfl
    (fun ds h => by match ds, h with | [d0, d1, d2, d3], _ => exact ⟨rfl, rfl, rfl⟩) (by kernel_rfl) (by kernel_rfl) rfl Try.underlying4 Go.Tw.fits_fnExactKnows
theorem over : Rows.fnExactKnowsRow.holds Try.pinned (OpenSpec.ofChange Rows.fnExactKnowsSpec) :=
  OpenClaim.holds_of_wide 4 Try.f4 rfl rfl rfl rfl rfl rfl rfl ⟨rfl, rfl, rfl, rfl, rfl⟩ rfl rfl rfl rfl rfl (by kernel_rfl) Try.func4 (by kernel_rfl)
    (of_decide_eq_true (by kernel_rfl)) (by unfold Func.isWrapper; first | (rw [if_pos (by decide +kernel)]; kernel_rfl) | (rw [if_neg (by decide +kernel)]; exact ⟨rfl, rfl⟩))
    (fun os started H enc _ => lifted os started H enc)
end Go.Proofs.Ytgcjdkgddnnlpaa.fnExactKnows
namespace Go.Proofs.Ytgcjdkgddnnlpaa
theorem fnExactKnows_holds : Rows.FnExactKnowsSaid := fnExactKnows.over
end Go.Proofs.Ytgcjdkgddnnlpaa
