/- FnExactInsText: whatever the input, true; the input reads as it did. No conditions. -/
import Derived.Test.YtgcjdkgddnnlpaaE7Z
import Derived.Test.YtgcjdkgddnnlpaaRows
set_option linter.unusedSimpArgs false
set_option linter.unusedVariables false
set_option linter.unnecessarySimpa false
namespace Go.Tw
open Go.Proofs
theorem fits_fnExactInsText : ∀ args : List A, FitsA [(true, [.int .i64, .int .i64, .int .i64, .int .i64, .int .i64])] args → PC Try.prog 8 args [(false, [.bool true])] := by
  intro args h0
  obtain ⟨ts0, as0, rfl, f0, h1⟩ := fitsA_cons h0
  obtain ⟨x0, rfl, ok0⟩ := fits_Ins f0
  obtain rfl := fitsA_nil h1
  exact pc_laws_FnExactInsText x0
end Go.Tw
namespace Go.Proofs.Ytgcjdkgddnnlpaa.fnExactInsText
theorem own : ownKnob Try.prog.godebug = none := by kernel_rfl
theorem laidOut : laidOutB Try.prog = true := by kernel_rfl
set_option maxRecDepth 100000 in
theorem lifted (os : Os) (started : os.Started) (H : Type) (enc : TypeId × Value → H) :
    ReturnsInHanded {} Try.checked os 8 .any (Rows.fnExactInsTextSpec.pre6 enc Try.prog Try.f8 Rows.fnExactInsTextRow.domain false) (Rows.fnExactInsTextSpec.post enc Try.prog Try.f8 false true false false) :=
  Go.Tw.law_lift (tb := 4) own laidOut started (by kernel_rfl) Try.func8
    (ChangeSpec.witness6 (enc := enc) (C := Try.checked) false ⟨#[], #[.agg #[.int .i64 0, .int .i64 0, .int .i64 0, .int .i64 0, .int .i64 0]], []⟩ 8 (by kernel_rfl) (by kernel_rfl) (by kernel_rfl) (by kernel_rfl)) rfl
    (fun ds h => by match ds, h with | [d0], _ => exact ⟨rfl, rfl, rfl⟩) (by kernel_rfl) (by kernel_rfl) rfl Try.underlying4 Go.Tw.fits_fnExactInsText
theorem over : Rows.fnExactInsTextRow.holds Try.pinned (OpenSpec.ofChange Rows.fnExactInsTextSpec) :=
  OpenClaim.holds_of_wide 8 Try.f8 rfl rfl rfl rfl rfl rfl rfl ⟨rfl, rfl, rfl, rfl, rfl⟩ rfl rfl rfl rfl rfl (by kernel_rfl) Try.func8 (by kernel_rfl)
    (of_decide_eq_true (by kernel_rfl)) (by unfold Func.isWrapper; first | (rw [if_pos (by decide +kernel)]; kernel_rfl) | (rw [if_neg (by decide +kernel)]; exact ⟨rfl, rfl⟩))
    (fun os started H enc _ => lifted os started H enc)
end Go.Proofs.Ytgcjdkgddnnlpaa.fnExactInsText
namespace Go.Proofs.Ytgcjdkgddnnlpaa
theorem fnExactInsText_holds : Rows.FnExactInsTextSaid := fnExactInsText.over
end Go.Proofs.Ytgcjdkgddnnlpaa
