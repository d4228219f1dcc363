/- FnExactCoreHear: whatever the input, true; the input reads as it did. No conditions. -/
import Derived.Test.YtafocmjoejchbaaR3c3
import Derived.Test.YtafocmjoejchbaaRows
set_option linter.unusedSimpArgs false
set_option linter.unusedVariables false
namespace Go.Tw
open Go.Proofs
theorem fits_fnExactCoreHear : ∀ args : List A, FitsA [(true, [.sl 1 [.int .i64], .int .i64, .int .i64, .sl 2 [.int .i64, .sl 5 [.int .i64, .int .i64, .int .i64, .int .i64, .int .i64]]]), (true, [.int .i64, .int .i64, .bool, .sl 1 [.int .i64]])] args → PC Try.prog 8 args [(false, [.bool true])] := by
  intro args h0
  obtain ⟨ts0, as0, rfl, f0, h1⟩ := fitsA_cons h0
  obtain ⟨x0, rfl, ok0⟩ := fits_Core f0
  obtain ⟨ts1, as1, rfl, f1, h2⟩ := fitsA_cons h1
  obtain ⟨x1, rfl, ok1⟩ := fits_Msg f1
  obtain rfl := fitsA_nil h2
  exact pc_laws_FnExactCoreHear x0 x1 ok0 ok1
end Go.Tw
namespace Go.Proofs.Ytafocmjoejchbaa.fnExactCoreHear
theorem own : ownKnob Try.prog.godebug = none := by kernel_rfl
theorem laidOut : laidOutB Try.prog = true := by kernel_rfl
set_option maxRecDepth 100000 in
theorem lifted (os : Os) (started : os.Started) (H : Type) (enc : TypeId × Value → H) :
    ReturnsInHanded {} Try.checked os 8 .any (Rows.fnExactCoreHearSpec.pre6 enc Try.prog Try.f8 Rows.fnExactCoreHearRow.domain false) (Rows.fnExactCoreHearSpec.post enc Try.prog Try.f8 false true false false) :=
  Go.Tw.law_lift (tb := 4) own laidOut started (by kernel_rfl) Try.func8
    (ChangeSpec.witness6 (enc := enc) (C := Try.checked) false ⟨#[], #[.agg #[.slice none 0 0, .int .i64 0, .int .i64 0, .slice none 0 0], .agg #[.int .i64 0, .int .i64 0, .bool false, .slice none 0 0]], []⟩ 8 (by kernel_rfl) (by kernel_rfl) (by kernel_rfl) (by kernel_rfl)) rfl
    (fun ds h => by match ds, h with | [d0, d1], _ => exact ⟨rfl, rfl, rfl⟩) (by kernel_rfl) (by kernel_rfl) rfl Try.underlying4 Go.Tw.fits_fnExactCoreHear
theorem over : Rows.fnExactCoreHearRow.holds Try.pinned (OpenSpec.ofChange Rows.fnExactCoreHearSpec) :=
  OpenClaim.holds_of_wide 8 Try.f8 rfl rfl rfl rfl rfl rfl rfl ⟨rfl, rfl, rfl, rfl, rfl⟩ rfl rfl rfl rfl rfl (by kernel_rfl) Try.func8 (by kernel_rfl)
    (of_decide_eq_true (by kernel_rfl)) (by unfold Func.isWrapper; first | (rw [if_pos (by decide +kernel)]; kernel_rfl) | (rw [if_neg (by decide +kernel)]; exact ⟨rfl, rfl⟩))
    (fun os started H enc _ => lifted os started H enc)
end Go.Proofs.Ytafocmjoejchbaa.fnExactCoreHear
namespace Go.Proofs.Ytafocmjoejchbaa
theorem fnExactCoreHear_holds : Rows.FnExactCoreHearSaid := fnExactCoreHear.over
end Go.Proofs.Ytafocmjoejchbaa
