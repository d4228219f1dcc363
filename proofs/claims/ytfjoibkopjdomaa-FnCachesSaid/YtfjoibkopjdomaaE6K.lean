/- Walks of functions: spec.DrawPurge, spec.DrawCacheFind, spec.DrawCacheAdd, spec.DrawCacheOk -/
import Derived.Test.YtfjoibkopjdomaaE6J
set_option linter.unusedSimpArgs false
set_option linter.unusedVariables false
set_option linter.unnecessarySimpa false
namespace Go.Tw
open Go.Proofs

set_option maxRecDepth 100000 in
set_option maxHeartbeats 4000000 in
theorem pe_spec_DrawPurge (code : List Int) (hcs : code.length ≤ 1048576) : PE Try.prog 42 [(false, [.sl 1 (enc eU code)])] (fun (x : List GBlock × Int) => (∀ a ∈ x.1, a.few) ∧ x.1.length ≤ 6) (fun (x : List GBlock × Int) => [(false, [.sl 2 (enc eBlock x.1)]), (false, [.int .i64 x.2])]) := by
  refine PE_of (n := 18) Try.func42 rfl rfl rfl rfl (by simp) ?_
  refine W_seqK fun K1 h1 => ?_
  refine W_reg ?_
  simp [go_sem, ty3, ty56, ty62]
  first | refine h1 _ ?_ | refine ⟨by omega, h1 _ ?_⟩ | refine ⟨by omega, by omega, h1 _ ?_⟩ | (repeat (refine ⟨by first | omega | grind, ?_⟩)); refine h1 _ ?_
  clear h1 K1
  refine W_seqK fun K2 h2 => ?_
  refine W_reg ?_
  simp [go_sem, ty5, ty22]
  refine callG_true (by simp) (CallW_new (pnew_spec_l1New code hcs) rfl (by simp [go_sem]) rfl fun g3 => ?_)
  simp [go_sem]
  first | refine h2 _ ?_ | refine ⟨by omega, h2 _ ?_⟩ | refine ⟨by omega, by omega, h2 _ ?_⟩ | (repeat (refine ⟨by first | omega | grind, ?_⟩)); refine h2 _ ?_
  clear h2 K2
  refine W_seqK fun K4 h4 => ?_
  refine W_reg ?_
  simp [go_sem]
  refine callG_true (by simp) (CallW_draw (pd_spec_l11Draw code hcs ) rfl rfl (by simp [go_sem]) (Int.le_refl 0) (by simp [go_sem]) _ (fun _ => rfl) rfl ?_)
  rintro i5 g5 hi5 ⟨l5, f5⟩ hq5
  try dsimp only at hq5
  simp [go_sem, ty56, ty62, ty72, ty130]
  first | refine h4 _ ?_ | refine ⟨by omega, h4 _ ?_⟩ | refine ⟨by omega, by omega, h4 _ ?_⟩ | (repeat (refine ⟨by first | omega | grind, ?_⟩)); refine h4 _ ?_
  clear h4 K4
  refine W_seqK fun K6 h6 => ?_
  refine W_reg ?_
  simp [go_sem, ty3, ty56, ty62]
  refine callG_true (by simp) (CallW_draw (pd_spec_l1Below code hcs 8) rfl rfl (by simp [go_sem]) hi5 (by simp [go_sem]) _ (fun _ => rfl) rfl ?_)
  rintro i7 g7 hi7 x7 hq7
  try dsimp only at hq7
  simp [go_sem, ty3, ty56, ty62]
  first | refine h6 _ ?_ | refine ⟨by omega, h6 _ ?_⟩ | refine ⟨by omega, by omega, h6 _ ?_⟩ | (repeat (refine ⟨by first | omega | grind, ?_⟩)); refine h6 _ ?_
  clear h6 K6
  refine W_ret ?_
  refine OutE_in (⟨l5, (IntKind.wrap .i64 (x7 - 1))⟩) (by dsimp only; exact ⟨hq5.1, hq5.2.1⟩) ?_
  simp [go_sem]

set_option maxRecDepth 100000 in
set_option maxHeartbeats 4000000 in
theorem pe_spec_DrawCacheFind (code : List Int) (hcs : code.length ≤ 1048576) : PE Try.prog 52 [(false, [.sl 1 (enc eU code)])] (fun (x : List GBlock × Int) => (∀ a ∈ x.1, a.few) ∧ x.1.length ≤ 6) (fun (x : List GBlock × Int) => [(false, [.sl 2 (enc eBlock x.1)]), (false, [.int .i64 x.2])]) := by
  refine PE_of (n := 18) Try.func52 rfl rfl rfl rfl (by simp) ?_
  refine W_seqK fun K1 h1 => ?_
  refine W_reg ?_
  simp [go_sem, ty3, ty56, ty62]
  first | refine h1 _ ?_ | refine ⟨by omega, h1 _ ?_⟩ | refine ⟨by omega, by omega, h1 _ ?_⟩ | (repeat (refine ⟨by first | omega | grind, ?_⟩)); refine h1 _ ?_
  clear h1 K1
  refine W_seqK fun K2 h2 => ?_
  refine W_reg ?_
  simp [go_sem, ty5, ty22]
  refine callG_true (by simp) (CallW_new (pnew_spec_l1New code hcs) rfl (by simp [go_sem]) rfl fun g3 => ?_)
  simp [go_sem]
  first | refine h2 _ ?_ | refine ⟨by omega, h2 _ ?_⟩ | refine ⟨by omega, by omega, h2 _ ?_⟩ | (repeat (refine ⟨by first | omega | grind, ?_⟩)); refine h2 _ ?_
  clear h2 K2
  refine W_seqK fun K4 h4 => ?_
  refine W_reg ?_
  simp [go_sem]
  refine callG_true (by simp) (CallW_draw (pd_spec_l11Draw code hcs ) rfl rfl (by simp [go_sem]) (Int.le_refl 0) (by simp [go_sem]) _ (fun _ => rfl) rfl ?_)
  rintro i5 g5 hi5 ⟨l5, f5⟩ hq5
  try dsimp only at hq5
  simp [go_sem, ty56, ty62, ty72, ty130]
  first | refine h4 _ ?_ | refine ⟨by omega, h4 _ ?_⟩ | refine ⟨by omega, by omega, h4 _ ?_⟩ | (repeat (refine ⟨by first | omega | grind, ?_⟩)); refine h4 _ ?_
  clear h4 K4
  refine W_seqK fun K6 h6 => ?_
  refine W_reg ?_
  simp [go_sem, ty3, ty56, ty62]
  refine callG_true (by simp) (CallW_draw (pd_spec_l1Below code hcs 26) rfl rfl (by simp [go_sem]) hi5 (by simp [go_sem]) _ (fun _ => rfl) rfl ?_)
  rintro i7 g7 hi7 x7 hq7
  try dsimp only at hq7
  simp [go_sem, ty3, ty56, ty62]
  first | refine h6 _ ?_ | refine ⟨by omega, h6 _ ?_⟩ | refine ⟨by omega, by omega, h6 _ ?_⟩ | (repeat (refine ⟨by first | omega | grind, ?_⟩)); refine h6 _ ?_
  clear h6 K6
  refine W_ret ?_
  refine OutE_in (⟨l5, (IntKind.wrap .i64 (x7 - 1))⟩) (by dsimp only; exact ⟨hq5.1, hq5.2.1⟩) ?_
  simp [go_sem]

set_option maxRecDepth 100000 in
set_option maxHeartbeats 4000000 in
theorem pe_spec_DrawCacheAdd (code : List Int) (hcs : code.length ≤ 1048576) : PE Try.prog 44 [(false, [.sl 1 (enc eU code)])] (fun (x : List GBlock × GBlock) => (∀ a ∈ x.1, a.few) ∧ x.1.length ≤ 6 ∧ x.2.few) (fun (x : List GBlock × GBlock) => [(false, [.sl 2 (enc eBlock x.1)]), (true, eBlock x.2)]) := by
  refine PE_of (n := 17) Try.func44 rfl rfl rfl rfl (by simp) ?_
  refine W_seqK fun K1 h1 => ?_
  refine W_reg ?_
  simp [go_sem, ty56, ty62]
  first | refine h1 _ ?_ | refine ⟨by omega, h1 _ ?_⟩ | refine ⟨by omega, by omega, h1 _ ?_⟩ | (repeat (refine ⟨by first | omega | grind, ?_⟩)); refine h1 _ ?_
  clear h1 K1
  refine W_seqK fun K2 h2 => ?_
  refine W_reg ?_
  simp [go_sem, ty5, ty22]
  refine callG_true (by simp) (CallW_new (pnew_spec_l1New code hcs) rfl (by simp [go_sem]) rfl fun g3 => ?_)
  simp [go_sem]
  first | refine h2 _ ?_ | refine ⟨by omega, h2 _ ?_⟩ | refine ⟨by omega, by omega, h2 _ ?_⟩ | (repeat (refine ⟨by first | omega | grind, ?_⟩)); refine h2 _ ?_
  clear h2 K2
  refine W_seqK fun K4 h4 => ?_
  refine W_reg ?_
  simp [go_sem]
  refine callG_true (by simp) (CallW_draw (pd_spec_l11Draw code hcs ) rfl rfl (by simp [go_sem]) (Int.le_refl 0) (by simp [go_sem]) _ (fun _ => rfl) rfl ?_)
  rintro i5 g5 hi5 ⟨l5, f5⟩ hq5
  try dsimp only at hq5
  simp [go_sem, ty56, ty62, ty72, ty130]
  first | refine h4 _ ?_ | refine ⟨by omega, h4 _ ?_⟩ | refine ⟨by omega, by omega, h4 _ ?_⟩ | (repeat (refine ⟨by first | omega | grind, ?_⟩)); refine h4 _ ?_
  clear h4 K4
  refine W_seqK fun K6 h6 => ?_
  refine W_reg ?_
  simp [go_sem, ty56, ty62]
  refine callG_true (by simp) (CallW_draw (pd_spec_l10Draw code hcs ) rfl rfl (by simp [go_sem]) hi5 (by simp [go_sem]) _ (fun _ => rfl) rfl ?_)
  rintro i7 g7 hi7 b7 hq7
  try dsimp only at hq7
  simp [go_sem, ty56, ty62]
  first | refine h6 _ ?_ | refine ⟨by omega, h6 _ ?_⟩ | refine ⟨by omega, by omega, h6 _ ?_⟩ | (repeat (refine ⟨by first | omega | grind, ?_⟩)); refine h6 _ ?_
  clear h6 K6
  refine W_ret ?_
  refine OutE_in (⟨l5, b7⟩) (by dsimp only; exact ⟨hq5.1, hq5.2.1, hq7⟩) ?_
  simp [go_sem, ty62]

set_option maxRecDepth 100000 in
set_option maxHeartbeats 4000000 in
theorem pe_spec_DrawCacheOk (code : List Int) (hcs : code.length ≤ 1048576) : PE Try.prog 51 [(false, [.sl 1 (enc eU code)])] (fun (x : List GBlock × List GFrame) => (∀ a ∈ x.1, a.few) ∧ x.1.length ≤ 6 ∧ (∀ a ∈ x.2, a.few) ∧ x.2.length ≤ 6) (fun (x : List GBlock × List GFrame) => [(false, [.sl 2 (enc eBlock x.1)]), (false, [.sl 3 (enc eFrame x.2)])]) := by
  refine PE_of (n := 14) Try.func51 rfl rfl rfl rfl (by simp) ?_
  refine W_seqK fun K1 h1 => ?_
  refine W_reg ?_
  simp [go_sem, ty56, ty62, ty72, ty130]
  first | refine h1 _ ?_ | refine ⟨by omega, h1 _ ?_⟩ | refine ⟨by omega, by omega, h1 _ ?_⟩ | (repeat (refine ⟨by first | omega | grind, ?_⟩)); refine h1 _ ?_
  clear h1 K1
  refine W_seqK fun K2 h2 => ?_
  refine W_reg ?_
  simp [go_sem, ty5, ty22]
  refine callG_true (by simp) (CallW_new (pnew_spec_l1New code hcs) rfl (by simp [go_sem]) rfl fun g3 => ?_)
  simp [go_sem]
  refine callG_true (by simp) (CallW_draw (pd_spec_l11Draw code hcs ) rfl rfl (by simp [go_sem]) (Int.le_refl 0) (by simp [go_sem]) _ (fun _ => rfl) rfl ?_)
  rintro i4 g4 hi4 ⟨l4, f4⟩ hq4
  try dsimp only at hq4
  simp [go_sem, ty56, ty62, ty72, ty130]
  first | refine h2 _ ?_ | refine ⟨by omega, h2 _ ?_⟩ | refine ⟨by omega, by omega, h2 _ ?_⟩ | (repeat (refine ⟨by first | omega | grind, ?_⟩)); refine h2 _ ?_
  clear h2 K2
  refine W_seqK fun K5 h5 => ?_
  refine W_reg ?_
  simp [go_sem, ty56, ty62, ty72, ty130]
  first | refine h5 _ ?_ | refine ⟨by omega, h5 _ ?_⟩ | refine ⟨by omega, by omega, h5 _ ?_⟩ | (repeat (refine ⟨by first | omega | grind, ?_⟩)); refine h5 _ ?_
  clear h5 K5
  refine W_ret ?_
  refine OutE_in (⟨l4, f4⟩) (by dsimp only; exact hq4) ?_
  simp [go_sem]
end Go.Tw
