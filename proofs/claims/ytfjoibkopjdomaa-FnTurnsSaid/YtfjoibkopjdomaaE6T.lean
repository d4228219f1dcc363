/- Walks of functions: laws.FnTurns -/
import Derived.Test.YtfjoibkopjdomaaE6B
import Derived.Test.YtfjoibkopjdomaaE6C
import Derived.Test.YtfjoibkopjdomaaE6w
import Derived.Test.YtfjoibkopjdomaaE6s
import Derived.Test.YtfjoibkopjdomaaE6r
import Derived.Test.YtfjoibkopjdomaaE6t
import Derived.Test.YtfjoibkopjdomaaE6p
set_option linter.unusedSimpArgs false
set_option linter.unusedVariables false
set_option linter.unnecessarySimpa false
namespace Go.Tw
open Go.Proofs

set_option maxRecDepth 100000 in
set_option maxHeartbeats 4000000 in
theorem pc_laws_FnTurns (code : List Int)  : PC Try.prog 6 [(false, [.sl 1 (enc eU code)])] [(false, [.bool true])] := by
  refine PC_of (n := 197) Try.func6 rfl rfl rfl rfl (by simp) ?_
  refine W_seqK fun K1 h1 => ?_
  refine W_reg ?_
  simp [go_sem, ty4]
  first | refine h1 _ ?_ | refine ⟨by omega, h1 _ ?_⟩ | refine ⟨by omega, by omega, h1 _ ?_⟩ | (repeat (refine ⟨by first | omega | grind, ?_⟩)); refine h1 _ ?_
  clear h1 K1
  refine W_seqK fun K2 h2 => ?_
  refine W_seqK fun K3 h3 => ?_
  refine W_reg ?_
  simp [go_sem, ty4, ty5, ty22]
  refine callG_pc (fun hG => pc_laws_big code) (by first | (simp; done) | (simp [inR_iff]; done) | (simp [inR_iff]; grind) | grind) (fun hG => by simp [go_sem]) rfl rfl (by first | exact Or.inl rfl | exact Or.inr rfl) ?_
  simp [go_sem]
  first | refine h3 _ ?_ | refine ⟨by omega, h3 _ ?_⟩ | refine ⟨by omega, by omega, h3 _ ?_⟩ | (repeat (refine ⟨by first | omega | grind, ?_⟩)); refine h3 _ ?_
  clear h3 K3
  refine W_cond rfl (fun hb4 => ?_) fun hb4 => ?_
  · skip
    refine W_seqK fun K5 h5 => ?_
    refine W_reg ?_
    simp [go_sem, ty4]
    first | refine h5 _ ?_ | refine ⟨by omega, h5 _ ?_⟩ | refine ⟨by omega, by omega, h5 _ ?_⟩ | (repeat (refine ⟨by first | omega | grind, ?_⟩)); refine h5 _ ?_
    clear h5 K5
    refine W_ret ?_
    simp [go_sem]
  · first | have hs4 := szL_pos hb4 | simp at hb4
    refine W_skip ?_
    first | refine h2 _ ?_ | refine ⟨by omega, h2 _ ?_⟩ | refine ⟨by omega, by omega, h2 _ ?_⟩ | (repeat (refine ⟨by first | omega | grind, ?_⟩)); refine h2 _ ?_
    clear h2 K2
    refine W_seqK fun K6 h6 => ?_
    refine W_reg ?_
    simp [go_sem, ty5, ty22]
    refine callG_true (by simp) (CallW_E (pe_spec_DrawSteps code (by first | first | assumption | omega | (simp only [runM_len, runH_len, List.length_take, List.length_drop]; omega) | exact runH_regs (by assumption) _ | (have h9 := turnAt_len o7 i; omega) | (have h9 := turnAt_len o14 j14; omega) | (have h9 := readsOf_len e11; omega) | (have h9 := writesOf_len e12; omega) | (have h9 := turnAt_len (turnAt o14 j14) j14; have h8 := turnAt_len o14 j14; omega) | (simp; done) | (simp; omega))) (by simp [go_sem, enc, eI]) _ (fun _ => rfl) rfl ?_)
    rintro ⟨m7, hs7, o7⟩ hq7
    try dsimp only at hq7
    obtain ⟨e1_7, e2_7, e3_7, e4_7, e5_7, e6_7⟩ := hq7
    have hq7 : ∀ a ∈ hs7, a.regs.length ≤ 1048576 := fun a ha => by have := e4_7 a ha; omega
    simp [go_sem, ty2, ty3, ty24, ty26, ty33]
    first | refine h6 _ ?_ | refine ⟨by omega, h6 _ ?_⟩ | refine ⟨by omega, by omega, h6 _ ?_⟩ | (repeat (refine ⟨by first | omega | grind, ?_⟩)); refine h6 _ ?_
    clear h6 K6
    refine W_seqK fun K8 h8 => ?_
    refine W_reg ?_
    simp [go_sem, ty5, ty22]
    refine callG_true (by simp) (CallW_E (pe_spec_DrawApart code (by first | first | assumption | omega | (simp only [runM_len, runH_len, List.length_take, List.length_drop]; omega) | exact runH_regs (by assumption) _ | (have h9 := turnAt_len o7 i; omega) | (have h9 := turnAt_len o14 j14; omega) | (have h9 := readsOf_len e11; omega) | (have h9 := writesOf_len e12; omega) | (have h9 := turnAt_len (turnAt o14 j14) j14; have h8 := turnAt_len o14 j14; omega) | (simp; done) | (simp; omega))) (by simp [go_sem, enc, eI]) _ (fun _ => rfl) rfl ?_)
    rintro ⟨a9, b9⟩ hq9
    simp [go_sem, ty45]
    first | refine h8 _ ?_ | refine ⟨by omega, h8 _ ?_⟩ | refine ⟨by omega, by omega, h8 _ ?_⟩ | (repeat (refine ⟨by first | omega | grind, ?_⟩)); refine h8 _ ?_
    clear h8 K8
    refine W_seqK fun K10 h10 => ?_
    refine W_reg ?_
    simp [go_sem, ty5, ty22, ty45]
    refine callG_true (by simp) (CallW_E (pe_spec_DrawReadsOf code (by first | first | assumption | omega | (simp only [runM_len, runH_len, List.length_take, List.length_drop]; omega) | exact runH_regs (by assumption) _ | (have h9 := turnAt_len o7 i; omega) | (have h9 := turnAt_len o14 j14; omega) | (have h9 := readsOf_len e11; omega) | (have h9 := writesOf_len e12; omega) | (have h9 := turnAt_len (turnAt o14 j14) j14; have h8 := turnAt_len o14 j14; omega) | (simp; done) | (simp; omega))) (by simp [go_sem, enc, eI]) _ (fun _ => rfl) rfl ?_)
    rintro e11 hq11
    simp [go_sem, ty5, ty22, ty45]
    refine callG_true (by simp) (CallW_E (pe_spec_DrawWritesOf code (by first | first | assumption | omega | (simp only [runM_len, runH_len, List.length_take, List.length_drop]; omega) | exact runH_regs (by assumption) _ | (have h9 := turnAt_len o7 i; omega) | (have h9 := turnAt_len o14 j14; omega) | (have h9 := readsOf_len e11; omega) | (have h9 := writesOf_len e12; omega) | (have h9 := turnAt_len (turnAt o14 j14) j14; have h8 := turnAt_len o14 j14; omega) | (simp; done) | (simp; omega))) (by simp [go_sem, enc, eI]) _ (fun _ => rfl) rfl ?_)
    rintro e12 hq12
    simp [go_sem, ty45]
    first | refine h10 _ ?_ | refine ⟨by omega, h10 _ ?_⟩ | refine ⟨by omega, by omega, h10 _ ?_⟩ | (repeat (refine ⟨by first | omega | grind, ?_⟩)); refine h10 _ ?_
    clear h10 K10
    refine W_seqK fun K13 h13 => ?_
    refine W_reg ?_
    simp [go_sem, ty5, ty22]
    refine callG_true (by simp) (CallW_E (pe_spec_DrawTurnAt code (by first | first | assumption | omega | (simp only [runM_len, runH_len, List.length_take, List.length_drop]; omega) | exact runH_regs (by assumption) _ | (have h9 := turnAt_len o7 i; omega) | (have h9 := turnAt_len o14 j14; omega) | (have h9 := readsOf_len e11; omega) | (have h9 := writesOf_len e12; omega) | (have h9 := turnAt_len (turnAt o14 j14) j14; have h8 := turnAt_len o14 j14; omega) | (simp; done) | (simp; omega))) (by simp [go_sem, enc, eI]) _ (fun _ => rfl) rfl ?_)
    rintro ⟨o14, j14⟩ hq14
    try dsimp only at hq14
    simp [go_sem, ty3, ty24]
    first | refine h13 _ ?_ | refine ⟨by omega, h13 _ ?_⟩ | refine ⟨by omega, by omega, h13 _ ?_⟩ | (repeat (refine ⟨by first | omega | grind, ?_⟩)); refine h13 _ ?_
    clear h13 K13
    refine W_seqK fun K15 h15 => ?_
    refine W_seqK fun K16 h16 => ?_
    refine W_drawO true [0, 1, 3, 4, 2, 5, 6, 7, 8, 9, 11, 12, 10, 13, 14, 15, 16, 17, 19, 18, 20, 21, 22, 23, 24, 25, 27, 26, 28, 29, 30, 31, 32, 33, 34, 36, 37, 35, 38, 39, 40, 41, 42, 43, 44, 46, 48, 45, 47, 49, 50, 51] mixed (by decide +kernel) ?_
    have hac : apartE b9 a9 = apartE a9 b9 := apartE_comm b9 a9
    simp (config := {maxSteps := 10000000}) [go_sem, ty4, ty45, hac]
    refine callG_pc (fun hG => pc_impl_Apart a9 b9) (by first | (simp; done) | (simp [inR_iff]; done) | (simp [inR_iff]; grind) | grind) (fun hG => by simp [go_sem]) rfl rfl (by first | exact Or.inl rfl | exact Or.inr rfl) ?_
    simp (config := {maxSteps := 10000000}) [go_sem, ty4, ty45, hac]
    refine callG_pc (fun hG => pc_spec_Apart a9 b9) (by first | (simp; done) | (simp [inR_iff]; done) | (simp [inR_iff]; grind) | grind) (fun hG => by simp [go_sem]) rfl rfl (by first | exact Or.inl rfl | exact Or.inr rfl) ?_
    simp (config := {maxSteps := 10000000}) [go_sem, ty4, ty45, hac]
    refine callG_pc (fun hG => pc_impl_Apart a9 b9) (by first | (simp; done) | (simp [inR_iff]; done) | (simp [inR_iff]; grind) | grind) (fun hG => by simp [go_sem]) rfl rfl (by first | exact Or.inl rfl | exact Or.inr rfl) ?_
    simp (config := {maxSteps := 10000000}) [go_sem, ty4, ty45, hac]
    refine callG_pc (fun hG => pc_impl_Apart b9 a9) (by first | (simp; done) | (simp [inR_iff]; done) | (simp [inR_iff]; grind) | grind) (fun hG => by simp [go_sem]) rfl rfl (by first | exact Or.inl rfl | exact Or.inr rfl) ?_
    simp (config := {maxSteps := 10000000}) [go_sem, ty3, ty4, ty24, ty45, hac]
    refine callG_pc (fun hG => pc_impl_ReadsOf e11) (by first | (simp; done) | (simp [inR_iff]; done) | (simp [inR_iff]; grind) | grind) (fun hG => by simp [go_sem]) rfl rfl (by first | exact Or.inl rfl | exact Or.inr rfl) ?_
    simp (config := {maxSteps := 10000000}) [go_sem, ty3, ty24, ty45, hac]
    refine callG_pc (fun hG => pc_spec_ReadsOf e11) (by first | (simp; done) | (simp [inR_iff]; done) | (simp [inR_iff]; grind) | grind) (fun hG => by simp [go_sem]) rfl rfl (by first | exact Or.inl rfl | exact Or.inr rfl) ?_
    simp (config := {maxSteps := 10000000}) [go_sem, ty3, ty4, ty24, hac]
    refine callG_pc (fun hG => pc_laws_sameInts (readsOf e11) (readsOf e11) (by first | assumption | omega | (simp only [runM_len, runH_len, List.length_take, List.length_drop]; omega) | exact runH_regs (by assumption) _ | (have h9 := turnAt_len o7 i; omega) | (have h9 := turnAt_len o14 j14; omega) | (have h9 := readsOf_len e11; omega) | (have h9 := writesOf_len e12; omega) | (have h9 := turnAt_len (turnAt o14 j14) j14; have h8 := turnAt_len o14 j14; omega))) (by first | (simp; done) | (simp [inR_iff]; done) | (simp [inR_iff]; grind) | grind) (fun hG => by simp [go_sem]) rfl rfl (by first | exact Or.inl rfl | exact Or.inr rfl) ?_
    simp (config := {maxSteps := 10000000}) [go_sem, ty3, ty4, ty24, ty45, hac]
    refine callG_pc (fun hG => pc_impl_WritesOf e12) (by first | (simp; done) | (simp [inR_iff]; done) | (simp [inR_iff]; grind) | grind) (fun hG => by simp [go_sem]) rfl rfl (by first | exact Or.inl rfl | exact Or.inr rfl) ?_
    simp (config := {maxSteps := 10000000}) [go_sem, ty3, ty24, ty45, hac]
    refine callG_pc (fun hG => pc_spec_WritesOf e12) (by first | (simp; done) | (simp [inR_iff]; done) | (simp [inR_iff]; grind) | grind) (fun hG => by simp [go_sem]) rfl rfl (by first | exact Or.inl rfl | exact Or.inr rfl) ?_
    simp (config := {maxSteps := 10000000}) [go_sem, ty3, ty4, ty24, hac]
    refine callG_pc (fun hG => pc_laws_sameInts (writesOf e12) (writesOf e12) (by first | assumption | omega | (simp only [runM_len, runH_len, List.length_take, List.length_drop]; omega) | exact runH_regs (by assumption) _ | (have h9 := turnAt_len o7 i; omega) | (have h9 := turnAt_len o14 j14; omega) | (have h9 := readsOf_len e11; omega) | (have h9 := writesOf_len e12; omega) | (have h9 := turnAt_len (turnAt o14 j14) j14; have h8 := turnAt_len o14 j14; omega))) (by first | (simp; done) | (simp [inR_iff]; done) | (simp [inR_iff]; grind) | grind) (fun hG => by simp [go_sem]) rfl rfl (by first | exact Or.inl rfl | exact Or.inr rfl) ?_
    simp (config := {maxSteps := 10000000}) [go_sem, ty3, ty4, ty24, hac]
    refine callG_pc (fun hG => pc_impl_TurnAt o14 j14 (by first | assumption | omega | (simp only [runM_len, runH_len, List.length_take, List.length_drop]; omega) | exact runH_regs (by assumption) _ | (have h9 := turnAt_len o7 i; omega) | (have h9 := turnAt_len o14 j14; omega) | (have h9 := readsOf_len e11; omega) | (have h9 := writesOf_len e12; omega) | (have h9 := turnAt_len (turnAt o14 j14) j14; have h8 := turnAt_len o14 j14; omega))) (by first | (simp; done) | (simp [inR_iff]; done) | (simp [inR_iff]; grind) | grind) (fun hG => by simp [go_sem]) rfl rfl (by first | exact Or.inl rfl | exact Or.inr rfl) ?_
    simp (config := {maxSteps := 10000000}) [go_sem, ty3, ty24, hac]
    refine callG_pc (fun hG => pc_spec_TurnAt o14 j14 (by first | assumption | omega | (simp only [runM_len, runH_len, List.length_take, List.length_drop]; omega) | exact runH_regs (by assumption) _ | (have h9 := turnAt_len o7 i; omega) | (have h9 := turnAt_len o14 j14; omega) | (have h9 := readsOf_len e11; omega) | (have h9 := writesOf_len e12; omega) | (have h9 := turnAt_len (turnAt o14 j14) j14; have h8 := turnAt_len o14 j14; omega))) (by first | (simp; done) | (simp [inR_iff]; done) | (simp [inR_iff]; grind) | grind) (fun hG => by simp [go_sem]) rfl rfl (by first | exact Or.inl rfl | exact Or.inr rfl) ?_
    simp (config := {maxSteps := 10000000}) [go_sem, ty3, ty4, ty24, hac]
    refine callG_pc (fun hG => pc_laws_sameInts (turnAt o14 j14) (turnAt o14 j14) (by first | assumption | omega | (simp only [runM_len, runH_len, List.length_take, List.length_drop]; omega) | exact runH_regs (by assumption) _ | (have h9 := turnAt_len o7 i; omega) | (have h9 := turnAt_len o14 j14; omega) | (have h9 := readsOf_len e11; omega) | (have h9 := writesOf_len e12; omega) | (have h9 := turnAt_len (turnAt o14 j14) j14; have h8 := turnAt_len o14 j14; omega))) (by first | (simp; done) | (simp [inR_iff]; done) | (simp [inR_iff]; grind) | grind) (fun hG => by simp [go_sem]) rfl rfl (by first | exact Or.inl rfl | exact Or.inr rfl) ?_
    simp (config := {maxSteps := 10000000}) [go_sem, ty3, ty4, ty24, hac]
    refine callG_pc (fun hG => pc_impl_TurnAt o14 j14 (by first | assumption | omega | (simp only [runM_len, runH_len, List.length_take, List.length_drop]; omega) | exact runH_regs (by assumption) _ | (have h9 := turnAt_len o7 i; omega) | (have h9 := turnAt_len o14 j14; omega) | (have h9 := readsOf_len e11; omega) | (have h9 := writesOf_len e12; omega) | (have h9 := turnAt_len (turnAt o14 j14) j14; have h8 := turnAt_len o14 j14; omega))) (by first | (simp; done) | (simp [inR_iff]; done) | (simp [inR_iff]; grind) | grind) (fun hG => by simp [go_sem]) rfl rfl (by first | exact Or.inl rfl | exact Or.inr rfl) ?_
    simp (config := {maxSteps := 10000000}) [go_sem, ty3, ty24, hac]
    refine callG_pc (fun hG => pc_impl_TurnAt (turnAt o14 j14) j14 (by first | assumption | omega | (simp only [runM_len, runH_len, List.length_take, List.length_drop]; omega) | exact runH_regs (by assumption) _ | (have h9 := turnAt_len o7 i; omega) | (have h9 := turnAt_len o14 j14; omega) | (have h9 := readsOf_len e11; omega) | (have h9 := writesOf_len e12; omega) | (have h9 := turnAt_len (turnAt o14 j14) j14; have h8 := turnAt_len o14 j14; omega))) (by first | (simp; done) | (simp [inR_iff]; done) | (simp [inR_iff]; grind) | grind) (fun hG => by simp [go_sem]) rfl rfl (by first | exact Or.inl rfl | exact Or.inr rfl) ?_
    simp (config := {maxSteps := 10000000}) [go_sem, ty3, ty4, ty24, hac]
    refine callG_pc (fun hG => pc_laws_sameInts (turnAt (turnAt o14 j14) j14) o14 (by first | assumption | omega | (simp only [runM_len, runH_len, List.length_take, List.length_drop]; omega) | exact runH_regs (by assumption) _ | (have h9 := turnAt_len o7 i; omega) | (have h9 := turnAt_len o14 j14; omega) | (have h9 := readsOf_len e11; omega) | (have h9 := writesOf_len e12; omega) | (have h9 := turnAt_len (turnAt o14 j14) j14; have h8 := turnAt_len o14 j14; omega))) (by first | (simp; done) | (simp [inR_iff]; done) | (simp [inR_iff]; grind) | grind) (fun hG => by simp [go_sem]) rfl rfl (by first | exact Or.inl rfl | exact Or.inr rfl) ?_
    simp (config := {maxSteps := 10000000}) [go_sem, ty4, hac]
    first | refine h16 _ ?_ | refine ⟨by omega, h16 _ ?_⟩ | refine ⟨by omega, by omega, h16 _ ?_⟩ | (repeat (refine ⟨by first | omega | grind, ?_⟩)); refine h16 _ ?_
    clear h16 K16
    refine W_cond rfl (fun hb17 => by simp [turnAt_turnAt] at hb17) fun hb17 => ?_
    clear hb17
    refine W_skip ?_
    first | refine h15 _ ?_ | refine ⟨by omega, h15 _ ?_⟩ | refine ⟨by omega, by omega, h15 _ ?_⟩ | (repeat (refine ⟨by first | omega | grind, ?_⟩)); refine h15 _ ?_
    clear h15 K15
    refine W_seqK fun K18 h18 => ?_
    refine W_reg ?_
    simp [go_sem, ty3, ty24, ty26, ty33]
    refine callG_pc (fun hG => pc_impl_FlatRun m7 hs7 o7 (by first | assumption | omega | (simp only [runM_len, runH_len, List.length_take, List.length_drop]; omega) | exact runH_regs (by assumption) _ | (have h9 := turnAt_len o7 i; omega) | (have h9 := turnAt_len o14 j14; omega) | (have h9 := readsOf_len e11; omega) | (have h9 := writesOf_len e12; omega) | (have h9 := turnAt_len (turnAt o14 j14) j14; have h8 := turnAt_len o14 j14; omega)) (by first | assumption | omega | (simp only [runM_len, runH_len, List.length_take, List.length_drop]; omega) | exact runH_regs (by assumption) _ | (have h9 := turnAt_len o7 i; omega) | (have h9 := turnAt_len o14 j14; omega) | (have h9 := readsOf_len e11; omega) | (have h9 := writesOf_len e12; omega) | (have h9 := turnAt_len (turnAt o14 j14) j14; have h8 := turnAt_len o14 j14; omega)) (by first | assumption | omega | (simp only [runM_len, runH_len, List.length_take, List.length_drop]; omega) | exact runH_regs (by assumption) _ | (have h9 := turnAt_len o7 i; omega) | (have h9 := turnAt_len o14 j14; omega) | (have h9 := readsOf_len e11; omega) | (have h9 := writesOf_len e12; omega) | (have h9 := turnAt_len (turnAt o14 j14) j14; have h8 := turnAt_len o14 j14; omega)) (by first | assumption | omega | (simp only [runM_len, runH_len, List.length_take, List.length_drop]; omega) | exact runH_regs (by assumption) _ | (have h9 := turnAt_len o7 i; omega) | (have h9 := turnAt_len o14 j14; omega) | (have h9 := readsOf_len e11; omega) | (have h9 := writesOf_len e12; omega) | (have h9 := turnAt_len (turnAt o14 j14) j14; have h8 := turnAt_len o14 j14; omega))) (by first | (simp; done) | (simp [inR_iff]; done) | (simp [inR_iff]; grind) | grind) (fun hG => by simp [go_sem]) rfl rfl (by first | exact Or.inl rfl | exact Or.inr rfl) ?_
    simp [go_sem, ty3, ty24, ty26, ty33]
    first | refine h18 _ ?_ | refine ⟨by omega, h18 _ ?_⟩ | refine ⟨by omega, by omega, h18 _ ?_⟩ | (repeat (refine ⟨by first | omega | grind, ?_⟩)); refine h18 _ ?_
    clear h18 K18
    refine W_seqK fun K19 h19 => ?_
    refine W_seqK fun K20 h20 => ?_
    refine W_reg ?_
    simp [go_sem, ty3]
    first | refine h20 _ ?_ | refine ⟨by omega, h20 _ ?_⟩ | refine ⟨by omega, by omega, h20 _ ?_⟩ | (repeat (refine ⟨by first | omega | grind, ?_⟩)); refine h20 _ ?_
    clear h20 K20
    refine W_block ?_
    refine W_loopI (α := Nat) (fun i => ({ env := [(3, true, .l (.ref 2 [] 1 0 (m7).length)), (4, true, .l (.ref 3 [] 3 0 (hs7).length)), (5, true, .l (.ref 4 [] 1 0 (o7).length)), (12, true, .l (.ref 51 [] 1 0 (runM m7 hs7 o7).length)), (13, true, .l (.ref 52 [] 3 0 (runH m7 hs7 o7).length)), (14, true, .l (.t (.int .i64 (i))))], box := [], row := [(2, ⟨.own, 1, enc eI m7⟩), (3, ⟨.own, 3, enc eHart hs7⟩), (4, ⟨.own, 1, enc eI o7⟩), (51, ⟨.own, 1, enc eI (runM m7 hs7 o7)⟩), (52, ⟨.own, 3, enc eHart (runH m7 hs7 o7)⟩)], nxt := 72, sav := [] } : St)) (fun i => i ≤ o7.length) (fun i => o7.length - i) 0 ?_ ?_ ?_
    · exact Sub.of_neat [3, 4, 5, 12, 13, 14] [2, 3, 4, 51, 52] [] 72 (by decide) (by simp [go_sem])
    · exact Nat.zero_le _
    rintro i hinv
    have hw1 : IntKind.wrap .i64 ((i : Int) + 1) = (i : Int) + 1 := wrap_ok (by omega) (by omega)
    refine W_seqK fun K22 h22 => ?_
    refine W_seqK fun K23 h23 => ?_
    refine W_reg ?_
    simp [go_sem, ty3, ty4, ty24]
    first | refine h23 _ ?_ | refine ⟨by omega, h23 _ ?_⟩ | refine ⟨by omega, by omega, h23 _ ?_⟩ | (repeat (refine ⟨by first | omega | grind, ?_⟩)); refine h23 _ ?_
    clear h23 K23
    refine W_cond rfl (fun hb24 => ?_) fun hb24 => ?_
    · have hlt1 : i + 1 < o7.length := by simp [hw1] at hb24; omega
      have hlt : i < o7.length := by omega
      have hle : i ≤ o7.length := by omega
      have hle1 : i + 1 ≤ o7.length := by omega
      have hle2 : (i : Int) + 1 ≤ o7.length := by omega
      have hle0 : 0 ≤ (i : Int) + 1 := by omega
      have hlt3 : (i : Int) + 1 < o7.length := by omega
      have htn : ((i : Int) + 1).toNat = i + 1 := by omega
      have ia := e6_7 _ (List.getElem_mem hlt)
      have ib := e6_7 _ (List.getElem_mem hlt1)
      have la := runH_len m7 hs7 (o7.take i)
      have lm := runM_len m7 hs7 (o7.take i)
      have lm1 := runM_len m7 hs7 (o7.take (i + 1))
      have lb := runH_len m7 hs7 (o7.take (i + 1))
      have ra := runH_regs (mem := m7) hq7 (o7.take i)
      have rb := runH_regs (mem := m7) hq7 (o7.take (i + 1))
      have ia2 : o7[i].toNat < (runH m7 hs7 (o7.take i)).length := by omega
      have ib2 : o7[i + 1].toNat < (runH m7 hs7 (o7.take (i + 1))).length := by omega
      have ia3 : o7[i] < ((runH m7 hs7 (o7.take i)).length : Int) := by omega
      have ib3 : o7[i + 1] < ((runH m7 hs7 (o7.take (i + 1))).length : Int) := by omega
      obtain ⟨ha, hha⟩ : ∃ h, (runH m7 hs7 (o7.take i))[o7[i].toNat] = h := ⟨_, rfl⟩
      obtain ⟨hb, hhb⟩ : ∃ h, (runH m7 hs7 (o7.take (i + 1)))[o7[i + 1].toNat] = h := ⟨_, rfl⟩
      have ra2 := ra _ (List.getElem_mem ia2)
      have rb2 := rb _ (List.getElem_mem ib2)
      rw [hha] at ra2
      rw [hhb] at rb2
      clear hb24
      refine W_skip ?_
      first | refine h22 _ ?_ | refine ⟨by omega, h22 _ ?_⟩ | refine ⟨by omega, by omega, h22 _ ?_⟩ | (repeat (refine ⟨by first | omega | grind, ?_⟩)); refine h22 _ ?_
      clear h22 K22
      refine W_seqK fun K25 h25 => ?_
      refine W_block ?_
      refine W_seqK fun K26 h26 => ?_
      refine W_reg ?_
      simp [go_sem, ty3, ty24, ty26, ty33, hlt, hle]
      refine callG_pc (fun hG => pc_impl_FlatRun m7 hs7 (o7.take i) (by first | assumption | omega | (simp only [runM_len, runH_len, List.length_take, List.length_drop]; omega) | exact runH_regs (by assumption) _ | (have h9 := turnAt_len o7 i; omega) | (have h9 := turnAt_len o14 j14; omega) | (have h9 := readsOf_len e11; omega) | (have h9 := writesOf_len e12; omega) | (have h9 := turnAt_len (turnAt o14 j14) j14; have h8 := turnAt_len o14 j14; omega)) (by first | assumption | omega | (simp only [runM_len, runH_len, List.length_take, List.length_drop]; omega) | exact runH_regs (by assumption) _ | (have h9 := turnAt_len o7 i; omega) | (have h9 := turnAt_len o14 j14; omega) | (have h9 := readsOf_len e11; omega) | (have h9 := writesOf_len e12; omega) | (have h9 := turnAt_len (turnAt o14 j14) j14; have h8 := turnAt_len o14 j14; omega)) (by first | assumption | omega | (simp only [runM_len, runH_len, List.length_take, List.length_drop]; omega) | exact runH_regs (by assumption) _ | (have h9 := turnAt_len o7 i; omega) | (have h9 := turnAt_len o14 j14; omega) | (have h9 := readsOf_len e11; omega) | (have h9 := writesOf_len e12; omega) | (have h9 := turnAt_len (turnAt o14 j14) j14; have h8 := turnAt_len o14 j14; omega)) (by first | assumption | omega | (simp only [runM_len, runH_len, List.length_take, List.length_drop]; omega) | exact runH_regs (by assumption) _ | (have h9 := turnAt_len o7 i; omega) | (have h9 := turnAt_len o14 j14; omega) | (have h9 := readsOf_len e11; omega) | (have h9 := writesOf_len e12; omega) | (have h9 := turnAt_len (turnAt o14 j14) j14; have h8 := turnAt_len o14 j14; omega))) (by first | (simp; done) | (simp [inR_iff]; done) | (simp [inR_iff]; grind) | grind) (fun hG => by simp [go_sem]) rfl rfl (by first | exact Or.inl rfl | exact Or.inr rfl) ?_
      simp [go_sem, ty3, ty24, ty26, ty33, hlt, hle]
      first | refine h26 _ ?_ | refine ⟨by omega, h26 _ ?_⟩ | refine ⟨by omega, by omega, h26 _ ?_⟩ | (repeat (refine ⟨by first | omega | grind, ?_⟩)); refine h26 _ ?_
      clear h26 K26
      refine W_seqK fun K27 h27 => ?_
      refine W_drawS true (.op 0 (.op 1 (.op 2 (.op 3 (.op 4 (.op 5 (.op 6 (.op 7 (.op 8 (.op 9 (.op 10 (.op 11 (.fork 12 (.op 13 (.op 14 (.op 15 (.op 16 (.op 17 (.op 18 .nil)))))) 16 (.op 12 (.op 13 (.op 14 (.op 15 (.op 17 (.op 18 .nil))))))))))))))))))) mixed (by decide +kernel) rfl ?_
      simp (config := {maxSteps := 10000000}) [go_sem, ty3, ty24, ty26, ty33, hlt, ia.1, ia2, ia3, hha]
      refine ⟨?_, ?_⟩
      · try simp (config := {maxSteps := 10000000}) [go_sem, ty3, ty24, ty26, hlt, ia.1, ia2, ia3, hha]
        refine callG_pc (fun hG => pc_impl_EventOf (runM m7 hs7 (o7.take i)) ha o7[i] (by omega) (by omega)) (by first | (simp; done) | (simp [inR_iff]; done) | (simp [inR_iff]; grind) | grind) (fun hG => by simp [go_sem, hlt, ia.1, ia2, ia3, hha]) rfl rfl (by first | exact Or.inl rfl | exact Or.inr rfl) ?_
        simp (config := {maxSteps := 10000000}) [go_sem, ty4, ty45, hlt, ia.1, ia2, ia3, hha]
        first | refine h27 _ ?_ | refine ⟨by omega, h27 _ ?_⟩ | refine ⟨by omega, by omega, h27 _ ?_⟩ | (repeat (refine ⟨by first | omega | grind, ?_⟩)); refine h27 _ ?_
        clear h27 K27
        refine W_seqK fun K28 h28 => ?_
        refine W_reg ?_
        simp [go_sem, ty3, ty24, ty26, ty33, hlt1, hw1, hle1, hle2, hle0]
        refine callG_pc (fun hG => pc_impl_FlatRun m7 hs7 (o7.take (i + 1)) (by omega) (by omega) hq7 (by simp; omega)) (by first | (simp; done) | (simp [inR_iff]; done) | (simp [inR_iff]; grind) | grind) (fun hG => by simp [go_sem]) rfl rfl (by first | exact Or.inl rfl | exact Or.inr rfl) ?_
        simp [go_sem, ty3, ty24, ty26, ty33, hlt1, hw1, hle1, hle2, hle0]
        first | refine h28 _ ?_ | refine ⟨by omega, h28 _ ?_⟩ | refine ⟨by omega, by omega, h28 _ ?_⟩ | (repeat (refine ⟨by first | omega | grind, ?_⟩)); refine h28 _ ?_
        clear h28 K28
        refine W_seqK fun K29 h29 => ?_
        refine W_drawS true (.op 0 (.op 1 (.op 2 (.op 3 (.op 4 (.op 5 (.op 6 (.op 7 (.op 8 (.op 9 (.op 10 (.op 11 (.op 12 (.op 13 (.fork 14 (.op 15 (.op 16 (.op 17 (.op 18 (.op 19 (.op 20 .nil)))))) 18 (.op 14 (.op 15 (.op 16 (.op 17 (.op 19 (.op 20 .nil))))))))))))))))))))) mixed (by decide +kernel) rfl ?_
        simp (config := {maxSteps := 10000000}) [go_sem, ty3, ty24, ty26, ty33, hlt1, hw1, hle0, hlt3, htn, ib.1, ib2, ib3, hhb]
        refine ⟨?_, ?_⟩
        · try simp (config := {maxSteps := 10000000}) [go_sem, ty3, ty24, ty26, hlt1, hw1, hle0, hlt3, htn, ib.1, ib2, ib3, hhb]
          refine callG_pc (fun hG => pc_impl_EventOf (runM m7 hs7 (o7.take (i + 1))) hb (o7[i + 1]) (by omega) (by omega)) (by first | (simp; done) | (simp [inR_iff]; done) | (simp [inR_iff]; grind) | grind) (fun hG => by simp [go_sem, hlt1, htn, ib.1, ib2, ib3, hhb]) rfl rfl (by first | exact Or.inl rfl | exact Or.inr rfl) ?_
          simp (config := {maxSteps := 10000000}) [go_sem, ty4, ty45, hlt1, hw1, hle0, hlt3, htn, ib.1, ib2, ib3, hhb]
          first | refine h29 _ ?_ | refine ⟨by omega, h29 _ ?_⟩ | refine ⟨by omega, by omega, h29 _ ?_⟩ | (repeat (refine ⟨by first | omega | grind, ?_⟩)); refine h29 _ ?_
          clear h29 K29
          refine W_seqK fun K30 h30 => ?_
          refine W_seqK fun K31 h31 => ?_
          refine W_reg ?_
          simp [go_sem, ty4, ty45]
          refine callG_pc (fun hG => pc_impl_Apart (evRes (runM m7 hs7 (o7.take i)) ha o7[i]) (evRes (runM m7 hs7 (o7.take (i + 1))) hb (o7[i + 1]))) (by first | (simp; done) | (simp [inR_iff]; done) | (simp [inR_iff]; grind) | grind) (fun hG => by simp [go_sem]) rfl rfl (by first | exact Or.inl rfl | exact Or.inr rfl) ?_
          simp [go_sem, ty4]
          first | refine h31 _ ?_ | refine ⟨by omega, h31 _ ?_⟩ | refine ⟨by omega, by omega, h31 _ ?_⟩ | (repeat (refine ⟨by first | omega | grind, ?_⟩)); refine h31 _ ?_
          clear h31 K31
          refine W_cond rfl (fun hb32 => ?_) fun hb32 => ?_
          · clear hb32
            refine W_exit ?_
            simp [go_sem]
            first | refine h25 _ ?_ | refine ⟨by omega, h25 _ ?_⟩ | refine ⟨by omega, by omega, h25 _ ?_⟩ | (repeat (refine ⟨by first | omega | grind, ?_⟩)); refine h25 _ ?_
            clear h30 K30 h25 K25
            refine W_reg ?_
            simp [go_sem, ty3]
            refine ⟨i + 1, ?_, ?_, ?_⟩
            · exact Sub.of_neat [3, 4, 5, 12, 13, 14] [2, 3, 4, 51, 52] [] 72 (by decide) (by simp [go_sem, wrap_succ (show i < 9223372036854775807 by omega)])
            · omega
            · omega
          · obtain ⟨pa, pb, pap⟩ : evOk (runM m7 hs7 (o7.take i)) ha = true ∧ evOk (runM m7 hs7 (o7.take (i + 1))) hb = true ∧ apartE (evRes (runM m7 hs7 (o7.take i)) ha o7[i]) (evRes (runM m7 hs7 (o7.take (i + 1))) hb o7[i + 1]) = true := by simp at hb32; grind
            have xa : evRes (runM m7 hs7 (o7.take i)) ha o7[i] = eventOf (runM m7 hs7 (o7.take i)) ha o7[i] := if_pos pa
            have xb : evRes (runM m7 hs7 (o7.take (i + 1))) hb o7[i + 1] = eventOf (runM m7 hs7 (o7.take (i + 1))) hb o7[i + 1] := if_pos pb
            rw [xa, xb] at pap
            have da : o7.getD i 0 = o7[i] := by rw [List.getD_eq_getElem?_getD, List.getElem?_eq_getElem hlt]; rfl
            have db : o7.getD (i + 1) 0 = o7[i + 1] := by rw [List.getD_eq_getElem?_getD, List.getElem?_eq_getElem hlt1]; rfl
            have ga : (runH m7 hs7 (o7.take i)).getD (o7.getD i 0).toNat z0 = ha := by rw [da, getD_lt ia2, hha]
            have gb : (runH m7 hs7 (o7.take (i + 1))).getD (o7.getD (i + 1) 0).toNat z0 = hb := by rw [db, getD_lt ib2, hhb]
            obtain ⟨w1, w2⟩ := run_turn (mem := m7) (hs := hs7) (order := o7) (i := i) (by omega) hlt1 e6_7 (by rw [ga]; exact pa) (by rw [gb]; exact pb) (by rw [ga, gb, da, db]; exact pap)
            clear hb32
            refine W_skip ?_
            first | refine h30 _ ?_ | refine ⟨by omega, h30 _ ?_⟩ | refine ⟨by omega, by omega, h30 _ ?_⟩ | (repeat (refine ⟨by first | omega | grind, ?_⟩)); refine h30 _ ?_
            clear h30 K30
            refine W_seqK fun K33 h33 => ?_
            refine W_reg ?_
            simp [go_sem, ty3, ty24, ty26, ty33]
            refine callG_pc (fun hG => pc_impl_TurnAt o7 i (by first | assumption | omega | (simp only [runM_len, runH_len, List.length_take, List.length_drop]; omega) | exact runH_regs (by assumption) _ | (have h9 := turnAt_len o7 i; omega) | (have h9 := turnAt_len o14 j14; omega) | (have h9 := readsOf_len e11; omega) | (have h9 := writesOf_len e12; omega) | (have h9 := turnAt_len (turnAt o14 j14) j14; have h8 := turnAt_len o14 j14; omega))) (by first | (simp; done) | (simp [inR_iff]; done) | (simp [inR_iff]; grind) | grind) (fun hG => by simp [go_sem]) rfl rfl (by first | exact Or.inl rfl | exact Or.inr rfl) ?_
            simp [go_sem, ty3, ty24, ty26, ty33]
            refine callG_pc (fun hG => pc_impl_FlatRun m7 hs7 (turnAt o7 i) (by first | assumption | omega | (simp only [runM_len, runH_len, List.length_take, List.length_drop]; omega) | exact runH_regs (by assumption) _ | (have h9 := turnAt_len o7 i; omega) | (have h9 := turnAt_len o14 j14; omega) | (have h9 := readsOf_len e11; omega) | (have h9 := writesOf_len e12; omega) | (have h9 := turnAt_len (turnAt o14 j14) j14; have h8 := turnAt_len o14 j14; omega)) (by first | assumption | omega | (simp only [runM_len, runH_len, List.length_take, List.length_drop]; omega) | exact runH_regs (by assumption) _ | (have h9 := turnAt_len o7 i; omega) | (have h9 := turnAt_len o14 j14; omega) | (have h9 := readsOf_len e11; omega) | (have h9 := writesOf_len e12; omega) | (have h9 := turnAt_len (turnAt o14 j14) j14; have h8 := turnAt_len o14 j14; omega)) (by first | assumption | omega | (simp only [runM_len, runH_len, List.length_take, List.length_drop]; omega) | exact runH_regs (by assumption) _ | (have h9 := turnAt_len o7 i; omega) | (have h9 := turnAt_len o14 j14; omega) | (have h9 := readsOf_len e11; omega) | (have h9 := writesOf_len e12; omega) | (have h9 := turnAt_len (turnAt o14 j14) j14; have h8 := turnAt_len o14 j14; omega)) (by first | assumption | omega | (simp only [runM_len, runH_len, List.length_take, List.length_drop]; omega) | exact runH_regs (by assumption) _ | (have h9 := turnAt_len o7 i; omega) | (have h9 := turnAt_len o14 j14; omega) | (have h9 := readsOf_len e11; omega) | (have h9 := writesOf_len e12; omega) | (have h9 := turnAt_len (turnAt o14 j14) j14; have h8 := turnAt_len o14 j14; omega))) (by first | (simp; done) | (simp [inR_iff]; done) | (simp [inR_iff]; grind) | grind) (fun hG => by simp [go_sem]) rfl rfl (by first | exact Or.inl rfl | exact Or.inr rfl) ?_
            simp [go_sem, ty3, ty24, ty26, ty33]
            first | refine h33 _ ?_ | refine ⟨by omega, h33 _ ?_⟩ | refine ⟨by omega, by omega, h33 _ ?_⟩ | (repeat (refine ⟨by first | omega | grind, ?_⟩)); refine h33 _ ?_
            clear h33 K33
            refine W_seqK fun K34 h34 => ?_
            refine W_reg ?_
            simp [go_sem, ty3, ty4, ty24]
            refine callG_pc (fun hG => pc_laws_sameInts (runM m7 hs7 o7) (runM m7 hs7 (turnAt o7 i)) (by first | assumption | omega | (simp only [runM_len, runH_len, List.length_take, List.length_drop]; omega) | exact runH_regs (by assumption) _ | (have h9 := turnAt_len o7 i; omega) | (have h9 := turnAt_len o14 j14; omega) | (have h9 := readsOf_len e11; omega) | (have h9 := writesOf_len e12; omega) | (have h9 := turnAt_len (turnAt o14 j14) j14; have h8 := turnAt_len o14 j14; omega))) (by first | (simp; done) | (simp [inR_iff]; done) | (simp [inR_iff]; grind) | grind) (fun hG => by simp [go_sem]) rfl rfl (by first | exact Or.inl rfl | exact Or.inr rfl) ?_
            simp [go_sem, ty4, ty26, ty33]
            refine callG_pc (fun hG => pc_laws_sameHarts (runH m7 hs7 o7) (runH m7 hs7 (turnAt o7 i)) (by first | assumption | omega | (simp only [runM_len, runH_len, List.length_take, List.length_drop]; omega) | exact runH_regs (by assumption) _ | (have h9 := turnAt_len o7 i; omega) | (have h9 := turnAt_len o14 j14; omega) | (have h9 := readsOf_len e11; omega) | (have h9 := writesOf_len e12; omega) | (have h9 := turnAt_len (turnAt o14 j14) j14; have h8 := turnAt_len o14 j14; omega)) (by first | assumption | omega | (simp only [runM_len, runH_len, List.length_take, List.length_drop]; omega) | exact runH_regs (by assumption) _ | (have h9 := turnAt_len o7 i; omega) | (have h9 := turnAt_len o14 j14; omega) | (have h9 := readsOf_len e11; omega) | (have h9 := writesOf_len e12; omega) | (have h9 := turnAt_len (turnAt o14 j14) j14; have h8 := turnAt_len o14 j14; omega))) (by first | (simp; done) | (simp [inR_iff]; done) | (simp [inR_iff]; grind) | grind) (fun hG => by simp [go_sem]) rfl rfl (by first | exact Or.inl rfl | exact Or.inr rfl) ?_
            simp [go_sem, ty4]
            first | refine h34 _ ?_ | refine ⟨by omega, h34 _ ?_⟩ | refine ⟨by omega, by omega, h34 _ ?_⟩ | (repeat (refine ⟨by first | omega | grind, ?_⟩)); refine h34 _ ?_
            clear h34 K34
            refine W_cond rfl (fun hb35 => by simp [w1, w2] at hb35) fun hb35 => ?_
            clear hb35
            refine W_skip ?_
            first | refine h25 _ ?_ | refine ⟨by omega, h25 _ ?_⟩ | refine ⟨by omega, by omega, h25 _ ?_⟩ | (repeat (refine ⟨by first | omega | grind, ?_⟩)); refine h25 _ ?_
            clear h25 K25
            refine W_reg ?_
            simp [go_sem, ty3]
            refine ⟨i + 1, ?_, ?_, ?_⟩
            · exact Sub.of_neat [3, 4, 5, 12, 13, 14] [2, 3, 4, 51, 52] [] 72 (by decide) (by simp [go_sem, wrap_succ (show i < 9223372036854775807 by omega)])
            · omega
            · omega
        · try simp (config := {maxSteps := 10000000}) [go_sem, ty3, ty24, ty26, ty45, hlt1, hw1, hle0, hlt3, htn, ib.1, ib2, ib3, hhb]
          refine callG_pc (fun hG => pc_impl_EventOf (runM m7 hs7 (o7.take (i + 1))) hb (o7[i + 1]) (by omega) (by omega)) (by first | (simp; done) | (simp [inR_iff]; done) | (simp [inR_iff]; grind) | grind) (fun hG => by simp [go_sem, hlt1, htn, ib.1, ib2, ib3, hhb]) rfl rfl (by first | exact Or.inl rfl | exact Or.inr rfl) ?_
          simp (config := {maxSteps := 10000000}) [go_sem, ty4, ty45, hlt1, hw1, hle0, hlt3, htn, ib.1, ib2, ib3, hhb]
          first | refine h29 _ ?_ | refine ⟨by omega, h29 _ ?_⟩ | refine ⟨by omega, by omega, h29 _ ?_⟩ | (repeat (refine ⟨by first | omega | grind, ?_⟩)); refine h29 _ ?_
          clear h29 K29
          refine W_seqK fun K36 h36 => ?_
          refine W_seqK fun K37 h37 => ?_
          refine W_reg ?_
          simp [go_sem, ty4, ty45]
          refine callG_pc (fun hG => pc_impl_Apart (evRes (runM m7 hs7 (o7.take i)) ha o7[i]) (evRes (runM m7 hs7 (o7.take (i + 1))) hb (o7[i + 1]))) (by first | (simp; done) | (simp [inR_iff]; done) | (simp [inR_iff]; grind) | grind) (fun hG => by simp [go_sem]) rfl rfl (by first | exact Or.inl rfl | exact Or.inr rfl) ?_
          simp [go_sem, ty4]
          first | refine h37 _ ?_ | refine ⟨by omega, h37 _ ?_⟩ | refine ⟨by omega, by omega, h37 _ ?_⟩ | (repeat (refine ⟨by first | omega | grind, ?_⟩)); refine h37 _ ?_
          clear h37 K37
          refine W_cond rfl (fun hb38 => ?_) fun hb38 => ?_
          · clear hb38
            refine W_exit ?_
            simp [go_sem]
            first | refine h25 _ ?_ | refine ⟨by omega, h25 _ ?_⟩ | refine ⟨by omega, by omega, h25 _ ?_⟩ | (repeat (refine ⟨by first | omega | grind, ?_⟩)); refine h25 _ ?_
            clear h36 K36 h25 K25
            refine W_reg ?_
            simp [go_sem, ty3]
            refine ⟨i + 1, ?_, ?_, ?_⟩
            · exact Sub.of_neat [3, 4, 5, 12, 13, 14] [2, 3, 4, 51, 52] [] 72 (by decide) (by simp [go_sem, wrap_succ (show i < 9223372036854775807 by omega)])
            · omega
            · omega
          · obtain ⟨pa, pb, pap⟩ : evOk (runM m7 hs7 (o7.take i)) ha = true ∧ evOk (runM m7 hs7 (o7.take (i + 1))) hb = true ∧ apartE (evRes (runM m7 hs7 (o7.take i)) ha o7[i]) (evRes (runM m7 hs7 (o7.take (i + 1))) hb o7[i + 1]) = true := by simp at hb38; grind
            have xa : evRes (runM m7 hs7 (o7.take i)) ha o7[i] = eventOf (runM m7 hs7 (o7.take i)) ha o7[i] := if_pos pa
            have xb : evRes (runM m7 hs7 (o7.take (i + 1))) hb o7[i + 1] = eventOf (runM m7 hs7 (o7.take (i + 1))) hb o7[i + 1] := if_pos pb
            rw [xa, xb] at pap
            have da : o7.getD i 0 = o7[i] := by rw [List.getD_eq_getElem?_getD, List.getElem?_eq_getElem hlt]; rfl
            have db : o7.getD (i + 1) 0 = o7[i + 1] := by rw [List.getD_eq_getElem?_getD, List.getElem?_eq_getElem hlt1]; rfl
            have ga : (runH m7 hs7 (o7.take i)).getD (o7.getD i 0).toNat z0 = ha := by rw [da, getD_lt ia2, hha]
            have gb : (runH m7 hs7 (o7.take (i + 1))).getD (o7.getD (i + 1) 0).toNat z0 = hb := by rw [db, getD_lt ib2, hhb]
            obtain ⟨w1, w2⟩ := run_turn (mem := m7) (hs := hs7) (order := o7) (i := i) (by omega) hlt1 e6_7 (by rw [ga]; exact pa) (by rw [gb]; exact pb) (by rw [ga, gb, da, db]; exact pap)
            clear hb38
            refine W_skip ?_
            first | refine h36 _ ?_ | refine ⟨by omega, h36 _ ?_⟩ | refine ⟨by omega, by omega, h36 _ ?_⟩ | (repeat (refine ⟨by first | omega | grind, ?_⟩)); refine h36 _ ?_
            clear h36 K36
            refine W_seqK fun K39 h39 => ?_
            refine W_reg ?_
            simp [go_sem, ty3, ty24, ty26, ty33]
            refine callG_pc (fun hG => pc_impl_TurnAt o7 i (by first | assumption | omega | (simp only [runM_len, runH_len, List.length_take, List.length_drop]; omega) | exact runH_regs (by assumption) _ | (have h9 := turnAt_len o7 i; omega) | (have h9 := turnAt_len o14 j14; omega) | (have h9 := readsOf_len e11; omega) | (have h9 := writesOf_len e12; omega) | (have h9 := turnAt_len (turnAt o14 j14) j14; have h8 := turnAt_len o14 j14; omega))) (by first | (simp; done) | (simp [inR_iff]; done) | (simp [inR_iff]; grind) | grind) (fun hG => by simp [go_sem]) rfl rfl (by first | exact Or.inl rfl | exact Or.inr rfl) ?_
            simp [go_sem, ty3, ty24, ty26, ty33]
            refine callG_pc (fun hG => pc_impl_FlatRun m7 hs7 (turnAt o7 i) (by first | assumption | omega | (simp only [runM_len, runH_len, List.length_take, List.length_drop]; omega) | exact runH_regs (by assumption) _ | (have h9 := turnAt_len o7 i; omega) | (have h9 := turnAt_len o14 j14; omega) | (have h9 := readsOf_len e11; omega) | (have h9 := writesOf_len e12; omega) | (have h9 := turnAt_len (turnAt o14 j14) j14; have h8 := turnAt_len o14 j14; omega)) (by first | assumption | omega | (simp only [runM_len, runH_len, List.length_take, List.length_drop]; omega) | exact runH_regs (by assumption) _ | (have h9 := turnAt_len o7 i; omega) | (have h9 := turnAt_len o14 j14; omega) | (have h9 := readsOf_len e11; omega) | (have h9 := writesOf_len e12; omega) | (have h9 := turnAt_len (turnAt o14 j14) j14; have h8 := turnAt_len o14 j14; omega)) (by first | assumption | omega | (simp only [runM_len, runH_len, List.length_take, List.length_drop]; omega) | exact runH_regs (by assumption) _ | (have h9 := turnAt_len o7 i; omega) | (have h9 := turnAt_len o14 j14; omega) | (have h9 := readsOf_len e11; omega) | (have h9 := writesOf_len e12; omega) | (have h9 := turnAt_len (turnAt o14 j14) j14; have h8 := turnAt_len o14 j14; omega)) (by first | assumption | omega | (simp only [runM_len, runH_len, List.length_take, List.length_drop]; omega) | exact runH_regs (by assumption) _ | (have h9 := turnAt_len o7 i; omega) | (have h9 := turnAt_len o14 j14; omega) | (have h9 := readsOf_len e11; omega) | (have h9 := writesOf_len e12; omega) | (have h9 := turnAt_len (turnAt o14 j14) j14; have h8 := turnAt_len o14 j14; omega))) (by first | (simp; done) | (simp [inR_iff]; done) | (simp [inR_iff]; grind) | grind) (fun hG => by simp [go_sem]) rfl rfl (by first | exact Or.inl rfl | exact Or.inr rfl) ?_
            simp [go_sem, ty3, ty24, ty26, ty33]
            first | refine h39 _ ?_ | refine ⟨by omega, h39 _ ?_⟩ | refine ⟨by omega, by omega, h39 _ ?_⟩ | (repeat (refine ⟨by first | omega | grind, ?_⟩)); refine h39 _ ?_
            clear h39 K39
            refine W_seqK fun K40 h40 => ?_
            refine W_reg ?_
            simp [go_sem, ty3, ty4, ty24]
            refine callG_pc (fun hG => pc_laws_sameInts (runM m7 hs7 o7) (runM m7 hs7 (turnAt o7 i)) (by first | assumption | omega | (simp only [runM_len, runH_len, List.length_take, List.length_drop]; omega) | exact runH_regs (by assumption) _ | (have h9 := turnAt_len o7 i; omega) | (have h9 := turnAt_len o14 j14; omega) | (have h9 := readsOf_len e11; omega) | (have h9 := writesOf_len e12; omega) | (have h9 := turnAt_len (turnAt o14 j14) j14; have h8 := turnAt_len o14 j14; omega))) (by first | (simp; done) | (simp [inR_iff]; done) | (simp [inR_iff]; grind) | grind) (fun hG => by simp [go_sem]) rfl rfl (by first | exact Or.inl rfl | exact Or.inr rfl) ?_
            simp [go_sem, ty4, ty26, ty33]
            refine callG_pc (fun hG => pc_laws_sameHarts (runH m7 hs7 o7) (runH m7 hs7 (turnAt o7 i)) (by first | assumption | omega | (simp only [runM_len, runH_len, List.length_take, List.length_drop]; omega) | exact runH_regs (by assumption) _ | (have h9 := turnAt_len o7 i; omega) | (have h9 := turnAt_len o14 j14; omega) | (have h9 := readsOf_len e11; omega) | (have h9 := writesOf_len e12; omega) | (have h9 := turnAt_len (turnAt o14 j14) j14; have h8 := turnAt_len o14 j14; omega)) (by first | assumption | omega | (simp only [runM_len, runH_len, List.length_take, List.length_drop]; omega) | exact runH_regs (by assumption) _ | (have h9 := turnAt_len o7 i; omega) | (have h9 := turnAt_len o14 j14; omega) | (have h9 := readsOf_len e11; omega) | (have h9 := writesOf_len e12; omega) | (have h9 := turnAt_len (turnAt o14 j14) j14; have h8 := turnAt_len o14 j14; omega))) (by first | (simp; done) | (simp [inR_iff]; done) | (simp [inR_iff]; grind) | grind) (fun hG => by simp [go_sem]) rfl rfl (by first | exact Or.inl rfl | exact Or.inr rfl) ?_
            simp [go_sem, ty4]
            first | refine h40 _ ?_ | refine ⟨by omega, h40 _ ?_⟩ | refine ⟨by omega, by omega, h40 _ ?_⟩ | (repeat (refine ⟨by first | omega | grind, ?_⟩)); refine h40 _ ?_
            clear h40 K40
            refine W_cond rfl (fun hb41 => by simp [w1, w2] at hb41) fun hb41 => ?_
            clear hb41
            refine W_skip ?_
            first | refine h25 _ ?_ | refine ⟨by omega, h25 _ ?_⟩ | refine ⟨by omega, by omega, h25 _ ?_⟩ | (repeat (refine ⟨by first | omega | grind, ?_⟩)); refine h25 _ ?_
            clear h25 K25
            refine W_reg ?_
            simp [go_sem, ty3]
            refine ⟨i + 1, ?_, ?_, ?_⟩
            · exact Sub.of_neat [3, 4, 5, 12, 13, 14] [2, 3, 4, 51, 52] [] 72 (by decide) (by simp [go_sem, wrap_succ (show i < 9223372036854775807 by omega)])
            · omega
            · omega
      · try simp (config := {maxSteps := 10000000}) [go_sem, ty3, ty24, ty26, ty45, hlt, ia.1, ia2, ia3, hha]
        refine callG_pc (fun hG => pc_impl_EventOf (runM m7 hs7 (o7.take i)) ha o7[i] (by omega) (by omega)) (by first | (simp; done) | (simp [inR_iff]; done) | (simp [inR_iff]; grind) | grind) (fun hG => by simp [go_sem, hlt, ia.1, ia2, ia3, hha]) rfl rfl (by first | exact Or.inl rfl | exact Or.inr rfl) ?_
        simp (config := {maxSteps := 10000000}) [go_sem, ty4, ty45, hlt, ia.1, ia2, ia3, hha]
        first | refine h27 _ ?_ | refine ⟨by omega, h27 _ ?_⟩ | refine ⟨by omega, by omega, h27 _ ?_⟩ | (repeat (refine ⟨by first | omega | grind, ?_⟩)); refine h27 _ ?_
        clear h27 K27
        refine W_seqK fun K42 h42 => ?_
        refine W_reg ?_
        simp [go_sem, ty3, ty24, ty26, ty33, hlt1, hw1, hle1, hle2, hle0]
        refine callG_pc (fun hG => pc_impl_FlatRun m7 hs7 (o7.take (i + 1)) (by omega) (by omega) hq7 (by simp; omega)) (by first | (simp; done) | (simp [inR_iff]; done) | (simp [inR_iff]; grind) | grind) (fun hG => by simp [go_sem]) rfl rfl (by first | exact Or.inl rfl | exact Or.inr rfl) ?_
        simp [go_sem, ty3, ty24, ty26, ty33, hlt1, hw1, hle1, hle2, hle0]
        first | refine h42 _ ?_ | refine ⟨by omega, h42 _ ?_⟩ | refine ⟨by omega, by omega, h42 _ ?_⟩ | (repeat (refine ⟨by first | omega | grind, ?_⟩)); refine h42 _ ?_
        clear h42 K42
        refine W_seqK fun K43 h43 => ?_
        refine W_drawS true (.op 0 (.op 1 (.op 2 (.op 3 (.op 4 (.op 5 (.op 6 (.op 7 (.op 8 (.op 9 (.op 10 (.op 11 (.op 12 (.op 13 (.fork 14 (.op 15 (.op 16 (.op 17 (.op 18 (.op 19 (.op 20 .nil)))))) 18 (.op 14 (.op 15 (.op 16 (.op 17 (.op 19 (.op 20 .nil))))))))))))))))))))) mixed (by decide +kernel) rfl ?_
        simp (config := {maxSteps := 10000000}) [go_sem, ty3, ty24, ty26, ty33, hlt1, hw1, hle0, hlt3, htn, ib.1, ib2, ib3, hhb]
        refine ⟨?_, ?_⟩
        · try simp (config := {maxSteps := 10000000}) [go_sem, ty3, ty24, ty26, hlt1, hw1, hle0, hlt3, htn, ib.1, ib2, ib3, hhb]
          refine callG_pc (fun hG => pc_impl_EventOf (runM m7 hs7 (o7.take (i + 1))) hb (o7[i + 1]) (by omega) (by omega)) (by first | (simp; done) | (simp [inR_iff]; done) | (simp [inR_iff]; grind) | grind) (fun hG => by simp [go_sem, hlt1, htn, ib.1, ib2, ib3, hhb]) rfl rfl (by first | exact Or.inl rfl | exact Or.inr rfl) ?_
          simp (config := {maxSteps := 10000000}) [go_sem, ty4, ty45, hlt1, hw1, hle0, hlt3, htn, ib.1, ib2, ib3, hhb]
          first | refine h43 _ ?_ | refine ⟨by omega, h43 _ ?_⟩ | refine ⟨by omega, by omega, h43 _ ?_⟩ | (repeat (refine ⟨by first | omega | grind, ?_⟩)); refine h43 _ ?_
          clear h43 K43
          refine W_seqK fun K44 h44 => ?_
          refine W_seqK fun K45 h45 => ?_
          refine W_reg ?_
          simp [go_sem, ty4, ty45]
          refine callG_pc (fun hG => pc_impl_Apart (evRes (runM m7 hs7 (o7.take i)) ha o7[i]) (evRes (runM m7 hs7 (o7.take (i + 1))) hb (o7[i + 1]))) (by first | (simp; done) | (simp [inR_iff]; done) | (simp [inR_iff]; grind) | grind) (fun hG => by simp [go_sem]) rfl rfl (by first | exact Or.inl rfl | exact Or.inr rfl) ?_
          simp [go_sem, ty4]
          first | refine h45 _ ?_ | refine ⟨by omega, h45 _ ?_⟩ | refine ⟨by omega, by omega, h45 _ ?_⟩ | (repeat (refine ⟨by first | omega | grind, ?_⟩)); refine h45 _ ?_
          clear h45 K45
          refine W_cond rfl (fun hb46 => ?_) fun hb46 => ?_
          · clear hb46
            refine W_exit ?_
            simp [go_sem]
            first | refine h25 _ ?_ | refine ⟨by omega, h25 _ ?_⟩ | refine ⟨by omega, by omega, h25 _ ?_⟩ | (repeat (refine ⟨by first | omega | grind, ?_⟩)); refine h25 _ ?_
            clear h44 K44 h25 K25
            refine W_reg ?_
            simp [go_sem, ty3]
            refine ⟨i + 1, ?_, ?_, ?_⟩
            · exact Sub.of_neat [3, 4, 5, 12, 13, 14] [2, 3, 4, 51, 52] [] 72 (by decide) (by simp [go_sem, wrap_succ (show i < 9223372036854775807 by omega)])
            · omega
            · omega
          · obtain ⟨pa, pb, pap⟩ : evOk (runM m7 hs7 (o7.take i)) ha = true ∧ evOk (runM m7 hs7 (o7.take (i + 1))) hb = true ∧ apartE (evRes (runM m7 hs7 (o7.take i)) ha o7[i]) (evRes (runM m7 hs7 (o7.take (i + 1))) hb o7[i + 1]) = true := by simp at hb46; grind
            have xa : evRes (runM m7 hs7 (o7.take i)) ha o7[i] = eventOf (runM m7 hs7 (o7.take i)) ha o7[i] := if_pos pa
            have xb : evRes (runM m7 hs7 (o7.take (i + 1))) hb o7[i + 1] = eventOf (runM m7 hs7 (o7.take (i + 1))) hb o7[i + 1] := if_pos pb
            rw [xa, xb] at pap
            have da : o7.getD i 0 = o7[i] := by rw [List.getD_eq_getElem?_getD, List.getElem?_eq_getElem hlt]; rfl
            have db : o7.getD (i + 1) 0 = o7[i + 1] := by rw [List.getD_eq_getElem?_getD, List.getElem?_eq_getElem hlt1]; rfl
            have ga : (runH m7 hs7 (o7.take i)).getD (o7.getD i 0).toNat z0 = ha := by rw [da, getD_lt ia2, hha]
            have gb : (runH m7 hs7 (o7.take (i + 1))).getD (o7.getD (i + 1) 0).toNat z0 = hb := by rw [db, getD_lt ib2, hhb]
            obtain ⟨w1, w2⟩ := run_turn (mem := m7) (hs := hs7) (order := o7) (i := i) (by omega) hlt1 e6_7 (by rw [ga]; exact pa) (by rw [gb]; exact pb) (by rw [ga, gb, da, db]; exact pap)
            clear hb46
            refine W_skip ?_
            first | refine h44 _ ?_ | refine ⟨by omega, h44 _ ?_⟩ | refine ⟨by omega, by omega, h44 _ ?_⟩ | (repeat (refine ⟨by first | omega | grind, ?_⟩)); refine h44 _ ?_
            clear h44 K44
            refine W_seqK fun K47 h47 => ?_
            refine W_reg ?_
            simp [go_sem, ty3, ty24, ty26, ty33]
            refine callG_pc (fun hG => pc_impl_TurnAt o7 i (by first | assumption | omega | (simp only [runM_len, runH_len, List.length_take, List.length_drop]; omega) | exact runH_regs (by assumption) _ | (have h9 := turnAt_len o7 i; omega) | (have h9 := turnAt_len o14 j14; omega) | (have h9 := readsOf_len e11; omega) | (have h9 := writesOf_len e12; omega) | (have h9 := turnAt_len (turnAt o14 j14) j14; have h8 := turnAt_len o14 j14; omega))) (by first | (simp; done) | (simp [inR_iff]; done) | (simp [inR_iff]; grind) | grind) (fun hG => by simp [go_sem]) rfl rfl (by first | exact Or.inl rfl | exact Or.inr rfl) ?_
            simp [go_sem, ty3, ty24, ty26, ty33]
            refine callG_pc (fun hG => pc_impl_FlatRun m7 hs7 (turnAt o7 i) (by first | assumption | omega | (simp only [runM_len, runH_len, List.length_take, List.length_drop]; omega) | exact runH_regs (by assumption) _ | (have h9 := turnAt_len o7 i; omega) | (have h9 := turnAt_len o14 j14; omega) | (have h9 := readsOf_len e11; omega) | (have h9 := writesOf_len e12; omega) | (have h9 := turnAt_len (turnAt o14 j14) j14; have h8 := turnAt_len o14 j14; omega)) (by first | assumption | omega | (simp only [runM_len, runH_len, List.length_take, List.length_drop]; omega) | exact runH_regs (by assumption) _ | (have h9 := turnAt_len o7 i; omega) | (have h9 := turnAt_len o14 j14; omega) | (have h9 := readsOf_len e11; omega) | (have h9 := writesOf_len e12; omega) | (have h9 := turnAt_len (turnAt o14 j14) j14; have h8 := turnAt_len o14 j14; omega)) (by first | assumption | omega | (simp only [runM_len, runH_len, List.length_take, List.length_drop]; omega) | exact runH_regs (by assumption) _ | (have h9 := turnAt_len o7 i; omega) | (have h9 := turnAt_len o14 j14; omega) | (have h9 := readsOf_len e11; omega) | (have h9 := writesOf_len e12; omega) | (have h9 := turnAt_len (turnAt o14 j14) j14; have h8 := turnAt_len o14 j14; omega)) (by first | assumption | omega | (simp only [runM_len, runH_len, List.length_take, List.length_drop]; omega) | exact runH_regs (by assumption) _ | (have h9 := turnAt_len o7 i; omega) | (have h9 := turnAt_len o14 j14; omega) | (have h9 := readsOf_len e11; omega) | (have h9 := writesOf_len e12; omega) | (have h9 := turnAt_len (turnAt o14 j14) j14; have h8 := turnAt_len o14 j14; omega))) (by first | (simp; done) | (simp [inR_iff]; done) | (simp [inR_iff]; grind) | grind) (fun hG => by simp [go_sem]) rfl rfl (by first | exact Or.inl rfl | exact Or.inr rfl) ?_
            simp [go_sem, ty3, ty24, ty26, ty33]
            first | refine h47 _ ?_ | refine ⟨by omega, h47 _ ?_⟩ | refine ⟨by omega, by omega, h47 _ ?_⟩ | (repeat (refine ⟨by first | omega | grind, ?_⟩)); refine h47 _ ?_
            clear h47 K47
            refine W_seqK fun K48 h48 => ?_
            refine W_reg ?_
            simp [go_sem, ty3, ty4, ty24]
            refine callG_pc (fun hG => pc_laws_sameInts (runM m7 hs7 o7) (runM m7 hs7 (turnAt o7 i)) (by first | assumption | omega | (simp only [runM_len, runH_len, List.length_take, List.length_drop]; omega) | exact runH_regs (by assumption) _ | (have h9 := turnAt_len o7 i; omega) | (have h9 := turnAt_len o14 j14; omega) | (have h9 := readsOf_len e11; omega) | (have h9 := writesOf_len e12; omega) | (have h9 := turnAt_len (turnAt o14 j14) j14; have h8 := turnAt_len o14 j14; omega))) (by first | (simp; done) | (simp [inR_iff]; done) | (simp [inR_iff]; grind) | grind) (fun hG => by simp [go_sem]) rfl rfl (by first | exact Or.inl rfl | exact Or.inr rfl) ?_
            simp [go_sem, ty4, ty26, ty33]
            refine callG_pc (fun hG => pc_laws_sameHarts (runH m7 hs7 o7) (runH m7 hs7 (turnAt o7 i)) (by first | assumption | omega | (simp only [runM_len, runH_len, List.length_take, List.length_drop]; omega) | exact runH_regs (by assumption) _ | (have h9 := turnAt_len o7 i; omega) | (have h9 := turnAt_len o14 j14; omega) | (have h9 := readsOf_len e11; omega) | (have h9 := writesOf_len e12; omega) | (have h9 := turnAt_len (turnAt o14 j14) j14; have h8 := turnAt_len o14 j14; omega)) (by first | assumption | omega | (simp only [runM_len, runH_len, List.length_take, List.length_drop]; omega) | exact runH_regs (by assumption) _ | (have h9 := turnAt_len o7 i; omega) | (have h9 := turnAt_len o14 j14; omega) | (have h9 := readsOf_len e11; omega) | (have h9 := writesOf_len e12; omega) | (have h9 := turnAt_len (turnAt o14 j14) j14; have h8 := turnAt_len o14 j14; omega))) (by first | (simp; done) | (simp [inR_iff]; done) | (simp [inR_iff]; grind) | grind) (fun hG => by simp [go_sem]) rfl rfl (by first | exact Or.inl rfl | exact Or.inr rfl) ?_
            simp [go_sem, ty4]
            first | refine h48 _ ?_ | refine ⟨by omega, h48 _ ?_⟩ | refine ⟨by omega, by omega, h48 _ ?_⟩ | (repeat (refine ⟨by first | omega | grind, ?_⟩)); refine h48 _ ?_
            clear h48 K48
            refine W_cond rfl (fun hb49 => by simp [w1, w2] at hb49) fun hb49 => ?_
            clear hb49
            refine W_skip ?_
            first | refine h25 _ ?_ | refine ⟨by omega, h25 _ ?_⟩ | refine ⟨by omega, by omega, h25 _ ?_⟩ | (repeat (refine ⟨by first | omega | grind, ?_⟩)); refine h25 _ ?_
            clear h25 K25
            refine W_reg ?_
            simp [go_sem, ty3]
            refine ⟨i + 1, ?_, ?_, ?_⟩
            · exact Sub.of_neat [3, 4, 5, 12, 13, 14] [2, 3, 4, 51, 52] [] 72 (by decide) (by simp [go_sem, wrap_succ (show i < 9223372036854775807 by omega)])
            · omega
            · omega
        · try simp (config := {maxSteps := 10000000}) [go_sem, ty3, ty24, ty26, ty45, hlt1, hw1, hle0, hlt3, htn, ib.1, ib2, ib3, hhb]
          refine callG_pc (fun hG => pc_impl_EventOf (runM m7 hs7 (o7.take (i + 1))) hb (o7[i + 1]) (by omega) (by omega)) (by first | (simp; done) | (simp [inR_iff]; done) | (simp [inR_iff]; grind) | grind) (fun hG => by simp [go_sem, hlt1, htn, ib.1, ib2, ib3, hhb]) rfl rfl (by first | exact Or.inl rfl | exact Or.inr rfl) ?_
          simp (config := {maxSteps := 10000000}) [go_sem, ty4, ty45, hlt1, hw1, hle0, hlt3, htn, ib.1, ib2, ib3, hhb]
          first | refine h43 _ ?_ | refine ⟨by omega, h43 _ ?_⟩ | refine ⟨by omega, by omega, h43 _ ?_⟩ | (repeat (refine ⟨by first | omega | grind, ?_⟩)); refine h43 _ ?_
          clear h43 K43
          refine W_seqK fun K50 h50 => ?_
          refine W_seqK fun K51 h51 => ?_
          refine W_reg ?_
          simp [go_sem, ty4, ty45]
          refine callG_pc (fun hG => pc_impl_Apart (evRes (runM m7 hs7 (o7.take i)) ha o7[i]) (evRes (runM m7 hs7 (o7.take (i + 1))) hb (o7[i + 1]))) (by first | (simp; done) | (simp [inR_iff]; done) | (simp [inR_iff]; grind) | grind) (fun hG => by simp [go_sem]) rfl rfl (by first | exact Or.inl rfl | exact Or.inr rfl) ?_
          simp [go_sem, ty4]
          first | refine h51 _ ?_ | refine ⟨by omega, h51 _ ?_⟩ | refine ⟨by omega, by omega, h51 _ ?_⟩ | (repeat (refine ⟨by first | omega | grind, ?_⟩)); refine h51 _ ?_
          clear h51 K51
          refine W_cond rfl (fun hb52 => ?_) fun hb52 => ?_
          · clear hb52
            refine W_exit ?_
            simp [go_sem]
            first | refine h25 _ ?_ | refine ⟨by omega, h25 _ ?_⟩ | refine ⟨by omega, by omega, h25 _ ?_⟩ | (repeat (refine ⟨by first | omega | grind, ?_⟩)); refine h25 _ ?_
            clear h50 K50 h25 K25
            refine W_reg ?_
            simp [go_sem, ty3]
            refine ⟨i + 1, ?_, ?_, ?_⟩
            · exact Sub.of_neat [3, 4, 5, 12, 13, 14] [2, 3, 4, 51, 52] [] 72 (by decide) (by simp [go_sem, wrap_succ (show i < 9223372036854775807 by omega)])
            · omega
            · omega
          · obtain ⟨pa, pb, pap⟩ : evOk (runM m7 hs7 (o7.take i)) ha = true ∧ evOk (runM m7 hs7 (o7.take (i + 1))) hb = true ∧ apartE (evRes (runM m7 hs7 (o7.take i)) ha o7[i]) (evRes (runM m7 hs7 (o7.take (i + 1))) hb o7[i + 1]) = true := by simp at hb52; grind
            have xa : evRes (runM m7 hs7 (o7.take i)) ha o7[i] = eventOf (runM m7 hs7 (o7.take i)) ha o7[i] := if_pos pa
            have xb : evRes (runM m7 hs7 (o7.take (i + 1))) hb o7[i + 1] = eventOf (runM m7 hs7 (o7.take (i + 1))) hb o7[i + 1] := if_pos pb
            rw [xa, xb] at pap
            have da : o7.getD i 0 = o7[i] := by rw [List.getD_eq_getElem?_getD, List.getElem?_eq_getElem hlt]; rfl
            have db : o7.getD (i + 1) 0 = o7[i + 1] := by rw [List.getD_eq_getElem?_getD, List.getElem?_eq_getElem hlt1]; rfl
            have ga : (runH m7 hs7 (o7.take i)).getD (o7.getD i 0).toNat z0 = ha := by rw [da, getD_lt ia2, hha]
            have gb : (runH m7 hs7 (o7.take (i + 1))).getD (o7.getD (i + 1) 0).toNat z0 = hb := by rw [db, getD_lt ib2, hhb]
            obtain ⟨w1, w2⟩ := run_turn (mem := m7) (hs := hs7) (order := o7) (i := i) (by omega) hlt1 e6_7 (by rw [ga]; exact pa) (by rw [gb]; exact pb) (by rw [ga, gb, da, db]; exact pap)
            clear hb52
            refine W_skip ?_
            first | refine h50 _ ?_ | refine ⟨by omega, h50 _ ?_⟩ | refine ⟨by omega, by omega, h50 _ ?_⟩ | (repeat (refine ⟨by first | omega | grind, ?_⟩)); refine h50 _ ?_
            clear h50 K50
            refine W_seqK fun K53 h53 => ?_
            refine W_reg ?_
            simp [go_sem, ty3, ty24, ty26, ty33]
            refine callG_pc (fun hG => pc_impl_TurnAt o7 i (by first | assumption | omega | (simp only [runM_len, runH_len, List.length_take, List.length_drop]; omega) | exact runH_regs (by assumption) _ | (have h9 := turnAt_len o7 i; omega) | (have h9 := turnAt_len o14 j14; omega) | (have h9 := readsOf_len e11; omega) | (have h9 := writesOf_len e12; omega) | (have h9 := turnAt_len (turnAt o14 j14) j14; have h8 := turnAt_len o14 j14; omega))) (by first | (simp; done) | (simp [inR_iff]; done) | (simp [inR_iff]; grind) | grind) (fun hG => by simp [go_sem]) rfl rfl (by first | exact Or.inl rfl | exact Or.inr rfl) ?_
            simp [go_sem, ty3, ty24, ty26, ty33]
            refine callG_pc (fun hG => pc_impl_FlatRun m7 hs7 (turnAt o7 i) (by first | assumption | omega | (simp only [runM_len, runH_len, List.length_take, List.length_drop]; omega) | exact runH_regs (by assumption) _ | (have h9 := turnAt_len o7 i; omega) | (have h9 := turnAt_len o14 j14; omega) | (have h9 := readsOf_len e11; omega) | (have h9 := writesOf_len e12; omega) | (have h9 := turnAt_len (turnAt o14 j14) j14; have h8 := turnAt_len o14 j14; omega)) (by first | assumption | omega | (simp only [runM_len, runH_len, List.length_take, List.length_drop]; omega) | exact runH_regs (by assumption) _ | (have h9 := turnAt_len o7 i; omega) | (have h9 := turnAt_len o14 j14; omega) | (have h9 := readsOf_len e11; omega) | (have h9 := writesOf_len e12; omega) | (have h9 := turnAt_len (turnAt o14 j14) j14; have h8 := turnAt_len o14 j14; omega)) (by first | assumption | omega | (simp only [runM_len, runH_len, List.length_take, List.length_drop]; omega) | exact runH_regs (by assumption) _ | (have h9 := turnAt_len o7 i; omega) | (have h9 := turnAt_len o14 j14; omega) | (have h9 := readsOf_len e11; omega) | (have h9 := writesOf_len e12; omega) | (have h9 := turnAt_len (turnAt o14 j14) j14; have h8 := turnAt_len o14 j14; omega)) (by first | assumption | omega | (simp only [runM_len, runH_len, List.length_take, List.length_drop]; omega) | exact runH_regs (by assumption) _ | (have h9 := turnAt_len o7 i; omega) | (have h9 := turnAt_len o14 j14; omega) | (have h9 := readsOf_len e11; omega) | (have h9 := writesOf_len e12; omega) | (have h9 := turnAt_len (turnAt o14 j14) j14; have h8 := turnAt_len o14 j14; omega))) (by first | (simp; done) | (simp [inR_iff]; done) | (simp [inR_iff]; grind) | grind) (fun hG => by simp [go_sem]) rfl rfl (by first | exact Or.inl rfl | exact Or.inr rfl) ?_
            simp [go_sem, ty3, ty24, ty26, ty33]
            first | refine h53 _ ?_ | refine ⟨by omega, h53 _ ?_⟩ | refine ⟨by omega, by omega, h53 _ ?_⟩ | (repeat (refine ⟨by first | omega | grind, ?_⟩)); refine h53 _ ?_
            clear h53 K53
            refine W_seqK fun K54 h54 => ?_
            refine W_reg ?_
            simp [go_sem, ty3, ty4, ty24]
            refine callG_pc (fun hG => pc_laws_sameInts (runM m7 hs7 o7) (runM m7 hs7 (turnAt o7 i)) (by first | assumption | omega | (simp only [runM_len, runH_len, List.length_take, List.length_drop]; omega) | exact runH_regs (by assumption) _ | (have h9 := turnAt_len o7 i; omega) | (have h9 := turnAt_len o14 j14; omega) | (have h9 := readsOf_len e11; omega) | (have h9 := writesOf_len e12; omega) | (have h9 := turnAt_len (turnAt o14 j14) j14; have h8 := turnAt_len o14 j14; omega))) (by first | (simp; done) | (simp [inR_iff]; done) | (simp [inR_iff]; grind) | grind) (fun hG => by simp [go_sem]) rfl rfl (by first | exact Or.inl rfl | exact Or.inr rfl) ?_
            simp [go_sem, ty4, ty26, ty33]
            refine callG_pc (fun hG => pc_laws_sameHarts (runH m7 hs7 o7) (runH m7 hs7 (turnAt o7 i)) (by first | assumption | omega | (simp only [runM_len, runH_len, List.length_take, List.length_drop]; omega) | exact runH_regs (by assumption) _ | (have h9 := turnAt_len o7 i; omega) | (have h9 := turnAt_len o14 j14; omega) | (have h9 := readsOf_len e11; omega) | (have h9 := writesOf_len e12; omega) | (have h9 := turnAt_len (turnAt o14 j14) j14; have h8 := turnAt_len o14 j14; omega)) (by first | assumption | omega | (simp only [runM_len, runH_len, List.length_take, List.length_drop]; omega) | exact runH_regs (by assumption) _ | (have h9 := turnAt_len o7 i; omega) | (have h9 := turnAt_len o14 j14; omega) | (have h9 := readsOf_len e11; omega) | (have h9 := writesOf_len e12; omega) | (have h9 := turnAt_len (turnAt o14 j14) j14; have h8 := turnAt_len o14 j14; omega))) (by first | (simp; done) | (simp [inR_iff]; done) | (simp [inR_iff]; grind) | grind) (fun hG => by simp [go_sem]) rfl rfl (by first | exact Or.inl rfl | exact Or.inr rfl) ?_
            simp [go_sem, ty4]
            first | refine h54 _ ?_ | refine ⟨by omega, h54 _ ?_⟩ | refine ⟨by omega, by omega, h54 _ ?_⟩ | (repeat (refine ⟨by first | omega | grind, ?_⟩)); refine h54 _ ?_
            clear h54 K54
            refine W_cond rfl (fun hb55 => by simp [w1, w2] at hb55) fun hb55 => ?_
            clear hb55
            refine W_skip ?_
            first | refine h25 _ ?_ | refine ⟨by omega, h25 _ ?_⟩ | refine ⟨by omega, by omega, h25 _ ?_⟩ | (repeat (refine ⟨by first | omega | grind, ?_⟩)); refine h25 _ ?_
            clear h25 K25
            refine W_reg ?_
            simp [go_sem, ty3]
            refine ⟨i + 1, ?_, ?_, ?_⟩
            · exact Sub.of_neat [3, 4, 5, 12, 13, 14] [2, 3, 4, 51, 52] [] 72 (by decide) (by simp [go_sem, wrap_succ (show i < 9223372036854775807 by omega)])
            · omega
            · omega
    · clear hb24
      refine W_exit ?_
      simp [go_sem]
      first | refine h19 _ ?_ | refine ⟨by omega, h19 _ ?_⟩ | refine ⟨by omega, by omega, h19 _ ?_⟩ | (repeat (refine ⟨by first | omega | grind, ?_⟩)); refine h19 _ ?_
      clear h22 K22 h19 K19
      refine W_seqK fun K56 h56 => ?_
      refine W_reg ?_
      simp [go_sem, ty4]
      first | refine h56 _ ?_ | refine ⟨by omega, h56 _ ?_⟩ | refine ⟨by omega, by omega, h56 _ ?_⟩ | (repeat (refine ⟨by first | omega | grind, ?_⟩)); refine h56 _ ?_
      clear h56 K56
      refine W_ret ?_
      simp [go_sem]
end Go.Tw
