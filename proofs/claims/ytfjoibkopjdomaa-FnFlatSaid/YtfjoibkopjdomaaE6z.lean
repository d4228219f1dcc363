/- Walks of functions: laws.FnFlat -/
import Derived.Test.YtfjoibkopjdomaaE6w
import Derived.Test.YtfjoibkopjdomaaE6o
import Derived.Test.YtfjoibkopjdomaaE6p
import Derived.Test.YtfjoibkopjdomaaE6q
set_option linter.unusedSimpArgs false
set_option linter.unusedVariables false
set_option linter.unnecessarySimpa false
namespace Go.Tw
open Go.Proofs

set_option maxRecDepth 100000 in
set_option maxHeartbeats 4000000 in
theorem pc_laws_FnFlat (code : List Int)  : PC Try.prog 3 [(false, [.sl 1 (enc eU code)])] [(false, [.bool true])] := by
  refine PC_of (n := 162) Try.func3 rfl rfl rfl rfl (by simp) ?_
  refine W_seqK fun K1 h1 => ?_
  refine W_reg ?_
  simp [go_sem, ty4]
  first | refine h1 _ ?_ | refine ⟨by omega, h1 _ ?_⟩ | refine ⟨by omega, by omega, h1 _ ?_⟩ | (repeat (refine ⟨by first | omega | grind, ?_⟩)); refine h1 _ ?_
  clear h1 K1
  refine W_seqK fun K2 h2 => ?_
  refine W_seqK fun K3 h3 => ?_
  refine W_reg ?_
  simp [go_sem, ty4, ty5, ty22]
  refine callG_pc (fun hG => pc_laws_big code) (by first | (simp; done) | (simp [inR_iff]; done) | (simp [inR_iff]; grind) | grind) (fun hG => by simp [go_sem]) rfl rfl (by first | exact Or.inl rfl | exact Or.inr rfl) ?_
  simp [go_sem]
  first | refine h3 _ ?_ | refine ⟨by omega, h3 _ ?_⟩ | refine ⟨by omega, by omega, h3 _ ?_⟩ | (repeat (refine ⟨by first | omega | grind, ?_⟩)); refine h3 _ ?_
  clear h3 K3
  refine W_cond rfl (fun hb4 => ?_) fun hb4 => ?_
  · skip
    refine W_seqK fun K5 h5 => ?_
    refine W_reg ?_
    simp [go_sem, ty4]
    first | refine h5 _ ?_ | refine ⟨by omega, h5 _ ?_⟩ | refine ⟨by omega, by omega, h5 _ ?_⟩ | (repeat (refine ⟨by first | omega | grind, ?_⟩)); refine h5 _ ?_
    clear h5 K5
    refine W_ret ?_
    simp [go_sem]
  · have hcs : code.length ≤ 1048576 := by simp at hb4; omega
    clear hb4
    refine W_skip ?_
    first | refine h2 _ ?_ | refine ⟨by omega, h2 _ ?_⟩ | refine ⟨by omega, by omega, h2 _ ?_⟩ | (repeat (refine ⟨by first | omega | grind, ?_⟩)); refine h2 _ ?_
    clear h2 K2
    refine W_seqK fun K6 h6 => ?_
    refine W_reg ?_
    simp [go_sem, ty5, ty22]
    refine callG_true (by simp) (CallW_E (pe_spec_DrawFlatStep code (by first | first | assumption | omega | (simp only [runM_len, runH_len, List.length_take, List.length_drop]; omega) | exact runH_regs (by assumption) _ | (simp only [flatM_len, flat_regs]; omega) | (simp; done) | (simp; omega))) (by simp [go_sem, enc, eI]) _ (fun _ => rfl) rfl ?_)
    rintro ⟨m7, h7⟩ hq7
    try dsimp only at hq7
    simp [go_sem, ty3, ty24, ty26]
    first | refine h6 _ ?_ | refine ⟨by omega, h6 _ ?_⟩ | refine ⟨by omega, by omega, h6 _ ?_⟩ | (repeat (refine ⟨by first | omega | grind, ?_⟩)); refine h6 _ ?_
    clear h6 K6
    refine W_seqK fun K8 h8 => ?_
    refine W_reg ?_
    simp [go_sem, ty3, ty24, ty26]
    refine callG_pc (fun hG => pc_impl_FlatStep m7 h7 (by first | assumption | omega | (simp only [runM_len, runH_len, List.length_take, List.length_drop]; omega) | exact runH_regs (by assumption) _ | (simp only [flatM_len, flat_regs]; omega)) (by first | assumption | omega | (simp only [runM_len, runH_len, List.length_take, List.length_drop]; omega) | exact runH_regs (by assumption) _ | (simp only [flatM_len, flat_regs]; omega))) (by first | (simp; done) | (simp [inR_iff]; done) | (simp [inR_iff]; grind) | grind) (fun hG => by simp [go_sem]) rfl rfl (by first | exact Or.inl rfl | exact Or.inr rfl) ?_
    simp [go_sem, ty3, ty24, ty26]
    first | refine h8 _ ?_ | refine ⟨by omega, h8 _ ?_⟩ | refine ⟨by omega, by omega, h8 _ ?_⟩ | (repeat (refine ⟨by first | omega | grind, ?_⟩)); refine h8 _ ?_
    clear h8 K8
    refine W_seqK fun K9 h9 => ?_
    refine W_reg ?_
    simp [go_sem, ty3, ty24, ty26]
    refine callG_pc (fun hG => pc_spec_FlatStep m7 h7 (by first | assumption | omega | (simp only [runM_len, runH_len, List.length_take, List.length_drop]; omega) | exact runH_regs (by assumption) _ | (simp only [flatM_len, flat_regs]; omega)) (by first | assumption | omega | (simp only [runM_len, runH_len, List.length_take, List.length_drop]; omega) | exact runH_regs (by assumption) _ | (simp only [flatM_len, flat_regs]; omega))) (by first | (simp; done) | (simp [inR_iff]; done) | (simp [inR_iff]; grind) | grind) (fun hG => by simp [go_sem]) rfl rfl (by first | exact Or.inl rfl | exact Or.inr rfl) ?_
    simp [go_sem, ty3, ty24, ty26]
    first | refine h9 _ ?_ | refine ⟨by omega, h9 _ ?_⟩ | refine ⟨by omega, by omega, h9 _ ?_⟩ | (repeat (refine ⟨by first | omega | grind, ?_⟩)); refine h9 _ ?_
    clear h9 K9
    refine W_seqK fun K10 h10 => ?_
    refine W_seqK fun K11 h11 => ?_
    refine W_drawO true [0, 1, 2, 3, 4, 5, 6, 7, 8, 9, 10, 11, 13, 12, 14, 15, 16] mixed (by decide +kernel) ?_
    simp [go_sem, ty3, ty4, ty24]
    refine callG_pc (fun hG => pc_laws_sameInts (flatM m7 h7) (flatM m7 h7) (by first | assumption | omega | (simp only [runM_len, runH_len, List.length_take, List.length_drop]; omega) | exact runH_regs (by assumption) _ | (simp only [flatM_len, flat_regs]; omega))) (by first | (simp; done) | (simp [inR_iff]; done) | (simp [inR_iff]; grind) | grind) (fun hG => by simp [go_sem]) rfl rfl (by first | exact Or.inl rfl | exact Or.inr rfl) ?_
    simp [go_sem, ty4, ty26]
    refine callG_pc (fun hG => pc_impl_SameHart (flatH m7 h7) (flatH m7 h7) (by first | assumption | omega | (simp only [runM_len, runH_len, List.length_take, List.length_drop]; omega) | exact runH_regs (by assumption) _ | (simp only [flatM_len, flat_regs]; omega))) (by first | (simp; done) | (simp [inR_iff]; done) | (simp [inR_iff]; grind) | grind) (fun hG => by simp [go_sem]) rfl rfl (by first | exact Or.inl rfl | exact Or.inr rfl) ?_
    simp [go_sem, ty4, ty26]
    refine callG_pc (fun hG => pc_impl_HartOk h7 (by first | assumption | omega | (simp only [runM_len, runH_len, List.length_take, List.length_drop]; omega) | exact runH_regs (by assumption) _ | (simp only [flatM_len, flat_regs]; omega))) (by first | (simp; done) | (simp [inR_iff]; done) | (simp [inR_iff]; grind) | grind) (fun hG => by simp [go_sem]) rfl rfl (by first | exact Or.inl rfl | exact Or.inr rfl) ?_
    simp [go_sem, ty4, ty26]
    refine callG_pc (fun hG => pc_spec_HartOk h7 (by first | assumption | omega | (simp only [runM_len, runH_len, List.length_take, List.length_drop]; omega) | exact runH_regs (by assumption) _ | (simp only [flatM_len, flat_regs]; omega))) (by first | (simp; done) | (simp [inR_iff]; done) | (simp [inR_iff]; grind) | grind) (fun hG => by simp [go_sem]) rfl rfl (by first | exact Or.inl rfl | exact Or.inr rfl) ?_
    simp [go_sem, ty4]
    first | refine h11 _ ?_ | refine ⟨by omega, h11 _ ?_⟩ | refine ⟨by omega, by omega, h11 _ ?_⟩ | (repeat (refine ⟨by first | omega | grind, ?_⟩)); refine h11 _ ?_
    clear h11 K11
    refine W_cond rfl (fun hb12 => by first | (simp at hb12; done) | (simp at hb12; omega)) fun hb12 => ?_
    clear hb12
    refine W_skip ?_
    first | refine h10 _ ?_ | refine ⟨by omega, h10 _ ?_⟩ | refine ⟨by omega, by omega, h10 _ ?_⟩ | (repeat (refine ⟨by first | omega | grind, ?_⟩)); refine h10 _ ?_
    clear h10 K10
    refine W_seqK fun K13 h13 => ?_
    refine W_reg ?_
    simp [go_sem, ty5, ty22]
    refine callG_true (by simp) (CallW_E (pe_spec_DrawFlatRun code (by first | first | assumption | omega | (simp only [runM_len, runH_len, List.length_take, List.length_drop]; omega) | exact runH_regs (by assumption) _ | (simp only [flatM_len, flat_regs]; omega) | (simp; done) | (simp; omega))) (by simp [go_sem, enc, eI]) _ (fun _ => rfl) rfl ?_)
    rintro ⟨m14, hs14, o14⟩ hq14
    try dsimp only at hq14
    obtain ⟨e1_14, e2_14, e3_14, e5_14⟩ := hq14
    have hq14 : ∀ a ∈ hs14, a.regs.length ≤ 1048576 := fun a ha => by have := e3_14 a ha; omega
    simp [go_sem, ty2, ty3, ty24, ty26, ty33]
    first | refine h13 _ ?_ | refine ⟨by omega, h13 _ ?_⟩ | refine ⟨by omega, by omega, h13 _ ?_⟩ | (repeat (refine ⟨by first | omega | grind, ?_⟩)); refine h13 _ ?_
    clear h13 K13
    refine W_seqK fun K15 h15 => ?_
    refine W_reg ?_
    simp [go_sem, ty3, ty24, ty26, ty33]
    refine callG_pc (fun hG => pc_impl_FlatRun m14 hs14 o14 (by first | assumption | omega | (simp only [runM_len, runH_len, List.length_take, List.length_drop]; omega) | exact runH_regs (by assumption) _ | (simp only [flatM_len, flat_regs]; omega)) (by first | assumption | omega | (simp only [runM_len, runH_len, List.length_take, List.length_drop]; omega) | exact runH_regs (by assumption) _ | (simp only [flatM_len, flat_regs]; omega)) (by first | assumption | omega | (simp only [runM_len, runH_len, List.length_take, List.length_drop]; omega) | exact runH_regs (by assumption) _ | (simp only [flatM_len, flat_regs]; omega)) (by first | assumption | omega | (simp only [runM_len, runH_len, List.length_take, List.length_drop]; omega) | exact runH_regs (by assumption) _ | (simp only [flatM_len, flat_regs]; omega))) (by first | (simp; done) | (simp [inR_iff]; done) | (simp [inR_iff]; grind) | grind) (fun hG => by simp [go_sem]) rfl rfl (by first | exact Or.inl rfl | exact Or.inr rfl) ?_
    simp [go_sem, ty3, ty24, ty26, ty33]
    first | refine h15 _ ?_ | refine ⟨by omega, h15 _ ?_⟩ | refine ⟨by omega, by omega, h15 _ ?_⟩ | (repeat (refine ⟨by first | omega | grind, ?_⟩)); refine h15 _ ?_
    clear h15 K15
    refine W_seqK fun K16 h16 => ?_
    refine W_reg ?_
    simp [go_sem, ty3, ty24, ty26, ty33]
    refine callG_pc (fun hG => pc_spec_FlatRun m14 hs14 o14 (by first | assumption | omega | (simp only [runM_len, runH_len, List.length_take, List.length_drop]; omega) | exact runH_regs (by assumption) _ | (simp only [flatM_len, flat_regs]; omega)) (by first | assumption | omega | (simp only [runM_len, runH_len, List.length_take, List.length_drop]; omega) | exact runH_regs (by assumption) _ | (simp only [flatM_len, flat_regs]; omega)) (by first | assumption | omega | (simp only [runM_len, runH_len, List.length_take, List.length_drop]; omega) | exact runH_regs (by assumption) _ | (simp only [flatM_len, flat_regs]; omega)) (by first | assumption | omega | (simp only [runM_len, runH_len, List.length_take, List.length_drop]; omega) | exact runH_regs (by assumption) _ | (simp only [flatM_len, flat_regs]; omega))) (by first | (simp; done) | (simp [inR_iff]; done) | (simp [inR_iff]; grind) | grind) (fun hG => by simp [go_sem]) rfl rfl (by first | exact Or.inl rfl | exact Or.inr rfl) ?_
    simp [go_sem, ty3, ty24, ty26, ty33]
    first | refine h16 _ ?_ | refine ⟨by omega, h16 _ ?_⟩ | refine ⟨by omega, by omega, h16 _ ?_⟩ | (repeat (refine ⟨by first | omega | grind, ?_⟩)); refine h16 _ ?_
    clear h16 K16
    refine W_seqK fun K17 h17 => ?_
    refine W_seqK fun K18 h18 => ?_
    refine W_reg ?_
    simp [go_sem, ty3, ty4, ty24]
    refine callG_pc (fun hG => pc_laws_sameInts (runM m14 hs14 o14) (runM m14 hs14 o14) (by first | assumption | omega | (simp only [runM_len, runH_len, List.length_take, List.length_drop]; omega) | exact runH_regs (by assumption) _ | (simp only [flatM_len, flat_regs]; omega))) (by first | (simp; done) | (simp [inR_iff]; done) | (simp [inR_iff]; grind) | grind) (fun hG => by simp [go_sem]) rfl rfl (by first | exact Or.inl rfl | exact Or.inr rfl) ?_
    simp [go_sem, ty3, ty4, ty26, ty33]
    first | refine h18 _ ?_ | refine ⟨by omega, h18 _ ?_⟩ | refine ⟨by omega, by omega, h18 _ ?_⟩ | (repeat (refine ⟨by first | omega | grind, ?_⟩)); refine h18 _ ?_
    clear h18 K18
    refine W_cond rfl (fun hb19 => by first | (simp at hb19; done) | (simp at hb19; omega)) fun hb19 => ?_
    clear hb19
    refine W_skip ?_
    first | refine h17 _ ?_ | refine ⟨by omega, h17 _ ?_⟩ | refine ⟨by omega, by omega, h17 _ ?_⟩ | (repeat (refine ⟨by first | omega | grind, ?_⟩)); refine h17 _ ?_
    clear h17 K17
    refine W_seqK fun K20 h20 => ?_
    refine W_seqK fun K21 h21 => ?_
    refine W_reg ?_
    simp [go_sem, ty3]
    first | refine h21 _ ?_ | refine ⟨by omega, h21 _ ?_⟩ | refine ⟨by omega, by omega, h21 _ ?_⟩ | (repeat (refine ⟨by first | omega | grind, ?_⟩)); refine h21 _ ?_
    clear h21 K21
    refine W_block ?_
    refine W_loopI (α := Nat) (fun i => ({ env := [(3, true, .l (.ref 2 [] 1 0 (m7).length)), (4, true, .l (.ptr 6 0)), (5, true, .l (.ref 8 [] 1 0 (flatM m7 h7).length)), (6, true, .l (.ptr 12 0)), (10, true, .l (.ref 25 [] 3 0 (hs14).length)), (11, true, .l (.ref 26 [] 1 0 (o14).length)), (13, true, .l (.ref 28 [] 3 0 (runH m14 hs14 o14).length)), (15, true, .l (.ref 30 [] 3 0 (runH m14 hs14 o14).length)), (16, true, .l (.t (.int .i64 (i))))], box := [(6, [.ref 3 [] 1 0 (h7.regs).length, .t (.int .i64 h7.pc), .t (.int .i64 h7.state)]), (12, [.ref 9 [] 1 0 ((flatH m7 h7).regs).length, .t (.int .i64 ((flatH m7 h7).pc)), .t (.int .i64 ((flatH m7 h7).state))])], row := [(2, ⟨.own, 1, enc eI m7⟩), (3, ⟨.own, 1, enc eI h7.regs⟩), (8, ⟨.own, 1, enc eI (flatM m7 h7)⟩), (9, ⟨.own, 1, enc eI ((flatH m7 h7).regs)⟩), (25, ⟨.own, 3, enc eHart hs14⟩), (26, ⟨.own, 1, enc eI o14⟩), (28, ⟨.own, 3, enc eHart (runH m14 hs14 o14)⟩), (30, ⟨.own, 3, enc eHart (runH m14 hs14 o14)⟩)], nxt := 60, sav := [] } : St)) (fun i => i ≤ hs14.length) (fun i => hs14.length - i) 0 ?_ ?_ ?_
    · exact Sub.of_neat [3, 4, 5, 6, 10, 11, 13, 15, 16] [2, 3, 8, 9, 25, 26, 28, 30] [6, 12] 60 (by decide) (by simp [go_sem])
    · exact Nat.zero_le _
    rintro i hinv
    have hrl := runH_len m14 hs14 o14
    have hrr := runH_regs (mem := m14) hq14 o14
    refine W_seqK fun K23 h23 => ?_
    refine W_seqK fun K24 h24 => ?_
    refine W_reg ?_
    simp [go_sem, ty3, ty4, ty26, ty33]
    first | refine h24 _ ?_ | refine ⟨by omega, h24 _ ?_⟩ | refine ⟨by omega, by omega, h24 _ ?_⟩ | (repeat (refine ⟨by first | omega | grind, ?_⟩)); refine h24 _ ?_
    clear h24 K24
    refine W_cond rfl (fun hb25 => ?_) fun hb25 => ?_
    · have hlt : i < hs14.length := by simp [hrl] at hb25; omega
      have hlt2 : i < (runH m14 hs14 o14).length := by omega
      have hr1 := hrr _ (List.getElem_mem hlt2)
      have hr2 := hq14 _ (List.getElem_mem hlt)
      have hoth : (i : Int) ∉ o14 → (runH m14 hs14 o14)[i] = hs14[i] := fun h => by have h9 := runH_other (mem := m14) (hs := hs14) h; rw [List.getElem?_eq_getElem hlt, List.getElem?_eq_getElem hlt2] at h9; exact Option.some.inj h9
      clear hb25
      refine W_skip ?_
      first | refine h23 _ ?_ | refine ⟨by omega, h23 _ ?_⟩ | refine ⟨by omega, by omega, h23 _ ?_⟩ | (repeat (refine ⟨by first | omega | grind, ?_⟩)); refine h23 _ ?_
      clear h23 K23
      refine W_seqK fun K26 h26 => ?_
      refine W_block ?_
      refine W_seqK fun K27 h27 => ?_
      refine W_drawT true mixed (by decide +kernel) ?_
      simp (config := {maxSteps := 10000000}) [go_sem, ty3, ty4, ty26, ty33, hlt, hlt2]
      refine callG_pc (fun hG => pc_impl_SameHart (runH m14 hs14 o14)[i] (runH m14 hs14 o14)[i] (by omega)) (by first | (simp; done) | (simp [inR_iff]; done) | (simp [inR_iff]; grind) | grind) (fun hG => by simp [go_sem, hlt, hlt2]) rfl rfl (by first | exact Or.inl rfl | exact Or.inr rfl) ?_
      simp (config := {maxSteps := 10000000}) [go_sem, ty3, ty4, ty24, hlt, hlt2]
      refine callG_pc (fun hG => pc_laws_within o14 (i : Int) (by omega)) (by first | (simp; done) | (simp [inR_iff]; done) | (simp [inR_iff]; grind) | grind) (fun hG => by simp [go_sem]) rfl rfl (by first | exact Or.inl rfl | exact Or.inr rfl) ?_
      simp (config := {maxSteps := 10000000}) [go_sem, ty3, ty4, ty26, ty33, hlt, hlt2]
      refine callG_pc (fun hG => pc_impl_SameHart (runH m14 hs14 o14)[i] hs14[i] (by omega)) (by first | (simp; done) | (simp [inR_iff]; done) | (simp [inR_iff]; grind) | grind) (fun hG => by simp [go_sem, hlt, hlt2]) rfl rfl (by first | exact Or.inl rfl | exact Or.inr rfl) ?_
      simp (config := {maxSteps := 10000000}) [go_sem, ty4, hlt, hlt2]
      first | refine h27 _ ?_ | refine ⟨by omega, h27 _ ?_⟩ | refine ⟨by omega, by omega, h27 _ ?_⟩ | (repeat (refine ⟨by first | omega | grind, ?_⟩)); refine h27 _ ?_
      clear h27 K27
      refine W_cond rfl (fun hb28 => by simp [hlt, hlt2] at hb28; exact absurd (hoth hb28.1) hb28.2) fun hb28 => ?_
      clear hb28
      refine W_skip ?_
      first | refine h26 _ ?_ | refine ⟨by omega, h26 _ ?_⟩ | refine ⟨by omega, by omega, h26 _ ?_⟩ | (repeat (refine ⟨by first | omega | grind, ?_⟩)); refine h26 _ ?_
      clear h26 K26
      refine W_reg ?_
      simp [go_sem, ty3]
      refine ⟨i + 1, ?_, ?_, ?_⟩
      · exact Sub.of_neat [3, 4, 5, 6, 10, 11, 13, 15, 16] [2, 3, 8, 9, 25, 26, 28, 30] [6, 12] 60 (by decide) (by simp [go_sem, wrap_succ (show i < 9223372036854775807 by omega)])
      · exact hlt
      · omega
    · clear hb25
      refine W_exit ?_
      simp [go_sem]
      first | refine h20 _ ?_ | refine ⟨by omega, h20 _ ?_⟩ | refine ⟨by omega, by omega, h20 _ ?_⟩ | (repeat (refine ⟨by first | omega | grind, ?_⟩)); refine h20 _ ?_
      clear h23 K23 h20 K20
      refine W_seqK fun K29 h29 => ?_
      refine W_reg ?_
      simp [go_sem, ty3]
      first | refine h29 _ ?_ | refine ⟨by omega, h29 _ ?_⟩ | refine ⟨by omega, by omega, h29 _ ?_⟩ | (repeat (refine ⟨by first | omega | grind, ?_⟩)); refine h29 _ ?_
      clear h29 K29
      refine W_seqK fun K30 h30 => ?_
      refine W_seqK fun K31 h31 => ?_
      refine W_reg ?_
      simp [go_sem, ty3]
      first | refine h31 _ ?_ | refine ⟨by omega, h31 _ ?_⟩ | refine ⟨by omega, by omega, h31 _ ?_⟩ | (repeat (refine ⟨by first | omega | grind, ?_⟩)); refine h31 _ ?_
      clear h31 K31
      refine W_block ?_
      refine W_loopI (α := Nat) (fun j => ({ env := [(3, true, .l (.ref 2 [] 1 0 (m7).length)), (4, true, .l (.ptr 6 0)), (5, true, .l (.ref 8 [] 1 0 (flatM m7 h7).length)), (6, true, .l (.ptr 12 0)), (17, true, .l (.t (.int .i64 ((diffN m7 (flatM m7 h7) j : Int))))), (18, true, .l (.t (.int .i64 (j))))], box := [(6, [.ref 3 [] 1 0 (h7.regs).length, .t (.int .i64 h7.pc), .t (.int .i64 h7.state)]), (12, [.ref 9 [] 1 0 ((flatH m7 h7).regs).length, .t (.int .i64 ((flatH m7 h7).pc)), .t (.int .i64 ((flatH m7 h7).state))])], row := [(2, ⟨.own, 1, enc eI m7⟩), (3, ⟨.own, 1, enc eI h7.regs⟩), (8, ⟨.own, 1, enc eI (flatM m7 h7)⟩), (9, ⟨.own, 1, enc eI ((flatH m7 h7).regs)⟩)], nxt := 60, sav := [] } : St)) (fun j => j ≤ m7.length) (fun j => m7.length - j) 0 ?_ ?_ ?_
      · exact Sub.of_neat [3, 4, 5, 6, 17, 18] [2, 3, 8, 9] [6, 12] 60 (by decide) (by simp [go_sem, diffN])
      · exact Nat.zero_le _
      rintro j hinv
      have hml := flatM_len m7 h7
      have hd := diffN_le m7 (flatM m7 h7) j
      refine W_seqK fun K33 h33 => ?_
      refine W_seqK fun K34 h34 => ?_
      refine W_reg ?_
      simp [go_sem, ty3, ty4, ty24]
      first | refine h34 _ ?_ | refine ⟨by omega, h34 _ ?_⟩ | refine ⟨by omega, by omega, h34 _ ?_⟩ | (repeat (refine ⟨by first | omega | grind, ?_⟩)); refine h34 _ ?_
      clear h34 K34
      refine W_cond rfl (fun hb35 => ?_) fun hb35 => ?_
      · have hlt : j < m7.length := by simp [hml] at hb35; omega
        have hlt2 : j < (flatM m7 h7).length := by omega
        clear hb35
        refine W_skip ?_
        first | refine h33 _ ?_ | refine ⟨by omega, h33 _ ?_⟩ | refine ⟨by omega, by omega, h33 _ ?_⟩ | (repeat (refine ⟨by first | omega | grind, ?_⟩)); refine h33 _ ?_
        clear h33 K33
        refine W_seqK fun K36 h36 => ?_
        refine W_block ?_
        refine W_seqK fun K37 h37 => ?_
        refine W_drawT true mixed (by decide +kernel) ?_
        simp [go_sem, ty3, ty4, ty24, hlt, hlt2]
        first | refine h37 _ ?_ | refine ⟨by omega, h37 _ ?_⟩ | refine ⟨by omega, by omega, h37 _ ?_⟩ | (repeat (refine ⟨by first | omega | grind, ?_⟩)); refine h37 _ ?_
        clear h37 K37
        refine W_cond rfl (fun hb38 => ?_) fun hb38 => ?_
        · have hne : ¬ m7[j] = (flatM m7 h7)[j] := fun e => by simp [hlt, hlt2] at hb38; exact hb38 e.symm
          have hw1 : IntKind.wrap .i64 ((diffN m7 (flatM m7 h7) j : Int) + 1) = (diffN m7 (flatM m7 h7) j : Int) + 1 := wrap_ok (by omega) (by omega)
          clear hb38
          refine W_reg ?_
          simp [go_sem, ty3]
          first | refine h36 _ ?_ | refine ⟨by omega, h36 _ ?_⟩ | refine ⟨by omega, by omega, h36 _ ?_⟩ | (repeat (refine ⟨by first | omega | grind, ?_⟩)); refine h36 _ ?_
          clear h36 K36
          refine W_reg ?_
          simp [go_sem, ty3]
          refine ⟨j + 1, ?_, ?_, ?_⟩
          · exact Sub.of_neat [3, 4, 5, 6, 17, 18] [2, 3, 8, 9] [6, 12] 60 (by decide) (by simp [go_sem, diffN, hlt, hlt2, wrap_succ (show j < 9223372036854775807 by omega), hne, hw1])
          · exact hlt
          · omega
        · have hne : m7[j] = (flatM m7 h7)[j] := by simp [hlt, hlt2] at hb38; exact hb38.symm
          clear hb38
          refine W_skip ?_
          first | refine h36 _ ?_ | refine ⟨by omega, h36 _ ?_⟩ | refine ⟨by omega, by omega, h36 _ ?_⟩ | (repeat (refine ⟨by first | omega | grind, ?_⟩)); refine h36 _ ?_
          clear h36 K36
          refine W_reg ?_
          simp [go_sem, ty3]
          refine ⟨j + 1, ?_, ?_, ?_⟩
          · exact Sub.of_neat [3, 4, 5, 6, 17, 18] [2, 3, 8, 9] [6, 12] 60 (by decide) (by simp [go_sem, diffN, hlt, hlt2, wrap_succ (show j < 9223372036854775807 by omega), hne])
          · exact hlt
          · omega
      · clear hb35
        have w1 : ((diffN m7 (flatM m7 h7) j : Nat) : Int) ≤ 1 := by have := diffN_flat m7 h7 j; omega
        have w2 := @flatH_ok m7 h7
        have w3 : h7.state ≠ 0 → flatH m7 h7 = h7 ∧ diffN m7 (flatM m7 h7) j = 0 := fun h => by obtain ⟨h1, h2⟩ := flat_stays (mem := m7) h; exact ⟨h2, by rw [h1, diffN_self]⟩
        refine W_exit ?_
        simp [go_sem]
        first | refine h30 _ ?_ | refine ⟨by omega, h30 _ ?_⟩ | refine ⟨by omega, by omega, h30 _ ?_⟩ | (repeat (refine ⟨by first | omega | grind, ?_⟩)); refine h30 _ ?_
        clear h33 K33 h30 K30
        refine W_seqK fun K39 h39 => ?_
        by_cases hs0 : h7.state = 0
        · refine W_reg ?_
          simp [go_sem, ty3, ty4, ty26, w1, hs0]
          refine callG_pc (fun hG => pc_impl_SameHart (flatH m7 h7) h7 (by first | assumption | omega | (simp only [runM_len, runH_len, List.length_take, List.length_drop]; omega) | exact runH_regs (by assumption) _ | (simp only [flatM_len, flat_regs]; omega))) (by first | (simp; done) | (simp [inR_iff]; done) | (simp [inR_iff]; grind) | grind) (fun hG => by simp [go_sem, hs0]) rfl rfl (by first | exact Or.inl rfl | exact Or.inr rfl) ?_
          simp [go_sem, ty3, ty4, ty26, w1, hs0]
          refine callG_pc (fun hG => pc_impl_HartOk h7 (by first | assumption | omega | (simp only [runM_len, runH_len, List.length_take, List.length_drop]; omega) | exact runH_regs (by assumption) _ | (simp only [flatM_len, flat_regs]; omega))) (by first | (simp; done) | (simp [inR_iff]; done) | (simp [inR_iff]; grind) | grind) (fun hG => by simp [go_sem, hs0]) rfl rfl (by first | exact Or.inl rfl | exact Or.inr rfl) ?_
          simp [go_sem, ty4, ty26, w1, hs0]
          refine callG_pc (fun hG => pc_impl_HartOk (flatH m7 h7) (by first | assumption | omega | (simp only [runM_len, runH_len, List.length_take, List.length_drop]; omega) | exact runH_regs (by assumption) _ | (simp only [flatM_len, flat_regs]; omega))) (by first | (simp; done) | (simp [inR_iff]; done) | (simp [inR_iff]; grind) | grind) (fun hG => by simp [go_sem, hs0]) rfl rfl (by first | exact Or.inl rfl | exact Or.inr rfl) ?_
          simp [go_sem, ty4, w1, hs0]
          first | refine h39 _ ?_ | refine ⟨by omega, h39 _ ?_⟩ | refine ⟨by omega, by omega, h39 _ ?_⟩ | (repeat (refine ⟨by first | omega | grind, ?_⟩)); refine h39 _ ?_
          clear h39 K39
          refine W_ret ?_
          simp [go_sem]
          grind
        · refine W_reg ?_
          obtain ⟨w4, w5⟩ := w3 hs0
          simp [go_sem, ty3, ty4, ty26, w1, hs0, w4, w5]
          refine callG_pc (fun hG => pc_impl_SameHart (flatH m7 h7) h7 (by first | assumption | omega | (simp only [runM_len, runH_len, List.length_take, List.length_drop]; omega) | exact runH_regs (by assumption) _ | (simp only [flatM_len, flat_regs]; omega))) (by first | (simp; done) | (simp [inR_iff]; done) | (simp [inR_iff]; grind) | grind) (fun hG => by simp [go_sem, hs0, w4]) rfl rfl (by first | exact Or.inl rfl | exact Or.inr rfl) ?_
          simp [go_sem, ty3, ty4, ty26, w1, hs0, w4, w5]
          refine callG_pc (fun hG => pc_impl_HartOk h7 (by first | assumption | omega | (simp only [runM_len, runH_len, List.length_take, List.length_drop]; omega) | exact runH_regs (by assumption) _ | (simp only [flatM_len, flat_regs]; omega))) (by first | (simp; done) | (simp [inR_iff]; done) | (simp [inR_iff]; grind) | grind) (fun hG => by simp [go_sem, hs0, w4]) rfl rfl (by first | exact Or.inl rfl | exact Or.inr rfl) ?_
          simp [go_sem, ty4, ty26, w1, hs0, w4, w5]
          refine callG_pc (fun hG => pc_impl_HartOk (flatH m7 h7) (by first | assumption | omega | (simp only [runM_len, runH_len, List.length_take, List.length_drop]; omega) | exact runH_regs (by assumption) _ | (simp only [flatM_len, flat_regs]; omega))) (by first | (simp; done) | (simp [inR_iff]; done) | (simp [inR_iff]; grind) | grind) (fun hG => by simp [go_sem, hs0, w4]) rfl rfl (by first | exact Or.inl rfl | exact Or.inr rfl) ?_
          simp [go_sem, ty4, w1, hs0, w4, w5]
          first | refine h39 _ ?_ | refine ⟨by omega, h39 _ ?_⟩ | refine ⟨by omega, by omega, h39 _ ?_⟩ | (repeat (refine ⟨by first | omega | grind, ?_⟩)); refine h39 _ ?_
          clear h39 K39
          refine W_ret ?_
          simp [go_sem, hs0]
end Go.Tw
