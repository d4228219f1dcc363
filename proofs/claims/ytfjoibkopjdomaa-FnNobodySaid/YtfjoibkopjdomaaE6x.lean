/- Walks of functions: laws.FnNobody -/
import Derived.Test.YtfjoibkopjdomaaE6w
import Derived.Test.YtfjoibkopjdomaaE6s
import Derived.Test.YtfjoibkopjdomaaE6r
import Derived.Test.YtfjoibkopjdomaaE6u
import Derived.Test.YtfjoibkopjdomaaE6v
import Derived.Test.YtfjoibkopjdomaaE6p
set_option linter.unusedSimpArgs false
set_option linter.unusedVariables false
set_option linter.unnecessarySimpa false
namespace Go.Tw
open Go.Proofs

set_option maxRecDepth 100000 in
set_option maxHeartbeats 4000000 in
theorem pc_laws_FnNobody (code : List Int) (hu : ∀ a ∈ code, 0 ≤ a ∧ a ≤ 255) : PC Try.prog 4 [(false, [.sl 1 (enc eU code)])] [(false, [.bool true])] := by
  refine PC_of (n := 79) Try.func4 rfl rfl rfl rfl (by simp) ?_
  refine W_seqK fun K1 h1 => ?_
  refine W_reg ?_
  simp [go_sem, ty4]
  first | refine h1 _ ?_ | refine ⟨by omega, h1 _ ?_⟩ | refine ⟨by omega, by omega, h1 _ ?_⟩ | (repeat (refine ⟨by first | omega | grind, ?_⟩)); refine h1 _ ?_
  clear h1 K1
  refine W_seqK fun K2 h2 => ?_
  refine W_seqK fun K3 h3 => ?_
  refine W_reg ?_
  simp [go_sem, ty4, ty5, ty22]
  refine callG_pc (fun hG => pc_laws_big code) (by first | (simp; done) | (simp [inR_iff]; done) | (simp [inR_iff]; grind) | grind) (fun hG => by simp [go_sem]) rfl rfl (by first | exact Or.inl rfl | exact Or.inr rfl) ?_
  simp [go_sem]
  first | refine h3 _ ?_ | refine ⟨by omega, h3 _ ?_⟩ | refine ⟨by omega, by omega, h3 _ ?_⟩ | (repeat (refine ⟨by first | omega | grind, ?_⟩)); refine h3 _ ?_
  clear h3 K3
  refine W_cond rfl (fun hb4 => ?_) fun hb4 => ?_
  · skip
    refine W_seqK fun K5 h5 => ?_
    refine W_reg ?_
    simp [go_sem, ty4]
    first | refine h5 _ ?_ | refine ⟨by omega, h5 _ ?_⟩ | refine ⟨by omega, by omega, h5 _ ?_⟩ | (repeat (refine ⟨by first | omega | grind, ?_⟩)); refine h5 _ ?_
    clear h5 K5
    refine W_ret ?_
    simp [go_sem]
  · first | have hs4 := szL_pos hb4 | simp at hb4
    refine W_skip ?_
    first | refine h2 _ ?_ | refine ⟨by omega, h2 _ ?_⟩ | refine ⟨by omega, by omega, h2 _ ?_⟩ | (repeat (refine ⟨by first | omega | grind, ?_⟩)); refine h2 _ ?_
    clear h2 K2
    refine W_seqK fun K6 h6 => ?_
    refine W_reg ?_
    simp [go_sem, ty5, ty22]
    refine callG_true (by simp) (CallW_E (pe_spec_DrawSteps code (by first | first | assumption | omega | (simp only [runM_len, runH_len, List.length_take, List.length_drop]; omega) | exact runH_regs (by assumption) _ | exact trace_small _ _ _ | (simp; done) | (simp; omega))) (by simp [go_sem, enc, eI]) _ (fun _ => rfl) rfl ?_)
    rintro ⟨m7, hs7, o7⟩ hq7
    try dsimp only at hq7
    obtain ⟨e1_7, e2_7, e3_7, e4_7, e5_7, e6_7⟩ := hq7
    have hq7 : ∀ a ∈ hs7, a.regs.length ≤ 1048576 := fun a ha => by have := e4_7 a ha; omega
    simp [go_sem, ty2, ty3, ty24, ty26, ty33]
    first | refine h6 _ ?_ | refine ⟨by omega, h6 _ ?_⟩ | refine ⟨by omega, by omega, h6 _ ?_⟩ | (repeat (refine ⟨by first | omega | grind, ?_⟩)); refine h6 _ ?_
    clear h6 K6
    refine W_seqK fun K8 h8 => ?_
    refine W_reg ?_
    simp [go_sem, ty3, ty24]
    first | refine h8 _ ?_ | refine ⟨by omega, h8 _ ?_⟩ | refine ⟨by omega, by omega, h8 _ ?_⟩ | (repeat (refine ⟨by first | omega | grind, ?_⟩)); refine h8 _ ?_
    clear h8 K8
    refine W_seqK fun K9 h9 => ?_
    refine W_seqK fun K10 h10 => ?_
    refine W_reg ?_
    simp [go_sem, ty3]
    first | refine h10 _ ?_ | refine ⟨by omega, h10 _ ?_⟩ | refine ⟨by omega, by omega, h10 _ ?_⟩ | (repeat (refine ⟨by first | omega | grind, ?_⟩)); refine h10 _ ?_
    clear h10 K10
    refine W_block ?_
    refine W_loopI (α := Nat) (fun i => ({ env := [(0, true, .l (.ref 0 [] 1 0 (code).length)), (3, true, .l (.ref 2 [] 1 0 (m7).length)), (4, true, .l (.ref 3 [] 3 0 (hs7).length)), (5, true, .l (.ref 4 [] 1 0 (o7).length)), (6, true, .l (.ref 40 [] 1 0 ((moreN (fun i => decide (atC code i % 3 = 0)) (fun i => 90 + atC code i) o7 i).length))), (7, true, .l (.t (.int .i64 (i))))], box := [], row := [(0, ⟨.ro, 1, enc eU code⟩), (2, ⟨.own, 1, enc eI m7⟩), (3, ⟨.own, 3, enc eHart hs7⟩), (4, ⟨.own, 1, enc eI o7⟩), (40, ⟨.own, 1, enc eI (moreN (fun i => decide (atC code i % 3 = 0)) (fun i => 90 + atC code i) o7 i)⟩)], nxt := 60, sav := [] } : St)) (fun i => i ≤ o7.length) (fun i => o7.length - i) 0 ?_ ?_ ?_
    · exact (Sub.nilRow (t := 6) (nm := 40) (z := 1) (by rfl) (by rfl)).trans (Sub.of_neat [0, 3, 4, 5, 6, 7] [0, 2, 3, 4, 40] [] 60 (by decide) (by simp [go_sem, moreN, enc_nil]))
    · exact Nat.zero_le _
    rintro i hinv
    have hml := moreN_len (fun i => decide (atC code i % 3 = 0)) (fun i => 90 + atC code i) o7 i
    have hat := atC_range hu i
    have hw9 : IntKind.wrap .i64 (90 + atC code i) = 90 + atC code i := wrap_ok (by omega) (by omega)
    have htm : (atC code i).tmod 3 = atC code i % 3 := tmod_pos (by omega)
    refine W_seqK fun K12 h12 => ?_
    refine W_seqK fun K13 h13 => ?_
    refine W_reg ?_
    simp [go_sem, ty3, ty4, ty24]
    first | refine h13 _ ?_ | refine ⟨by omega, h13 _ ?_⟩ | refine ⟨by omega, by omega, h13 _ ?_⟩ | (repeat (refine ⟨by first | omega | grind, ?_⟩)); refine h13 _ ?_
    clear h13 K13
    refine W_cond rfl (fun hb14 => ?_) fun hb14 => ?_
    · have hlt : i < o7.length := by simpa using hb14
      clear hb14
      refine W_skip ?_
      first | refine h12 _ ?_ | refine ⟨by omega, h12 _ ?_⟩ | refine ⟨by omega, by omega, h12 _ ?_⟩ | (repeat (refine ⟨by first | omega | grind, ?_⟩)); refine h12 _ ?_
      clear h12 K12
      refine W_seqK fun K15 h15 => ?_
      refine W_block ?_
      refine W_seqK fun K16 h16 => ?_
      refine W_reg ?_
      simp [go_sem, ty3, ty24, hlt]
      first | refine h16 _ ?_ | refine ⟨by omega, h16 _ ?_⟩ | refine ⟨by omega, by omega, h16 _ ?_⟩ | (repeat (refine ⟨by first | omega | grind, ?_⟩)); refine h16 _ ?_
      clear h16 K16
      refine W_seqK fun K17 h17 => ?_
      refine W_reg ?_
      simp [go_sem, ty3, ty5, ty22]
      refine callG_pc (fun hG => pc_laws_at code (i : Int) (by omega) (by omega) (by omega) hu) (by first | (simp; done) | (simp [inR_iff]; done) | (simp [inR_iff]; grind) | grind) (fun hG => by simp [go_sem]) rfl rfl (by first | exact Or.inl rfl | exact Or.inr rfl) ?_
      simp [go_sem, ty3, ty4]
      first | refine h17 _ ?_ | refine ⟨by omega, h17 _ ?_⟩ | refine ⟨by omega, by omega, h17 _ ?_⟩ | (repeat (refine ⟨by first | omega | grind, ?_⟩)); refine h17 _ ?_
      clear h17 K17
      refine W_cond rfl (fun hb18 => ?_) fun hb18 => ?_
      · have hmr : moreN (fun i => decide (atC code i % 3 = 0)) (fun i => 90 + atC code i) o7 (i + 1) = moreN (fun i => decide (atC code i % 3 = 0)) (fun i => 90 + atC code i) o7 i ++ [o7[i]] ++ [90 + atC code i, -1] := moreN_yes hlt (by simpa [htm] using hb18)
        clear hb18
        refine W_reg ?_
        simp [go_sem, ty3, ty5, ty22, ty24, hw9]
        refine callG_pc (fun hG => pc_laws_at code (i : Int) (by omega) (by omega) (by omega) hu) (by first | (simp; done) | (simp [inR_iff]; done) | (simp [inR_iff]; grind) | grind) (fun hG => by simp [go_sem]) rfl rfl (by first | exact Or.inl rfl | exact Or.inr rfl) ?_
        simp [go_sem, ty3, ty24, hw9]
        first | refine h15 _ ?_ | refine ⟨by omega, h15 _ ?_⟩ | refine ⟨by omega, by omega, h15 _ ?_⟩ | (repeat (refine ⟨by first | omega | grind, ?_⟩)); refine h15 _ ?_
        clear h15 K15
        refine W_reg ?_
        simp [go_sem, ty3]
        refine ⟨i + 1, ?_, ?_, ?_⟩
        · exact (Sub.swp_row 65 40 rfl).trans (Sub.of_neat [0, 3, 4, 5, 6, 7] [0, 2, 3, 4, 40] [] 60 (by decide) (by simp [go_sem, hmr, enc, eI, wrap_succ (show i < 9223372036854775807 by omega)]))
        · exact hlt
        · omega
      · have hmr : moreN (fun i => decide (atC code i % 3 = 0)) (fun i => 90 + atC code i) o7 (i + 1) = moreN (fun i => decide (atC code i % 3 = 0)) (fun i => 90 + atC code i) o7 i ++ [o7[i]] := moreN_no hlt (by simpa [htm] using hb18)
        clear hb18
        refine W_skip ?_
        first | refine h15 _ ?_ | refine ⟨by omega, h15 _ ?_⟩ | refine ⟨by omega, by omega, h15 _ ?_⟩ | (repeat (refine ⟨by first | omega | grind, ?_⟩)); refine h15 _ ?_
        clear h15 K15
        refine W_reg ?_
        simp [go_sem, ty3]
        refine ⟨i + 1, ?_, ?_, ?_⟩
        · exact (Sub.swp_row 61 40 rfl).trans (Sub.of_neat [0, 3, 4, 5, 6, 7] [0, 2, 3, 4, 40] [] 60 (by decide) (by simp [go_sem, hmr, enc, eI, wrap_succ (show i < 9223372036854775807 by omega)]))
        · exact hlt
        · omega
    · have hil : i = o7.length := by simp at hb14; omega
      clear hb14
      have hrn := run_nobody (mem := m7) (hs := hs7) (order := o7) (p := fun i => decide (atC code i % 3 = 0)) (v := fun i => 90 + atC code i) (fun i => by have := atC_range hu i; omega) (by omega)
      rw [← hil] at hrn
      have w1 : runM m7 hs7 (moreN (fun i => decide (atC code i % 3 = 0)) (fun i => 90 + atC code i) o7 i) = runM m7 hs7 o7 := by unfold runM; rw [hrn]
      have w2 : runH m7 hs7 (moreN (fun i => decide (atC code i % 3 = 0)) (fun i => 90 + atC code i) o7 i) = runH m7 hs7 o7 := by unfold runH; rw [hrn]
      have w3 : trace m7 hs7 (moreN (fun i => decide (atC code i % 3 = 0)) (fun i => 90 + atC code i) o7 i) = trace m7 hs7 o7 := by rw [trace_runS, trace_runS, hrn]
      refine W_exit ?_
      simp [go_sem]
      first | refine h9 _ ?_ | refine ⟨by omega, h9 _ ?_⟩ | refine ⟨by omega, by omega, h9 _ ?_⟩ | (repeat (refine ⟨by first | omega | grind, ?_⟩)); refine h9 _ ?_
      clear h12 K12 h9 K9
      refine W_seqK fun K19 h19 => ?_
      refine W_reg ?_
      simp [go_sem, ty3, ty24, ty26, ty33]
      refine callG_pc (fun hG => pc_impl_FlatRun m7 hs7 o7 (by first | assumption | omega | (simp only [runM_len, runH_len, List.length_take, List.length_drop]; omega) | exact runH_regs (by assumption) _ | exact trace_small _ _ _) (by first | assumption | omega | (simp only [runM_len, runH_len, List.length_take, List.length_drop]; omega) | exact runH_regs (by assumption) _ | exact trace_small _ _ _) (by first | assumption | omega | (simp only [runM_len, runH_len, List.length_take, List.length_drop]; omega) | exact runH_regs (by assumption) _ | exact trace_small _ _ _) (by first | assumption | omega | (simp only [runM_len, runH_len, List.length_take, List.length_drop]; omega) | exact runH_regs (by assumption) _ | exact trace_small _ _ _)) (by first | (simp; done) | (simp [inR_iff]; done) | (simp [inR_iff]; grind) | grind) (fun hG => by simp [go_sem]) rfl rfl (by first | exact Or.inl rfl | exact Or.inr rfl) ?_
      simp [go_sem, ty3, ty24, ty26, ty33]
      first | refine h19 _ ?_ | refine ⟨by omega, h19 _ ?_⟩ | refine ⟨by omega, by omega, h19 _ ?_⟩ | (repeat (refine ⟨by first | omega | grind, ?_⟩)); refine h19 _ ?_
      clear h19 K19
      refine W_seqK fun K20 h20 => ?_
      refine W_reg ?_
      simp [go_sem, ty3, ty24, ty26, ty33]
      refine callG_pc (fun hG => pc_impl_FlatRun m7 hs7 (moreN (fun i => decide (atC code i % 3 = 0)) (fun i => 90 + atC code i) o7 i) (by first | assumption | omega | (simp only [runM_len, runH_len, List.length_take, List.length_drop]; omega) | exact runH_regs (by assumption) _ | exact trace_small _ _ _) (by first | assumption | omega | (simp only [runM_len, runH_len, List.length_take, List.length_drop]; omega) | exact runH_regs (by assumption) _ | exact trace_small _ _ _) (by first | assumption | omega | (simp only [runM_len, runH_len, List.length_take, List.length_drop]; omega) | exact runH_regs (by assumption) _ | exact trace_small _ _ _) (by first | assumption | omega | (simp only [runM_len, runH_len, List.length_take, List.length_drop]; omega) | exact runH_regs (by assumption) _ | exact trace_small _ _ _)) (by first | (simp; done) | (simp [inR_iff]; done) | (simp [inR_iff]; grind) | grind) (fun hG => by simp [go_sem]) rfl rfl (by first | exact Or.inl rfl | exact Or.inr rfl) ?_
      simp [go_sem, ty3, ty24, ty26, ty33]
      first | refine h20 _ ?_ | refine ⟨by omega, h20 _ ?_⟩ | refine ⟨by omega, by omega, h20 _ ?_⟩ | (repeat (refine ⟨by first | omega | grind, ?_⟩)); refine h20 _ ?_
      clear h20 K20
      refine W_seqK fun K21 h21 => ?_
      refine W_reg ?_
      simp [go_sem, ty3, ty4, ty24, w1, w2, w3]
      refine callG_pc (fun hG => pc_laws_sameInts (runM m7 hs7 o7) (runM m7 hs7 (moreN (fun i => decide (atC code i % 3 = 0)) (fun i => 90 + atC code i) o7 i)) (by first | assumption | omega | (simp only [runM_len, runH_len, List.length_take, List.length_drop]; omega) | exact runH_regs (by assumption) _ | exact trace_small _ _ _)) (by first | (simp; done) | (simp [inR_iff]; done) | (simp [inR_iff]; grind) | grind) (fun hG => by simp [go_sem, w1]) rfl rfl (by first | exact Or.inl rfl | exact Or.inr rfl) ?_
      simp [go_sem, ty4, ty26, ty33, w1, w2, w3]
      refine callG_pc (fun hG => pc_laws_sameHarts (runH m7 hs7 o7) (runH m7 hs7 (moreN (fun i => decide (atC code i % 3 = 0)) (fun i => 90 + atC code i) o7 i)) (by first | assumption | omega | (simp only [runM_len, runH_len, List.length_take, List.length_drop]; omega) | exact runH_regs (by assumption) _ | exact trace_small _ _ _) (by first | assumption | omega | (simp only [runM_len, runH_len, List.length_take, List.length_drop]; omega) | exact runH_regs (by assumption) _ | exact trace_small _ _ _)) (by first | (simp; done) | (simp [inR_iff]; done) | (simp [inR_iff]; grind) | grind) (fun hG => by simp [go_sem, w2]) rfl rfl (by first | exact Or.inl rfl | exact Or.inr rfl) ?_
      simp [go_sem, ty3, ty4, ty24, ty26, ty33, ty42, ty45, w1, w2, w3]
      refine callG_pc (fun hG => pc_impl_Trace m7 hs7 (moreN (fun i => decide (atC code i % 3 = 0)) (fun i => 90 + atC code i) o7 i) (by first | assumption | omega | (simp only [runM_len, runH_len, List.length_take, List.length_drop]; omega) | exact runH_regs (by assumption) _ | exact trace_small _ _ _) (by first | assumption | omega | (simp only [runM_len, runH_len, List.length_take, List.length_drop]; omega) | exact runH_regs (by assumption) _ | exact trace_small _ _ _) (by first | assumption | omega | (simp only [runM_len, runH_len, List.length_take, List.length_drop]; omega) | exact runH_regs (by assumption) _ | exact trace_small _ _ _) (by first | assumption | omega | (simp only [runM_len, runH_len, List.length_take, List.length_drop]; omega) | exact runH_regs (by assumption) _ | exact trace_small _ _ _)) (by first | (simp; done) | (simp [inR_iff]; done) | (simp [inR_iff]; grind) | grind) (fun hG => by simp [go_sem]) rfl rfl (by first | exact Or.inl rfl | exact Or.inr rfl) ?_
      simp [go_sem, ty3, ty24, ty26, ty33, ty42, ty45, w1, w2, w3]
      refine callG_pc (fun hG => pc_spec_Trace m7 hs7 o7 (by first | assumption | omega | (simp only [runM_len, runH_len, List.length_take, List.length_drop]; omega) | exact runH_regs (by assumption) _ | exact trace_small _ _ _) (by first | assumption | omega | (simp only [runM_len, runH_len, List.length_take, List.length_drop]; omega) | exact runH_regs (by assumption) _ | exact trace_small _ _ _) (by first | assumption | omega | (simp only [runM_len, runH_len, List.length_take, List.length_drop]; omega) | exact runH_regs (by assumption) _ | exact trace_small _ _ _) (by first | assumption | omega | (simp only [runM_len, runH_len, List.length_take, List.length_drop]; omega) | exact runH_regs (by assumption) _ | exact trace_small _ _ _)) (by first | (simp; done) | (simp [inR_iff]; done) | (simp [inR_iff]; grind) | grind) (fun hG => by simp [go_sem]) rfl rfl (by first | exact Or.inl rfl | exact Or.inr rfl) ?_
      simp [go_sem, ty4, ty42, ty45, w1, w2, w3]
      refine callG_pc (fun hG => pc_laws_sameEvents (trace m7 hs7 (moreN (fun i => decide (atC code i % 3 = 0)) (fun i => 90 + atC code i) o7 i)) (trace m7 hs7 o7) (by first | assumption | omega | (simp only [runM_len, runH_len, List.length_take, List.length_drop]; omega) | exact runH_regs (by assumption) _ | exact trace_small _ _ _)) (by first | (simp; done) | (simp [inR_iff]; done) | (simp [inR_iff]; grind) | grind) (fun hG => by simp [go_sem, w3]) rfl rfl (by first | exact Or.inl rfl | exact Or.inr rfl) ?_
      simp [go_sem, ty4, w1, w2, w3]
      first | refine h21 _ ?_ | refine ⟨by omega, h21 _ ?_⟩ | refine ⟨by omega, by omega, h21 _ ?_⟩ | (repeat (refine ⟨by first | omega | grind, ?_⟩)); refine h21 _ ?_
      clear h21 K21
      refine W_ret ?_
      simp [go_sem, w1, w2, w3]
end Go.Tw
