/- Walks of functions: laws.FnOneRegister -/
import Derived.Test.YteondgjjgdmldaaD4k
import Derived.Test.YteondgjjgdmldaaBaseF
set_option linter.unusedSimpArgs false
set_option linter.unusedVariables false
set_option linter.unnecessarySimpa false
namespace Go.Tw
open Go.Proofs

set_option maxRecDepth 100000 in
set_option maxHeartbeats 4000000 in
theorem pc_laws_FnOneRegister (code : List Int)  : PC Try.prog 12 [(false, [.sl 1 (enc eU code)])] [(false, [.bool true])] := by
  refine PC_of (n := 89) Try.func12 rfl rfl rfl rfl (by simp) ?_
  refine W_seqK fun K1 h1 => ?_
  refine W_reg ?_
  simp [go_sem, ty4]
  first | refine h1 _ ?_ | refine ⟨by omega, h1 _ ?_⟩ | refine ⟨by omega, by omega, h1 _ ?_⟩ | (repeat (refine ⟨by first | omega | grind, ?_⟩)); refine h1 _ ?_
  clear h1 K1
  refine W_seqK fun K2 h2 => ?_
  refine W_seqK fun K3 h3 => ?_
  refine W_reg ?_
  simp [go_sem, ty4, ty5, ty22]
  refine callG_pc (fun hG => pc_laws_big code) (by first | (simp; done) | (simp [inR_iff]; done) | (simp [inR_iff]; grind) | grind) (fun hG => by simp [go_sem]) rfl rfl (by first | exact Or.inl rfl | exact Or.inr rfl) ?_
  simp [go_sem]
  first | refine h3 _ ?_ | refine ⟨by omega, h3 _ ?_⟩ | refine ⟨by omega, by omega, h3 _ ?_⟩ | (repeat (refine ⟨by first | omega | grind, ?_⟩)); refine h3 _ ?_
  clear h3 K3
  refine W_cond rfl (fun hb4 => ?_) fun hb4 => ?_
  · skip
    refine W_seqK fun K5 h5 => ?_
    refine W_reg ?_
    simp [go_sem, ty4]
    first | refine h5 _ ?_ | refine ⟨by omega, h5 _ ?_⟩ | refine ⟨by omega, by omega, h5 _ ?_⟩ | (repeat (refine ⟨by first | omega | grind, ?_⟩)); refine h5 _ ?_
    clear h5 K5
    refine W_ret ?_
    simp [go_sem]
  · first | have hs4 := szL_pos hb4 | simp at hb4
    refine W_skip ?_
    first | refine h2 _ ?_ | refine ⟨by omega, h2 _ ?_⟩ | refine ⟨by omega, by omega, h2 _ ?_⟩ | (repeat (refine ⟨by first | omega | grind, ?_⟩)); refine h2 _ ?_
    clear h2 K2
    refine W_seqK fun K6 h6 => ?_
    refine W_reg ?_
    simp [go_sem, ty5, ty22]
    refine callG_true (by simp) (CallW_E (pe_spec_DrawWork code (by first | first | omega | (rw [work_regs]; omega) | (simp [hartNew]; done) | (simp; done) | (simp; omega))) (by simp [go_sem, enc, eI]) _ (fun _ => rfl) rfl ?_)
    rintro ⟨h7, x7, g7⟩ hq7
    try dsimp only at hq7
    simp [go_sem, ty2, ty3, ty26, ty59]
    first | refine h6 _ ?_ | refine ⟨by omega, h6 _ ?_⟩ | refine ⟨by omega, by omega, h6 _ ?_⟩ | (repeat (refine ⟨by first | omega | grind, ?_⟩)); refine h6 _ ?_
    clear h6 K6
    refine W_seqK fun K8 h8 => ?_
    refine W_reg ?_
    simp [go_sem, ty3, ty26, ty59]
    refine callG_pc (fun hG => pc_impl_Work h7 x7 g7 (by first | omega | (rw [work_regs]; omega) | (simp [hartNew]; done))) (by first | (simp; done) | (simp [inR_iff]; done) | (simp [inR_iff]; grind) | grind) (fun hG => by simp [go_sem]) rfl rfl (by first | exact Or.inl rfl | exact Or.inr rfl) ?_
    simp [go_sem, ty3, ty26]
    first | refine h8 _ ?_ | refine ⟨by omega, h8 _ ?_⟩ | refine ⟨by omega, by omega, h8 _ ?_⟩ | (repeat (refine ⟨by first | omega | grind, ?_⟩)); refine h8 _ ?_
    clear h8 K8
    refine W_seqK fun K9 h9 => ?_
    refine W_reg ?_
    simp [go_sem, ty3, ty26, ty59]
    refine callG_pc (fun hG => pc_spec_Work h7 x7 g7 (by first | omega | (rw [work_regs]; omega) | (simp [hartNew]; done))) (by first | (simp; done) | (simp [inR_iff]; done) | (simp [inR_iff]; grind) | grind) (fun hG => by simp [go_sem]) rfl rfl (by first | exact Or.inl rfl | exact Or.inr rfl) ?_
    simp [go_sem, ty3, ty26]
    first | refine h9 _ ?_ | refine ⟨by omega, h9 _ ?_⟩ | refine ⟨by omega, by omega, h9 _ ?_⟩ | (repeat (refine ⟨by first | omega | grind, ?_⟩)); refine h9 _ ?_
    clear h9 K9
    refine W_seqK fun K10 h10 => ?_
    refine W_seqK fun K11 h11 => ?_
    refine W_reg ?_
    simp [go_sem, ty3, ty4, ty26]
    refine callG_pc (fun hG => pc_impl_SameHart ((work h7 x7 g7).1) ((work h7 x7 g7).1) (by first | omega | (rw [work_regs]; omega) | (simp [hartNew]; done))) (by first | (simp; done) | (simp [inR_iff]; done) | (simp [inR_iff]; grind) | grind) (fun hG => by simp [go_sem]) rfl rfl (by first | exact Or.inl rfl | exact Or.inr rfl) ?_
    simp [go_sem, ty4]
    first | refine h11 _ ?_ | refine ⟨by omega, h11 _ ?_⟩ | refine ⟨by omega, by omega, h11 _ ?_⟩ | (repeat (refine ⟨by first | omega | grind, ?_⟩)); refine h11 _ ?_
    clear h11 K11
    refine W_cond rfl (fun hb12 => by first | (simp at hb12; done) | (simp at hb12; omega)) fun hb12 => ?_
    clear hb12
    refine W_skip ?_
    first | refine h10 _ ?_ | refine ⟨by omega, h10 _ ?_⟩ | refine ⟨by omega, by omega, h10 _ ?_⟩ | (repeat (refine ⟨by first | omega | grind, ?_⟩)); refine h10 _ ?_
    clear h10 K10
    refine W_seqK fun K13 h13 => ?_
    refine W_reg ?_
    simp [go_sem, ty3]
    first | refine h13 _ ?_ | refine ⟨by omega, h13 _ ?_⟩ | refine ⟨by omega, by omega, h13 _ ?_⟩ | (repeat (refine ⟨by first | omega | grind, ?_⟩)); refine h13 _ ?_
    clear h13 K13
    refine W_seqK fun K14 h14 => ?_
    refine W_seqK fun K15 h15 => ?_
    refine W_reg ?_
    simp [go_sem, ty3]
    first | refine h15 _ ?_ | refine ⟨by omega, h15 _ ?_⟩ | refine ⟨by omega, by omega, h15 _ ?_⟩ | (repeat (refine ⟨by first | omega | grind, ?_⟩)); refine h15 _ ?_
    clear h15 K15
    refine W_block ?_
    refine W_loopI (α := Nat) (fun i => ({ env := [(3, true, .l (.ptr 11 0)), (6, true, .l (.ptr 19 0)), (7, true, .l (.t (.int .i64 ((work h7 x7 g7).2)))), (10, true, .l (.t (.int .i64 ((diffN h7.regs (work h7 x7 g7).1.regs i : Int))))), (11, true, .l (.t (.int .i64 (i))))], box := [(11, [.ref 2 [] 1 0 h7.regs.length, .t (.int .i64 h7.pc), .t (.int .i64 h7.state)]), (19, [.ref 15 [] 1 0 (work h7 x7 g7).1.regs.length, .t (.int .i64 (work h7 x7 g7).1.pc), .t (.int .i64 (work h7 x7 g7).1.state)])], row := [(2, ⟨.own, 1, enc eI h7.regs⟩), (15, ⟨.own, 1, enc eI (work h7 x7 g7).1.regs⟩)], nxt := 60, sav := [] } : St)) (fun i => i ≤ h7.regs.length) (fun i => h7.regs.length - i) 0 ?_ ?_ ?_
    · exact Sub.of_neat [3, 6, 7, 10, 11] [2, 15] [11, 19] 60 (by decide) (by simp [go_sem, diffN])
    · exact Nat.zero_le _
    rintro i hinv
    have hd := diffN_le h7.regs (work h7 x7 g7).1.regs i
    refine W_seqK fun K17 h17 => ?_
    refine W_seqK fun K18 h18 => ?_
    refine W_reg ?_
    simp [go_sem, ty3, ty4, ty24, ty26]
    first | refine h18 _ ?_ | refine ⟨by omega, h18 _ ?_⟩ | refine ⟨by omega, by omega, h18 _ ?_⟩ | (repeat (refine ⟨by first | omega | grind, ?_⟩)); refine h18 _ ?_
    clear h18 K18
    refine W_cond rfl (fun hb19 => ?_) fun hb19 => ?_
    · have hlt : i < h7.regs.length := by simp [work_regs] at hb19; omega
      have hlt2 : i < (work h7 x7 g7).1.regs.length := by rw [work_regs]; exact hlt
      clear hb19
      refine W_skip ?_
      first | refine h17 _ ?_ | refine ⟨by omega, h17 _ ?_⟩ | refine ⟨by omega, by omega, h17 _ ?_⟩ | (repeat (refine ⟨by first | omega | grind, ?_⟩)); refine h17 _ ?_
      clear h17 K17
      refine W_seqK fun K20 h20 => ?_
      refine W_block ?_
      refine W_seqK fun K21 h21 => ?_
      refine W_drawT true mixed (by decide +kernel) ?_
      simp [go_sem, ty3, ty4, ty24, ty26, hlt, hlt2]
      first | refine h21 _ ?_ | refine ⟨by omega, h21 _ ?_⟩ | refine ⟨by omega, by omega, h21 _ ?_⟩ | (repeat (refine ⟨by first | omega | grind, ?_⟩)); refine h21 _ ?_
      clear h21 K21
      refine W_cond rfl (fun hb22 => ?_) fun hb22 => ?_
      · have hne : ¬ h7.regs[i] = (work h7 x7 g7).1.regs[i] := by simpa [hlt, hlt2] using hb22
        clear hb22
        refine W_reg ?_
        have hw1 : IntKind.wrap .i64 ((diffN h7.regs (work h7 x7 g7).1.regs i : Int) + 1) = (diffN h7.regs (work h7 x7 g7).1.regs i : Int) + 1 := wrap_ok (by omega) (by omega)
        simp [go_sem, ty3, hw1]
        first | refine h20 _ ?_ | refine ⟨by omega, h20 _ ?_⟩ | refine ⟨by omega, by omega, h20 _ ?_⟩ | (repeat (refine ⟨by first | omega | grind, ?_⟩)); refine h20 _ ?_
        clear h20 K20
        refine W_reg ?_
        simp [go_sem, ty3]
        refine ⟨i + 1, ?_, ?_, ?_⟩
        · exact Sub.of_neat [3, 6, 7, 10, 11] [2, 15] [11, 19] 60 (by decide) (by simp [go_sem, diffN, hlt, hlt2, wrap_succ (show i < 9223372036854775807 by omega), hb4, hne, hw1])
        · exact hlt
        · omega
      · have hne : h7.regs[i] = (work h7 x7 g7).1.regs[i] := by simpa [hlt, hlt2] using hb22
        clear hb22
        refine W_skip ?_
        first | refine h20 _ ?_ | refine ⟨by omega, h20 _ ?_⟩ | refine ⟨by omega, by omega, h20 _ ?_⟩ | (repeat (refine ⟨by first | omega | grind, ?_⟩)); refine h20 _ ?_
        clear h20 K20
        refine W_reg ?_
        simp [go_sem, ty3]
        refine ⟨i + 1, ?_, ?_, ?_⟩
        · exact Sub.of_neat [3, 6, 7, 10, 11] [2, 15] [11, 19] 60 (by decide) (by simp [go_sem, diffN, hlt, hlt2, wrap_succ (show i < 9223372036854775807 by omega), hb4, hne])
        · exact hlt
        · omega
    · clear hb19
      refine W_exit ?_
      simp [go_sem]
      first | refine h14 _ ?_ | refine ⟨by omega, h14 _ ?_⟩ | refine ⟨by omega, by omega, h14 _ ?_⟩ | (repeat (refine ⟨by first | omega | grind, ?_⟩)); refine h14 _ ?_
      clear h17 K17 h14 K14
      refine W_seqK fun K23 h23 => ?_
      refine W_reg ?_
      have w1 := work_put2 h7 x7 g7
      have w2 := diffN_one (work_one h7 x7 g7) i
      have w3 := work_regs h7 x7 g7
      simp [go_sem, ty3, ty4, ty24, ty26, w1, w3]
      first | refine h23 _ ?_ | refine ⟨by omega, h23 _ ?_⟩ | refine ⟨by omega, by omega, h23 _ ?_⟩ | (repeat (refine ⟨by first | omega | grind, ?_⟩)); refine h23 _ ?_
      clear h23 K23
      refine W_ret ?_
      simp [go_sem]
      omega
end Go.Tw
