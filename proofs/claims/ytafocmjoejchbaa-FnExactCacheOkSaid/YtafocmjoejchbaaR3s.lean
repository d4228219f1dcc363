/- Walks of functions: impl.CacheOk -/
import Derived.Test.YtafocmjoejchbaaR3q
set_option linter.unusedSimpArgs false
set_option linter.unusedVariables false
namespace Go.Tw
open Go.Proofs

set_option maxRecDepth 100000 in
set_option maxHeartbeats 4000000 in
theorem pc_impl_CacheOk (list : List GBlock) (frames : List GFrame) (hls : ∀ a ∈ list, a.small) (hfs : ∀ a ∈ frames, a.small) (hx : list.length ≤ 1048576) (hy : frames.length ≤ 1048576) : PC Try.prog 35 [(false, [.sl 2 (enc eBlock list)]), (false, [.sl 3 (enc eFrame frames)])] [(false, [.bool (cacheOk list frames)])] := by
  refine PC_of (n := 53) Try.func35 rfl rfl rfl rfl (by simp) ?_
  refine W_seqK fun K1 h1 => ?_
  refine W_reg ?_
  simp [go_sem, ty4]
  first | refine h1 _ ?_ | refine ⟨by omega, h1 _ ?_⟩ | refine ⟨by omega, by omega, h1 _ ?_⟩ | (repeat (refine ⟨by first | omega | grind, ?_⟩)); refine h1 _ ?_
  clear h1 K1
  refine W_seqK fun K2 h2 => ?_
  refine W_seqK fun K3 h3 => ?_
  refine W_reg ?_
  simp [go_sem, ty3, ty4, ty28, ty33, ty60, ty141]
  refine callG_quiet (fun hG => q_ContainsFunc_Frame (pr := fun f => !(frameOk f)) (bs := []) (caps := []) rfl (by omega) trivial rfl (fun x hx => PC.toB (pc_impl_CacheOk_1 x (by have := hfs _ hx; unfold GFrame.small at this; omega)))) (by simp) ?_
  simp [go_sem, ty4]
  first | refine h3 _ ?_ | refine ⟨by omega, h3 _ ?_⟩ | refine ⟨by omega, by omega, h3 _ ?_⟩ | (repeat (refine ⟨by first | omega | grind, ?_⟩)); refine h3 _ ?_
  clear h3 K3
  refine W_cond rfl (fun hb4 => ?_) fun hb4 => ?_
  · have q : cacheOk list frames = false := cacheOk_not hb4
    clear hb4
    refine W_seqK fun K5 h5 => ?_
    refine W_reg ?_
    simp [go_sem, ty4]
    first | refine h5 _ ?_ | refine ⟨by omega, h5 _ ?_⟩ | refine ⟨by omega, by omega, h5 _ ?_⟩ | (repeat (refine ⟨by first | omega | grind, ?_⟩)); refine h5 _ ?_
    clear h5 K5
    refine W_ret ?_
    simp [go_sem, q]
  · have hb42 := hb4
    rw [Bool.or_eq_false_iff] at hb42
    have hfa : frames.all frameOk = true := all_any hb42.2
    obtain ⟨hl5, hf6⟩ : list.length ≤ 5 ∧ frames.length = 6 := by have q := hb42.1; simp at q; omega
    clear hb4 hb42
    refine W_skip ?_
    first | refine h2 _ ?_ | refine ⟨by omega, h2 _ ?_⟩ | refine ⟨by omega, by omega, h2 _ ?_⟩ | (repeat (refine ⟨by first | omega | grind, ?_⟩)); refine h2 _ ?_
    clear h2 K2
    refine W_seqK fun K6 h6 => ?_
    refine W_seqK fun K7 h7 => ?_
    refine W_reg ?_
    simp [go_sem, ty3, ty28, ty33]
    first | refine h7 _ ?_ | refine ⟨by omega, h7 _ ?_⟩ | refine ⟨by omega, by omega, h7 _ ?_⟩ | (repeat (refine ⟨by first | omega | grind, ?_⟩)); refine h7 _ ?_
    clear h7 K7
    refine W_block ?_
    refine W_loopI (α := Nat) (fun i => ({ env := [(1, true, .l (.ref 1 [] 3 0 (frames.length))), (20, true, .l (.ref 0 [] 2 0 (list.length))), (21, true, .l (.t (.int .i64 (list.length)))), (22, true, .l (.t (.int .i64 (i))))], box := [], row := [(0, ⟨.ro, 2, enc eBlock list⟩), (1, ⟨.ro, 3, enc eFrame frames⟩)], nxt := 9, sav := [] } : St)) (fun i => i ≤ list.length ∧ ∀ j, (hj : j < list.length) → j < i → bOk frames list[j] = true) (fun i => list.length - i) 0 ?_ ?_ ?_
    · exact Sub.of_tidy [1, 20, 21, 22] [0, 1] [] 9 (by decide) (by simp [go_sem])
    · simp
    rintro i hinv
    obtain ⟨hi, hall⟩ := hinv
    refine W_seqK fun K9 h9 => ?_
    refine W_reg ?_
    simp [go_sem, ty3]
    first | refine h9 _ ?_ | refine ⟨by omega, h9 _ ?_⟩ | refine ⟨by omega, by omega, h9 _ ?_⟩ | (repeat (refine ⟨by first | omega | grind, ?_⟩)); refine h9 _ ?_
    clear h9 K9
    refine W_seqK fun K10 h10 => ?_
    refine W_cond rfl (fun hb11 => ?_) fun hb11 => ?_
    · have hlt : i < list.length := by simpa using hb11
      have hbl : list[i].list.length ≤ 1048576 := by have := hls _ (List.getElem_mem hlt); unfold GBlock.small at this; omega
      clear hb11
      refine W_skip ?_
      first | refine h10 _ ?_ | refine ⟨by omega, h10 _ ?_⟩ | refine ⟨by omega, by omega, h10 _ ?_⟩ | (repeat (refine ⟨by first | omega | grind, ?_⟩)); refine h10 _ ?_
      clear h10 K10
      refine W_seqK fun K12 h12 => ?_
      refine W_block ?_
      refine W_seqK fun K13 h13 => ?_
      refine W_reg ?_
      simp [go_sem, ty28, ty33, hlt]
      first | refine h13 _ ?_ | refine ⟨by omega, h13 _ ?_⟩ | refine ⟨by omega, by omega, h13 _ ?_⟩ | (repeat (refine ⟨by first | omega | grind, ?_⟩)); refine h13 _ ?_
      clear h13 K13
      refine W_seqK fun K14 h14 => ?_
      refine W_seqK fun K15 h15 => ?_
      refine W_reg ?_
      simp [go_sem, ty4, ty33]
      refine callG_pc (fun hG => pc_impl_BlockOk list[i] (by omega)) (by first | (simp; done) | (simp [inR_iff]; done) | (simp [inR_iff]; grind) | grind) (fun hG => by simp [go_sem, hlt]) rfl rfl (by first | exact Or.inl rfl | exact Or.inr rfl) ?_
      simp [go_sem, ty4]
      first | refine h15 _ ?_ | refine ⟨by omega, h15 _ ?_⟩ | refine ⟨by omega, by omega, h15 _ ?_⟩ | (repeat (refine ⟨by first | omega | grind, ?_⟩)); refine h15 _ ?_
      clear h15 K15
      refine W_cond rfl (fun hb16 => ?_) fun hb16 => ?_
      · have hq : blockOk list[i] = false := by simpa [hlt] using hb16
        have q : cacheOk list frames = false := cacheOk_bl hlt (bOk_no hq)
        refine W_seqK fun K17 h17 => ?_
        refine W_reg ?_
        simp [go_sem, ty4]
        first | refine h17 _ ?_ | refine ⟨by omega, h17 _ ?_⟩ | refine ⟨by omega, by omega, h17 _ ?_⟩ | (repeat (refine ⟨by first | omega | grind, ?_⟩)); refine h17 _ ?_
        clear h17 K17
        refine W_ret ?_
        simp [go_sem, q]
      · have hq : blockOk list[i] = true := by simpa [hlt] using hb16
        obtain ⟨pg, hpg, hw, hpl⟩ := page_of hq
        rw [← hf6] at hpl
        have hfl : frames[pg].list.length ≤ 1048576 := (by have := hfs _ (List.getElem_mem hpl); unfold GFrame.small at this; omega)
        have hbo := blockOf_len (s := list[i].start) hfl
        clear hb16
        refine W_skip ?_
        first | refine h14 _ ?_ | refine ⟨by omega, h14 _ ?_⟩ | refine ⟨by omega, by omega, h14 _ ?_⟩ | (repeat (refine ⟨by first | omega | grind, ?_⟩)); refine h14 _ ?_
        clear h14 K14
        refine W_seqK fun K18 h18 => ?_
        refine W_drawS true (.op 0 (.op 1 (.op 2 (.op 3 (.op 4 (.op 5 (.op 6 (.op 7 (.op 8 (.fork 9 (.op 10 (.op 11 .nil)) 10 (.op 9 (.op 11 .nil)))))))))))) mixed (by decide +kernel) rfl ?_
        simp [go_sem, ty3, ty33, ty42, ty60, ty141, hlt, hw, hpl]
        refine ⟨?_, ?_⟩
        · try simp [go_sem, ty3, ty33, ty42, hlt, hw, hpl]
          first | refine callG_pc (fun hG => pc_impl_BlockOf frames[pg].list list[i].start (by have := hfs _ (List.getElem_mem hpl); unfold GFrame.small at this; omega)) (by first | (simp; done) | (simp [inR_iff]; done) | (simp [inR_iff]; grind) | grind) (fun hG => by simp [go_sem, hlt, hpl]) rfl rfl (by first | exact Or.inl rfl | exact Or.inr rfl) ?_
          simp [go_sem, ty33, hlt, hw, hpl]
          first | refine h18 _ ?_ | refine ⟨by omega, h18 _ ?_⟩ | refine ⟨by omega, by omega, h18 _ ?_⟩ | (repeat (refine ⟨by first | omega | grind, ?_⟩)); refine h18 _ ?_
          clear h18 K18
          refine W_seqK fun K19 h19 => ?_
          refine W_reg ?_
          simp [go_sem, ty3, ty4, ty31, ty33, ty123]
          refine callG_pc (fun hG => pc_slices_Equal_impl_Ins_impl_Ins (blockOf frames[pg].list list[i].start).list list[i].list (by omega)) (by first | (simp; done) | (simp [inR_iff]; done) | (simp [inR_iff]; grind) | grind) (fun hG => by simp [go_sem, hlt, hpl]) rfl rfl (by first | exact Or.inl rfl | exact Or.inr rfl) ?_
          simp [go_sem, ty4]
          first | refine h19 _ ?_ | refine ⟨by omega, h19 _ ?_⟩ | refine ⟨by omega, by omega, h19 _ ?_⟩ | (repeat (refine ⟨by first | omega | grind, ?_⟩)); refine h19 _ ?_
          clear h19 K19
          refine W_cond rfl (fun hb20 => ?_) fun hb20 => ?_
          · have q : cacheOk list frames = false := cacheOk_bl hlt (by rw [bOk_at hq hpg hpl, decide_eq_false_iff_not]; intro e; rw [← e] at hb20; simp at hb20)
            refine W_seqK fun K21 h21 => ?_
            refine W_reg ?_
            simp [go_sem, ty4]
            first | refine h21 _ ?_ | refine ⟨by omega, h21 _ ?_⟩ | refine ⟨by omega, by omega, h21 _ ?_⟩ | (repeat (refine ⟨by first | omega | grind, ?_⟩)); refine h21 _ ?_
            clear h21 K21
            refine W_ret ?_
            simp [go_sem, q]
          · have hok : bOk frames list[i] = true := by rw [bOk_at hq hpg hpl, decide_eq_true_iff]; simp at hb20; exact (GBlock.ext hb20.1 hb20.2).symm
            clear hb20
            refine W_skip ?_
            first | refine h12 _ ?_ | refine ⟨by omega, h12 _ ?_⟩ | refine ⟨by omega, by omega, h12 _ ?_⟩ | (repeat (refine ⟨by first | omega | grind, ?_⟩)); refine h12 _ ?_
            clear h12 K12
            refine W_reg ?_
            simp [go_sem, ty3]
            refine ⟨i + 1, ?_, ?_, ?_⟩
            · exact Sub.of_tidy [1, 20, 21, 22] [0, 1] [] 9 (by decide) (by simp [go_sem, wrap_succ (show i < 9223372036854775807 by omega)])
            · exact ⟨hlt, fun j hj hji => by rcases Nat.lt_succ_iff_lt_or_eq.1 hji with h | rfl; exact hall j hj h; exact hok⟩
            · omega
        · try simp [go_sem, ty3, ty33, ty42, hlt, hw, hpl]
          first | refine callG_pc (fun hG => pc_impl_BlockOf frames[pg].list list[i].start (by have := hfs _ (List.getElem_mem hpl); unfold GFrame.small at this; omega)) (by first | (simp; done) | (simp [inR_iff]; done) | (simp [inR_iff]; grind) | grind) (fun hG => by simp [go_sem, hlt, hpl]) rfl rfl (by first | exact Or.inl rfl | exact Or.inr rfl) ?_
          simp [go_sem, ty33, hlt, hw, hpl]
          first | refine h18 _ ?_ | refine ⟨by omega, h18 _ ?_⟩ | refine ⟨by omega, by omega, h18 _ ?_⟩ | (repeat (refine ⟨by first | omega | grind, ?_⟩)); refine h18 _ ?_
          clear h18 K18
          refine W_seqK fun K22 h22 => ?_
          refine W_reg ?_
          simp [go_sem, ty3, ty4, ty31, ty33, ty123]
          refine callG_pc (fun hG => pc_slices_Equal_impl_Ins_impl_Ins (blockOf frames[pg].list list[i].start).list list[i].list (by omega)) (by first | (simp; done) | (simp [inR_iff]; done) | (simp [inR_iff]; grind) | grind) (fun hG => by simp [go_sem, hlt, hpl]) rfl rfl (by first | exact Or.inl rfl | exact Or.inr rfl) ?_
          simp [go_sem, ty4]
          first | refine h22 _ ?_ | refine ⟨by omega, h22 _ ?_⟩ | refine ⟨by omega, by omega, h22 _ ?_⟩ | (repeat (refine ⟨by first | omega | grind, ?_⟩)); refine h22 _ ?_
          clear h22 K22
          refine W_cond rfl (fun hb23 => ?_) fun hb23 => ?_
          · have q : cacheOk list frames = false := cacheOk_bl hlt (by rw [bOk_at hq hpg hpl, decide_eq_false_iff_not]; intro e; rw [← e] at hb23; simp at hb23)
            refine W_seqK fun K24 h24 => ?_
            refine W_reg ?_
            simp [go_sem, ty4]
            first | refine h24 _ ?_ | refine ⟨by omega, h24 _ ?_⟩ | refine ⟨by omega, by omega, h24 _ ?_⟩ | (repeat (refine ⟨by first | omega | grind, ?_⟩)); refine h24 _ ?_
            clear h24 K24
            refine W_ret ?_
            simp [go_sem, q]
          · have hok : bOk frames list[i] = true := by rw [bOk_at hq hpg hpl, decide_eq_true_iff]; simp at hb23; exact (GBlock.ext hb23.1 hb23.2).symm
            clear hb23
            refine W_skip ?_
            first | refine h12 _ ?_ | refine ⟨by omega, h12 _ ?_⟩ | refine ⟨by omega, by omega, h12 _ ?_⟩ | (repeat (refine ⟨by first | omega | grind, ?_⟩)); refine h12 _ ?_
            clear h12 K12
            refine W_reg ?_
            simp [go_sem, ty3]
            refine ⟨i + 1, ?_, ?_, ?_⟩
            · exact Sub.of_tidy [1, 20, 21, 22] [0, 1] [] 9 (by decide) (by simp [go_sem, wrap_succ (show i < 9223372036854775807 by omega)])
            · exact ⟨hlt, fun j hj hji => by rcases Nat.lt_succ_iff_lt_or_eq.1 hji with h | rfl; exact hall j hj h; exact hok⟩
            · omega
    · obtain rfl : i = list.length := by simp at hb11; omega
      have q : cacheOk list frames = true := cacheOk_good hl5 hf6 hfa fun j hj => hall j hj hj
      clear hb11
      refine W_exit ?_
      simp [go_sem]
      first | refine h6 _ ?_ | refine ⟨by omega, h6 _ ?_⟩ | refine ⟨by omega, by omega, h6 _ ?_⟩ | (repeat (refine ⟨by first | omega | grind, ?_⟩)); refine h6 _ ?_
      clear h10 K10 h6 K6
      refine W_seqK fun K25 h25 => ?_
      refine W_reg ?_
      simp [go_sem, ty4]
      first | refine h25 _ ?_ | refine ⟨by omega, h25 _ ?_⟩ | refine ⟨by omega, by omega, h25 _ ?_⟩ | (repeat (refine ⟨by first | omega | grind, ?_⟩)); refine h25 _ ?_
      clear h25 K25
      refine W_ret ?_
      simp [go_sem, q]
end Go.Tw
