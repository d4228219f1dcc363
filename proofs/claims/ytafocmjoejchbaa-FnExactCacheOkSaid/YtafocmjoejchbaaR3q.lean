/- Walks of functions: spec.CacheOk -/
import Derived.Test.YtafocmjoejchbaaR3p
import Derived.Test.YtafocmjoejchbaaBaseD
set_option linter.unusedSimpArgs false
set_option linter.unusedVariables false
namespace Go.Tw
open Go.Proofs

set_option maxRecDepth 100000 in
set_option maxHeartbeats 4000000 in
theorem pc_spec_CacheOk (list : List GBlock) (frames : List GFrame) (hls : ∀ a ∈ list, a.small) (hfs : ∀ a ∈ frames, a.small) (hx : list.length ≤ 1048576) (hy : frames.length ≤ 1048576) : PC Try.prog 33 [(false, [.sl 2 (enc eBlock list)]), (false, [.sl 3 (enc eFrame frames)])] [(false, [.bool (cacheOk list frames)])] := by
  refine PC_of (n := 54) Try.func33 rfl rfl rfl rfl (by simp) ?_
  refine W_seqK fun K1 h1 => ?_
  refine W_reg ?_
  simp [go_sem, ty4]
  first | refine h1 _ ?_ | refine ⟨by omega, h1 _ ?_⟩ | refine ⟨by omega, by omega, h1 _ ?_⟩ | (repeat (refine ⟨by first | omega | grind, ?_⟩)); refine h1 _ ?_
  clear h1 K1
  refine W_seqK fun K2 h2 => ?_
  refine W_seqK fun K3 h3 => ?_
  refine W_reg ?_
  simp [go_sem, ty3, ty4, ty28, ty33, ty60, ty141]
  first | refine h3 _ ?_ | refine ⟨by omega, h3 _ ?_⟩ | refine ⟨by omega, by omega, h3 _ ?_⟩ | (repeat (refine ⟨by first | omega | grind, ?_⟩)); refine h3 _ ?_
  clear h3 K3
  refine W_cond rfl (fun hb4 => ?_) fun hb4 => ?_
  · have q : cacheOk list frames = false := cacheOk_hd (by simp at hb4; omega)
    refine W_seqK fun K5 h5 => ?_
    refine W_reg ?_
    simp [go_sem, ty4]
    first | refine h5 _ ?_ | refine ⟨by omega, h5 _ ?_⟩ | refine ⟨by omega, by omega, h5 _ ?_⟩ | (repeat (refine ⟨by first | omega | grind, ?_⟩)); refine h5 _ ?_
    clear h5 K5
    refine W_ret ?_
    simp [go_sem, q]
  · obtain ⟨hl5, hf6⟩ : list.length ≤ 5 ∧ frames.length = 6 := by simp at hb4; omega
    clear hb4
    refine W_skip ?_
    first | refine h2 _ ?_ | refine ⟨by omega, h2 _ ?_⟩ | refine ⟨by omega, by omega, h2 _ ?_⟩ | (repeat (refine ⟨by first | omega | grind, ?_⟩)); refine h2 _ ?_
    clear h2 K2
    refine W_seqK fun K6 h6 => ?_
    refine W_seqK fun K7 h7 => ?_
    refine W_reg ?_
    simp [go_sem, ty3]
    first | refine h7 _ ?_ | refine ⟨by omega, h7 _ ?_⟩ | refine ⟨by omega, by omega, h7 _ ?_⟩ | (repeat (refine ⟨by first | omega | grind, ?_⟩)); refine h7 _ ?_
    clear h7 K7
    refine W_block ?_
    refine W_loopI (α := Nat) (fun i => ({ env := [(0, true, .l (.ref 0 [] 2 0 (list.length))), (1, true, .l (.ref 1 [] 3 0 (frames.length))), (5, true, .l (.t (.int .i64 (i))))], box := [], row := [(0, ⟨.ro, 2, enc eBlock list⟩), (1, ⟨.ro, 3, enc eFrame frames⟩)], nxt := 9, sav := [] } : St)) (fun i => i ≤ 6 ∧ ∀ j, (hj : j < frames.length) → j < i → frameOk frames[j] = true) (fun i => 6 - i) 0 ?_ ?_ ?_
    · exact Sub.of_tidy [0, 1, 5] [0, 1] [] 9 (by decide) (by simp [go_sem])
    · simp
    rintro i hinv
    obtain ⟨hi, hall⟩ := hinv
    refine W_seqK fun K9 h9 => ?_
    refine W_seqK fun K10 h10 => ?_
    refine W_reg ?_
    simp [go_sem, ty3, ty4]
    first | refine h10 _ ?_ | refine ⟨by omega, h10 _ ?_⟩ | refine ⟨by omega, by omega, h10 _ ?_⟩ | (repeat (refine ⟨by first | omega | grind, ?_⟩)); refine h10 _ ?_
    clear h10 K10
    refine W_cond rfl (fun hb11 => ?_) fun hb11 => ?_
    · have hlt : i < 6 := by simp at hb11; omega
      have hlf : i < frames.length := by omega
      have hfl : frames[i].list.length ≤ 1048576 := by have := hfs _ (List.getElem_mem hlf); unfold GFrame.small at this; omega
      clear hb11
      refine W_skip ?_
      first | refine h9 _ ?_ | refine ⟨by omega, h9 _ ?_⟩ | refine ⟨by omega, by omega, h9 _ ?_⟩ | (repeat (refine ⟨by first | omega | grind, ?_⟩)); refine h9 _ ?_
      clear h9 K9
      refine W_seqK fun K12 h12 => ?_
      refine W_block ?_
      refine W_seqK fun K13 h13 => ?_
      refine W_reg ?_
      simp [go_sem, ty3, ty4, ty60, ty141, hlf]
      refine callG_pc (fun hG => pc_spec_FrameOk frames[i] (by omega)) (by first | (simp; done) | (simp [inR_iff]; done) | (simp [inR_iff]; grind) | grind) (fun hG => by simp [go_sem, hlf]) rfl rfl (by first | exact Or.inl rfl | exact Or.inr rfl) ?_
      simp [go_sem, ty4, hlf]
      first | refine h13 _ ?_ | refine ⟨by omega, h13 _ ?_⟩ | refine ⟨by omega, by omega, h13 _ ?_⟩ | (repeat (refine ⟨by first | omega | grind, ?_⟩)); refine h13 _ ?_
      clear h13 K13
      refine W_cond rfl (fun hb14 => ?_) fun hb14 => ?_
      · have q : cacheOk list frames = false := cacheOk_fr hlf (by simpa [hlf] using hb14)
        refine W_seqK fun K15 h15 => ?_
        refine W_reg ?_
        simp [go_sem, ty4]
        first | refine h15 _ ?_ | refine ⟨by omega, h15 _ ?_⟩ | refine ⟨by omega, by omega, h15 _ ?_⟩ | (repeat (refine ⟨by first | omega | grind, ?_⟩)); refine h15 _ ?_
        clear h15 K15
        refine W_ret ?_
        simp [go_sem, q]
      · have hok : frameOk frames[i] = true := by simpa [hlf] using hb14
        clear hb14
        refine W_skip ?_
        first | refine h12 _ ?_ | refine ⟨by omega, h12 _ ?_⟩ | refine ⟨by omega, by omega, h12 _ ?_⟩ | (repeat (refine ⟨by first | omega | grind, ?_⟩)); refine h12 _ ?_
        clear h12 K12
        refine W_reg ?_
        simp [go_sem, ty3]
        refine ⟨i + 1, ?_, ?_, ?_⟩
        · exact Sub.of_tidy [0, 1, 5] [0, 1] [] 9 (by decide) (by simp [go_sem, wrap_succ (show i < 9223372036854775807 by omega)])
        · exact ⟨hlt, fun j hj hji => by rcases Nat.lt_succ_iff_lt_or_eq.1 hji with h | rfl; exact hall j hj h; exact hok⟩
        · omega
    · have q6 : i = 6 := by simp at hb11; omega
      have hfa : frames.all frameOk = true := all_of fun j hj => hall j hj (by omega)
      clear hb11
      refine W_exit ?_
      simp [go_sem]
      first | refine h6 _ ?_ | refine ⟨by omega, h6 _ ?_⟩ | refine ⟨by omega, by omega, h6 _ ?_⟩ | (repeat (refine ⟨by first | omega | grind, ?_⟩)); refine h6 _ ?_
      clear h9 K9 h6 K6
      refine W_seqK fun K16 h16 => ?_
      refine W_seqK fun K17 h17 => ?_
      refine W_reg ?_
      simp [go_sem, ty3]
      first | refine h17 _ ?_ | refine ⟨by omega, h17 _ ?_⟩ | refine ⟨by omega, by omega, h17 _ ?_⟩ | (repeat (refine ⟨by first | omega | grind, ?_⟩)); refine h17 _ ?_
      clear h17 K17
      refine W_block ?_
      refine W_loopI (α := Nat) (fun i => ({ env := [(0, true, .l (.ref 0 [] 2 0 (list.length))), (1, true, .l (.ref 1 [] 3 0 (frames.length))), (6, true, .l (.t (.int .i64 (i))))], box := [], row := [(0, ⟨.ro, 2, enc eBlock list⟩), (1, ⟨.ro, 3, enc eFrame frames⟩)], nxt := 9, sav := [] } : St)) (fun i => i ≤ list.length ∧ ∀ j, (hj : j < list.length) → j < i → bOk frames list[j] = true) (fun i => list.length - i) 0 ?_ ?_ ?_
      · exact Sub.of_tidy [0, 1, 6] [0, 1] [] 9 (by decide) (by simp [go_sem])
      · simp
      rintro i hinv
      obtain ⟨hi, hall⟩ := hinv
      refine W_seqK fun K19 h19 => ?_
      refine W_seqK fun K20 h20 => ?_
      refine W_reg ?_
      simp [go_sem, ty3, ty4, ty28, ty33]
      first | refine h20 _ ?_ | refine ⟨by omega, h20 _ ?_⟩ | refine ⟨by omega, by omega, h20 _ ?_⟩ | (repeat (refine ⟨by first | omega | grind, ?_⟩)); refine h20 _ ?_
      clear h20 K20
      refine W_cond rfl (fun hb21 => ?_) fun hb21 => ?_
      · have hlt : i < list.length := by simpa using hb21
        have hbl : list[i].list.length ≤ 1048576 := by have := hls _ (List.getElem_mem hlt); unfold GBlock.small at this; omega
        clear hb21
        refine W_skip ?_
        first | refine h19 _ ?_ | refine ⟨by omega, h19 _ ?_⟩ | refine ⟨by omega, by omega, h19 _ ?_⟩ | (repeat (refine ⟨by first | omega | grind, ?_⟩)); refine h19 _ ?_
        clear h19 K19
        refine W_seqK fun K22 h22 => ?_
        refine W_block ?_
        refine W_seqK fun K23 h23 => ?_
        refine W_reg ?_
        simp [go_sem, ty3, ty28, ty33, hlt]
        first | refine h23 _ ?_ | refine ⟨by omega, h23 _ ?_⟩ | refine ⟨by omega, by omega, h23 _ ?_⟩ | (repeat (refine ⟨by first | omega | grind, ?_⟩)); refine h23 _ ?_
        clear h23 K23
        refine W_seqK fun K24 h24 => ?_
        rcases page_split list[i] hf6 with ⟨hq, hw, hpl⟩ | ⟨hq, pg, hpg, hw, hpl⟩
        · refine W_drawT true mixed (by decide +kernel) ?_
          simp [go_sem, ty4, ty33, hlt, hq, hw, hpl]
          refine callG_pc (fun hG => pc_spec_BlockOk list[i] (by omega)) (by first | (simp; done) | (simp [inR_iff]; done) | (simp [inR_iff]; grind) | grind) (fun hG => by simp [go_sem, hlt]) rfl rfl (by first | exact Or.inl rfl | exact Or.inr rfl) ?_
          simp [go_sem, ty3, ty4, ty33, ty42, ty60, ty141, hlt, hq, hw, hpl]
          first | refine callG_pc (fun hG => pc_spec_BlockOf frames[pg].list list[i].start (by have := hfs _ (List.getElem_mem hpl); unfold GFrame.small at this; omega)) (by first | (simp; done) | (simp [inR_iff]; done) | (simp [inR_iff]; grind) | grind) (fun hG => by simp [go_sem, hlt, hpl]) rfl rfl (by first | exact Or.inl rfl | exact Or.inr rfl) ?_ | refine callG_false (.agg [.t (.int .i64 0), .nil]) ?_
          simp [go_sem, ty4, ty33, hlt, hq, hw, hpl]
          first | refine callG_pc (fun hG => pc_spec_l11Same list[i] (blockOf frames[pg].list list[i].start) (by omega)) (by first | (simp; done) | (simp [inR_iff]; done) | (simp [inR_iff]; grind) | grind) (fun hG => by simp [go_sem, hlt, hpl]) rfl rfl (by first | exact Or.inl rfl | exact Or.inr rfl) ?_ | refine callG_false (.l (.t (.bool true))) ?_
          simp [go_sem, ty4, hlt, hq, hw, hpl]
          first | refine h24 _ ?_ | refine ⟨by omega, h24 _ ?_⟩ | refine ⟨by omega, by omega, h24 _ ?_⟩ | (repeat (refine ⟨by first | omega | grind, ?_⟩)); refine h24 _ ?_
          clear h24 K24
          refine W_cond rfl (fun hb25 => ?_) fun hb25 => ?_
          · have q : cacheOk list frames = false := cacheOk_bl hlt (by first | exact bOk_no hq | (rw [bOk_at hq hpg hpl]; simpa using hb25))
            refine W_seqK fun K26 h26 => ?_
            refine W_reg ?_
            simp [go_sem, ty4]
            first | refine h26 _ ?_ | refine ⟨by omega, h26 _ ?_⟩ | refine ⟨by omega, by omega, h26 _ ?_⟩ | (repeat (refine ⟨by first | omega | grind, ?_⟩)); refine h26 _ ?_
            clear h26 K26
            refine W_ret ?_
            simp [go_sem, q]
          · have hok : bOk frames list[i] = true := by first | (simp at hb25; done) | (rw [bOk_at hq hpg hpl]; simpa using hb25)
            clear hb25
            refine W_skip ?_
            first | refine h22 _ ?_ | refine ⟨by omega, h22 _ ?_⟩ | refine ⟨by omega, by omega, h22 _ ?_⟩ | (repeat (refine ⟨by first | omega | grind, ?_⟩)); refine h22 _ ?_
            clear h22 K22
            refine W_reg ?_
            simp [go_sem, ty3]
            refine ⟨i + 1, ?_, ?_, ?_⟩
            · exact Sub.of_tidy [0, 1, 6] [0, 1] [] 9 (by decide) (by simp [go_sem, wrap_succ (show i < 9223372036854775807 by omega)])
            · exact ⟨hlt, fun j hj hji => by rcases Nat.lt_succ_iff_lt_or_eq.1 hji with h | rfl; exact hall j hj h; exact hok⟩
            · omega
        · refine W_drawT true mixed (by decide +kernel) ?_
          simp [go_sem, ty4, ty33, hlt, hq, hw, hpl]
          refine callG_pc (fun hG => pc_spec_BlockOk list[i] (by omega)) (by first | (simp; done) | (simp [inR_iff]; done) | (simp [inR_iff]; grind) | grind) (fun hG => by simp [go_sem, hlt]) rfl rfl (by first | exact Or.inl rfl | exact Or.inr rfl) ?_
          simp [go_sem, ty3, ty4, ty33, ty42, ty60, ty141, hlt, hq, hw, hpl]
          first | refine callG_pc (fun hG => pc_spec_BlockOf frames[pg].list list[i].start (by have := hfs _ (List.getElem_mem hpl); unfold GFrame.small at this; omega)) (by first | (simp; done) | (simp [inR_iff]; done) | (simp [inR_iff]; grind) | grind) (fun hG => by simp [go_sem, hlt, hpl]) rfl rfl (by first | exact Or.inl rfl | exact Or.inr rfl) ?_ | refine callG_false (.agg [.t (.int .i64 0), .nil]) ?_
          simp [go_sem, ty4, ty33, hlt, hq, hw, hpl]
          first | refine callG_pc (fun hG => pc_spec_l11Same list[i] (blockOf frames[pg].list list[i].start) (by omega)) (by first | (simp; done) | (simp [inR_iff]; done) | (simp [inR_iff]; grind) | grind) (fun hG => by simp [go_sem, hlt, hpl]) rfl rfl (by first | exact Or.inl rfl | exact Or.inr rfl) ?_ | refine callG_false (.l (.t (.bool true))) ?_
          simp [go_sem, ty4, hlt, hq, hw, hpl]
          first | refine h24 _ ?_ | refine ⟨by omega, h24 _ ?_⟩ | refine ⟨by omega, by omega, h24 _ ?_⟩ | (repeat (refine ⟨by first | omega | grind, ?_⟩)); refine h24 _ ?_
          clear h24 K24
          refine W_cond rfl (fun hb27 => ?_) fun hb27 => ?_
          · have q : cacheOk list frames = false := cacheOk_bl hlt (by first | exact bOk_no hq | (rw [bOk_at hq hpg hpl]; simpa using hb27))
            refine W_seqK fun K28 h28 => ?_
            refine W_reg ?_
            simp [go_sem, ty4]
            first | refine h28 _ ?_ | refine ⟨by omega, h28 _ ?_⟩ | refine ⟨by omega, by omega, h28 _ ?_⟩ | (repeat (refine ⟨by first | omega | grind, ?_⟩)); refine h28 _ ?_
            clear h28 K28
            refine W_ret ?_
            simp [go_sem, q]
          · have hok : bOk frames list[i] = true := by first | (simp at hb27; done) | (rw [bOk_at hq hpg hpl]; simpa using hb27)
            clear hb27
            refine W_skip ?_
            first | refine h22 _ ?_ | refine ⟨by omega, h22 _ ?_⟩ | refine ⟨by omega, by omega, h22 _ ?_⟩ | (repeat (refine ⟨by first | omega | grind, ?_⟩)); refine h22 _ ?_
            clear h22 K22
            refine W_reg ?_
            simp [go_sem, ty3]
            refine ⟨i + 1, ?_, ?_, ?_⟩
            · exact Sub.of_tidy [0, 1, 6] [0, 1] [] 9 (by decide) (by simp [go_sem, wrap_succ (show i < 9223372036854775807 by omega)])
            · exact ⟨hlt, fun j hj hji => by rcases Nat.lt_succ_iff_lt_or_eq.1 hji with h | rfl; exact hall j hj h; exact hok⟩
            · omega
      · obtain rfl : i = list.length := by simp at hb21; omega
        have q : cacheOk list frames = true := cacheOk_good hl5 hf6 hfa fun j hj => hall j hj hj
        clear hb21
        refine W_exit ?_
        simp [go_sem]
        first | refine h16 _ ?_ | refine ⟨by omega, h16 _ ?_⟩ | refine ⟨by omega, by omega, h16 _ ?_⟩ | (repeat (refine ⟨by first | omega | grind, ?_⟩)); refine h16 _ ?_
        clear h19 K19 h16 K16
        refine W_seqK fun K29 h29 => ?_
        refine W_reg ?_
        simp [go_sem, ty4]
        first | refine h29 _ ?_ | refine ⟨by omega, h29 _ ?_⟩ | refine ⟨by omega, by omega, h29 _ ?_⟩ | (repeat (refine ⟨by first | omega | grind, ?_⟩)); refine h29 _ ?_
        clear h29 K29
        refine W_ret ?_
        simp [go_sem, q]
end Go.Tw
