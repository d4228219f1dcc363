/- Walks of functions: spec.BlockOf, impl.BlockOf, spec.CacheOk, impl.CacheOk -/
import Derived.Test.YtjfjnpbeboafkaaGreatG8c
set_option linter.unusedSimpArgs false
set_option linter.unusedVariables false
set_option linter.unnecessarySimpa false
namespace Go.Tw
open Go.Proofs

set_option maxRecDepth 100000 in
set_option maxHeartbeats 4000000 in
theorem pc_spec_BlockOf (ws : List Int) (s : Int) (hx : ws.length ≤ 1048576) : PC Tryz.prog 28 [(false, [.sl 1 (enc eI ws)]), (false, [.int .i64 s])] [(true, eBlock (blockOf ws s))] := by
  refine PC_of (n := 44) Tryz.func28 rfl rfl rfl rfl (by simp) ?_
  refine W_seqK fun K1 h1 => ?_
  refine W_reg ?_
  simp [go_sem, ty74]
  repeat refine tk ?_
  refine h1 _ ?_
  clear h1 K1
  refine W_seqK fun K2 h2 => ?_
  refine W_seqK fun K3 h3 => ?_
  refine W_reg ?_
  simp [go_sem, ty3, ty4, ty22]
  refine callA (fun hG => pc_spec_l1In s 0 23) (fun hG => by simp [go_sem]) rfl rfl ?_
  simp [go_sem, ty4]
  repeat refine tk ?_
  refine h3 _ ?_
  clear h3 K3
  refine W_cond rfl (fun hb4 => ?_) fun hb4 => ?_
  · have q : blockOf ws s = ⟨0, []⟩ := if_neg (by simp [inR] at hb4; omega)
    clear hb4
    refine W_seqK fun K5 h5 => ?_
    refine W_reg ?_
    simp [go_sem, ty74, fw74]
    repeat refine tk ?_
    refine h5 _ ?_
    clear h5 K5
    refine W_ret ?_
    simp [go_sem, ty74, q]
  · have hc : ws.length = 4 ∧ 0 ≤ s ∧ s ≤ 23 := by simp [inR] at hb4; omega
    obtain ⟨hc4, hc0, hc1⟩ := hc
    clear hb4
    have hrem : s.tmod 4 = (((s % 4).toNat : Nat) : Int) := by rw [tmod_pos hc0]; omega
    obtain ⟨d, hd⟩ : ∃ d, d = (s % 4).toNat := ⟨_, rfl⟩
    have hd4 : d < 4 := by omega
    rw [← hd] at hrem
    refine W_skip ?_
    repeat refine tk ?_
    refine h2 _ ?_
    clear h2 K2
    refine W_seqK fun K6 h6 => ?_
    refine W_reg ?_
    simp [go_sem, ty3, ty74, fw74]
    repeat refine tk ?_
    refine h6 _ ?_
    clear h6 K6
    refine W_seqK fun K7 h7 => ?_
    refine W_seqK fun K8 h8 => ?_
    refine W_reg ?_
    simp [go_sem, ty3]
    repeat refine tk ?_
    refine h8 _ ?_
    clear h8 K8
    refine W_block ?_
    refine W_loopI (α := Nat × List GIns) (fun p => ({ env := [(0, true, .l (.ref 0 [] 1 0 (ws.length))), (4, true, .l (.ptr 2 0)), (5, true, .l (.ptr 4 0)), (6, true, .l (.t (.int .i64 (p.1))))], box := [(4, [.t (.int .i64 s), .ref 40 [] 5 0 p.2.length]), (2, [.t (.int .i64 0), .nil])], row := [(40, ⟨.own, 5, enc eIns p.2⟩), (0, ⟨.ro, 1, enc eI ws⟩)], nxt := 41, sav := [] } : St)) (fun p => p.1 ≤ 4 ∧ blk (ws.drop d) = p.2 ++ blk (ws.drop p.1) ∧ p.2.length ≤ p.1) (fun p => 4 - p.1) (d, []) ?_ ?_ ?_
    · exact (Sub.nilBox (k := 4) (j := 1) (nm := 40) (z := 5) (by rfl) (by rfl) (by rfl)).trans (Sub.of_tidy [0, 4, 5, 6] [40, 0] [4, 2] 41 (by decide) (by simp [go_sem, hrem]))
    · exact ⟨by omega, by simp, by simp⟩
    rintro p hinv
    obtain ⟨hi, hb, hl⟩ := hinv
    refine W_seqK fun K10 h10 => ?_
    refine W_seqK fun K11 h11 => ?_
    refine W_reg ?_
    simp [go_sem, ty3, ty4]
    repeat refine tk ?_
    refine h11 _ ?_
    clear h11 K11
    refine W_cond rfl (fun hb12 => ?_) fun hb12 => ?_
    · have hlt : p.1 < 4 := by simp at hb12; omega
      have hlw : p.1 < ws.length := by omega
      clear hb12
      refine W_skip ?_
      repeat refine tk ?_
      refine h10 _ ?_
      clear h10 K10
      refine W_seqK fun K13 h13 => ?_
      refine W_block ?_
      refine W_seqK fun K14 h14 => ?_
      refine W_reg ?_
      simp [go_sem, ty3, ty22, hlw]
      refine callA (fun hG => pc_spec_Decode ws[p.1]) (fun hG => by simp [go_sem]) rfl rfl ?_
      simp [go_sem, ty4, ty68, hlw]
      repeat refine tk ?_
      refine h14 _ ?_
      clear h14 K14
      refine W_seqK fun K15 h15 => ?_
      refine W_reg ?_
      simp [go_sem, ty68, ty72, ty74, hlw]
      repeat refine tk ?_
      refine h15 _ ?_
      clear h15 K15
      refine W_seqK fun K16 h16 => ?_
      refine W_reg ?_
      simp [go_sem, ty4, ty68, hlw]
      refine callA (fun hG => pc_spec_Ends (decode ws[p.1])) (fun hG => by simp [go_sem]) rfl rfl ?_
      simp [go_sem, hlw]
      repeat refine tk ?_
      refine h16 _ ?_
      clear h16 K16
      refine W_cond rfl (fun hb17 => ?_) fun hb17 => ?_
      · have he : ends (decode ws[p.1]) = true := by simpa [hlw] using hb17
        have q : blockOf ws s = ⟨s, p.2 ++ [decode ws[p.1]]⟩ := by unfold blockOf; rw [if_pos ⟨hc4, hc0, hc1⟩, ← hd, blk_end hb hlw he]
        refine W_seqK fun K18 h18 => ?_
        refine W_reg ?_
        simp [go_sem, ty74]
        repeat refine tk ?_
        refine h18 _ ?_
        clear h18 K18
        refine W_ret ?_
        simp [go_sem, ty74, q]
      · have he : ends (decode ws[p.1]) = false := by simpa [hlw] using hb17
        clear hb17
        refine W_skip ?_
        repeat refine tk ?_
        refine h13 _ ?_
        clear h13 K13
        refine W_reg ?_
        simp [go_sem, ty3]
        refine ⟨p.1 + 1, p.2 ++ [decode ws[p.1]], ?_, ?_, ?_⟩
        · exact (Sub.swp_row 50 40 rfl).trans (Sub.of_tidy [0, 4, 5, 6] [40, 0] [4, 2] 41 (by decide) (by simp [go_sem, wrap_succ (show p.1 < 9223372036854775807 by omega)]))
        · exact ⟨by simp; omega, blk_more hb hlw he, by simp; omega⟩
        · first | omega | (simp; omega)
    · have h4 : ws.length ≤ p.1 := by simp at hb12; omega
      clear hb12
      have q : blockOf ws s = ⟨s, p.2⟩ := by unfold blockOf; rw [if_pos ⟨hc4, hc0, hc1⟩, ← hd, blk_done hb h4]
      refine W_exit ?_
      simp [go_sem]
      repeat refine tk ?_
      refine h7 _ ?_
      clear h10 K10 h7 K7
      refine W_seqK fun K19 h19 => ?_
      refine W_reg ?_
      simp [go_sem, ty74]
      repeat refine tk ?_
      refine h19 _ ?_
      clear h19 K19
      refine W_ret ?_
      simp [go_sem, ty74, q]

set_option maxRecDepth 100000 in
set_option maxHeartbeats 4000000 in
theorem pc_impl_BlockOf (ws : List Int) (s : Int) (hx : ws.length ≤ 1048576) : PC Tryz.prog 47 [(false, [.sl 1 (enc eI ws)]), (false, [.int .i64 s])] [(true, eBlock (blockOf ws s))] := by
  refine PC_of (n := 45) Tryz.func47 rfl rfl rfl rfl (by simp) ?_
  refine W_seqK fun K1 h1 => ?_
  refine W_reg ?_
  simp [go_sem, ty74]
  repeat refine tk ?_
  refine h1 _ ?_
  clear h1 K1
  refine W_seqK fun K2 h2 => ?_
  refine W_seqK fun K3 h3 => ?_
  refine W_reg ?_
  simp [go_sem, ty3, ty4, ty22]
  refine callA (fun hG => pc_impl_isCell s) (fun hG => by simp [go_sem]) rfl rfl ?_
  simp [go_sem, ty4]
  repeat refine tk ?_
  refine h3 _ ?_
  clear h3 K3
  refine W_cond rfl (fun hb4 => ?_) fun hb4 => ?_
  · have q : blockOf ws s = ⟨0, []⟩ := if_neg (by simp [inR] at hb4; omega)
    clear hb4
    refine W_seqK fun K5 h5 => ?_
    refine W_reg ?_
    simp [go_sem, ty74, fw74]
    repeat refine tk ?_
    refine h5 _ ?_
    clear h5 K5
    refine W_ret ?_
    simp [go_sem, ty74, q]
  · have hc : ws.length = 4 ∧ 0 ≤ s ∧ s ≤ 23 := by simp [inR] at hb4; omega
    obtain ⟨hc4, hc0, hc1⟩ := hc
    clear hb4
    have hrem : s.tmod 4 = (((s % 4).toNat : Nat) : Int) := by rw [tmod_pos hc0]; omega
    obtain ⟨d, hd⟩ : ∃ d, d = (s % 4).toNat := ⟨_, rfl⟩
    have hd4 : d < 4 := by omega
    rw [← hd] at hrem
    refine W_skip ?_
    repeat refine tk ?_
    refine h2 _ ?_
    clear h2 K2
    refine W_seqK fun K6 h6 => ?_
    refine W_reg ?_
    simp [go_sem, ty3, ty74, fw74]
    repeat refine tk ?_
    refine h6 _ ?_
    clear h6 K6
    refine W_seqK fun K7 h7 => ?_
    refine W_seqK fun K8 h8 => ?_
    refine W_reg ?_
    simp [go_sem, ty3, ty22, hrem, hc4]
    repeat refine tk ?_
    refine h8 _ ?_
    clear h8 K8
    refine W_block ?_
    refine W_loopI (α := Nat × List GIns) (fun p => ({ env := [(4, true, .l (.ptr 2 0)), (5, true, .l (.ptr 4 0)), (24, true, .l (.ref 0 [] 1 d (4 - d))), (25, true, .l (.t (.int .i64 (((4 - d : Nat) : Int))))), (26, true, .l (.t (.int .i64 (((p.1 - d : Nat) : Int)))))], box := [(4, [.t (.int .i64 s), .ref 40 [] 5 0 p.2.length]), (2, [.t (.int .i64 0), .nil])], row := [(40, ⟨.own, 5, enc eIns p.2⟩), (0, ⟨.ro, 1, enc eI ws⟩)], nxt := 41, sav := [] } : St)) (fun p => (d ≤ p.1 ∧ p.1 ≤ 4) ∧ blk (ws.drop d) = p.2 ++ blk (ws.drop p.1) ∧ p.2.length ≤ p.1) (fun p => 4 - p.1) (d, []) ?_ ?_ ?_
    · exact (Sub.nilBox (k := 4) (j := 1) (nm := 40) (z := 5) (by rfl) (by rfl) (by rfl)).trans (Sub.of_tidy [4, 5, 24, 25, 26] [40, 0] [4, 2] 41 (by decide) (by simp [go_sem, hrem, hc4]))
    · exact ⟨by omega, by simp, by simp⟩
    rintro p hinv
    obtain ⟨⟨hi0, hi⟩, hb, hl⟩ := hinv
    refine W_seqK fun K10 h10 => ?_
    refine W_reg ?_
    simp [go_sem, ty3]
    repeat refine tk ?_
    refine h10 _ ?_
    clear h10 K10
    refine W_seqK fun K11 h11 => ?_
    refine W_cond rfl (fun hb12 => ?_) fun hb12 => ?_
    · have hlt : p.1 < 4 := by simp at hb12; omega
      have hlw : p.1 < ws.length := by omega
      have hdi : d + (p.1 - d) = p.1 := by omega
      have hlz : p.1 - d < 4 - d := by omega
      have hw1 : IntKind.wrap .i64 (((p.1 - d : Nat) : Int) + 1) = ((p.1 + 1 - d : Nat) : Int) := by rw [wrap_ok (by omega) (by omega)]; omega
      clear hb12
      refine W_skip ?_
      repeat refine tk ?_
      refine h11 _ ?_
      clear h11 K11
      refine W_seqK fun K13 h13 => ?_
      refine W_block ?_
      refine W_seqK fun K14 h14 => ?_
      refine W_reg ?_
      simp [go_sem, ty3, ty22, hlw, hdi, hlz]
      repeat refine tk ?_
      refine h14 _ ?_
      clear h14 K14
      refine W_seqK fun K15 h15 => ?_
      refine W_reg ?_
      simp [go_sem, ty3, hlw]
      refine callA (fun hG => pc_impl_Decode ws[p.1]) (fun hG => by simp [go_sem]) rfl rfl ?_
      simp [go_sem, ty4, ty68, hlw]
      repeat refine tk ?_
      refine h15 _ ?_
      clear h15 K15
      refine W_seqK fun K16 h16 => ?_
      refine W_reg ?_
      simp [go_sem, ty68, ty72, ty74, hlw]
      repeat refine tk ?_
      refine h16 _ ?_
      clear h16 K16
      refine W_seqK fun K17 h17 => ?_
      refine W_reg ?_
      simp [go_sem, ty4, ty68, hlw]
      refine callA (fun hG => pc_impl_Ends (decode ws[p.1])) (fun hG => by simp [go_sem]) rfl rfl ?_
      simp [go_sem, hlw]
      repeat refine tk ?_
      refine h17 _ ?_
      clear h17 K17
      refine W_cond rfl (fun hb18 => ?_) fun hb18 => ?_
      · have he : ends (decode ws[p.1]) = true := by simpa [hlw] using hb18
        have q : blockOf ws s = ⟨s, p.2 ++ [decode ws[p.1]]⟩ := by unfold blockOf; rw [if_pos ⟨hc4, hc0, hc1⟩, ← hd, blk_end hb hlw he]
        refine W_exit ?_
        simp [go_sem]
        repeat refine tk ?_
        refine h7 _ ?_
        clear h13 K13 h7 K7
        refine W_seqK fun K19 h19 => ?_
        refine W_reg ?_
        simp [go_sem, ty74]
        repeat refine tk ?_
        refine h19 _ ?_
        clear h19 K19
        refine W_ret ?_
        simp [go_sem, ty74, q]
      · have he : ends (decode ws[p.1]) = false := by simpa [hlw] using hb18
        clear hb18
        refine W_skip ?_
        repeat refine tk ?_
        refine h13 _ ?_
        clear h13 K13
        refine W_reg ?_
        simp [go_sem, ty3]
        refine ⟨p.1 + 1, p.2 ++ [decode ws[p.1]], ?_, ?_, ?_⟩
        · exact (Sub.swp_row 50 40 rfl).trans (Sub.of_tidy [4, 5, 24, 25, 26] [40, 0] [4, 2] 41 (by decide) (by simp [go_sem, hw1]))
        · exact ⟨by simp; omega, blk_more hb hlw he, by simp; omega⟩
        · first | omega | (simp; omega)
    · have h4 : ws.length ≤ p.1 := by simp at hb12; omega
      clear hb12
      have q : blockOf ws s = ⟨s, p.2⟩ := by unfold blockOf; rw [if_pos ⟨hc4, hc0, hc1⟩, ← hd, blk_done hb h4]
      refine W_exit ?_
      simp [go_sem]
      repeat refine tk ?_
      refine h7 _ ?_
      clear h11 K11 h7 K7
      refine W_seqK fun K20 h20 => ?_
      refine W_reg ?_
      simp [go_sem, ty74]
      repeat refine tk ?_
      refine h20 _ ?_
      clear h20 K20
      refine W_ret ?_
      simp [go_sem, ty74, q]

set_option maxRecDepth 100000 in
set_option maxHeartbeats 4000000 in
theorem pc_spec_CacheOk (list : List GBlock) (frames : List GFrame) (hls : ∀ a ∈ list, a.small) (hfs : ∀ a ∈ frames, a.small) (hx : list.length ≤ 1048576) (hy : frames.length ≤ 1048576) : PC Tryz.prog 77 [(false, [.sl 2 (enc eBlock list)]), (false, [.sl 3 (enc eFrame frames)])] [(false, [.bool (cacheOk list frames)])] := by
  refine PC_of (n := 54) Tryz.func77 rfl rfl rfl rfl (by simp) ?_
  refine W_seqK fun K1 h1 => ?_
  refine W_reg ?_
  simp [go_sem, ty4]
  repeat refine tk ?_
  refine h1 _ ?_
  clear h1 K1
  refine W_seqK fun K2 h2 => ?_
  refine W_seqK fun K3 h3 => ?_
  refine W_reg ?_
  simp [go_sem, ty3, ty4, ty37, ty40, ty65, ty74]
  repeat refine tk ?_
  refine h3 _ ?_
  clear h3 K3
  refine W_cond rfl (fun hb4 => ?_) fun hb4 => ?_
  · have q : cacheOk list frames = false := cacheOk_hd (by simp at hb4; omega)
    refine W_seqK fun K5 h5 => ?_
    refine W_reg ?_
    simp [go_sem, ty4]
    repeat refine tk ?_
    refine h5 _ ?_
    clear h5 K5
    refine W_ret ?_
    simp [go_sem, q]
  · obtain ⟨hl5, hf6⟩ : list.length ≤ 5 ∧ frames.length = 6 := by simp at hb4; omega
    clear hb4
    refine W_skip ?_
    repeat refine tk ?_
    refine h2 _ ?_
    clear h2 K2
    refine W_seqK fun K6 h6 => ?_
    refine W_seqK fun K7 h7 => ?_
    refine W_reg ?_
    simp [go_sem, ty3]
    repeat refine tk ?_
    refine h7 _ ?_
    clear h7 K7
    refine W_block ?_
    refine W_loopI (α := Nat) (fun i => ({ env := [(0, true, .l (.ref 0 [] 2 0 (list.length))), (1, true, .l (.ref 1 [] 3 0 (frames.length))), (5, true, .l (.t (.int .i64 (i))))], box := [], row := [(0, ⟨.ro, 2, enc eBlock list⟩), (1, ⟨.ro, 3, enc eFrame frames⟩)], nxt := 9, sav := [] } : St)) (fun i => i ≤ 6 ∧ ∀ j, (hj : j < frames.length) → j < i → frameOk frames[j] = true) (fun i => 6 - i) 0 ?_ ?_ ?_
    · exact Sub.of_neat [0, 1, 5] [0, 1] [] 9 (by decide) (by simp [go_sem])
    · simp
    rintro i hinv
    obtain ⟨hi, hall⟩ := hinv
    refine W_seqK fun K9 h9 => ?_
    refine W_seqK fun K10 h10 => ?_
    refine W_reg ?_
    simp [go_sem, ty3, ty4]
    repeat refine tk ?_
    refine h10 _ ?_
    clear h10 K10
    refine W_cond rfl (fun hb11 => ?_) fun hb11 => ?_
    · have hlt : i < 6 := by simp at hb11; omega
      have hlf : i < frames.length := by omega
      have hfl : frames[i].list.length ≤ 1048576 := by have := hfs _ (List.getElem_mem hlf); unfold GFrame.small at this; omega
      clear hb11
      refine W_skip ?_
      repeat refine tk ?_
      refine h9 _ ?_
      clear h9 K9
      refine W_seqK fun K12 h12 => ?_
      refine W_block ?_
      refine W_seqK fun K13 h13 => ?_
      refine W_reg ?_
      simp [go_sem, ty3, ty4, ty40, ty65, hlf]
      refine callA (fun hG => pc_spec_FrameOk frames[i] (by omega)) (fun hG => by simp [go_sem, hlf]) rfl rfl ?_
      simp [go_sem, ty4, hlf]
      repeat refine tk ?_
      refine h13 _ ?_
      clear h13 K13
      refine W_cond rfl (fun hb14 => ?_) fun hb14 => ?_
      · have q : cacheOk list frames = false := cacheOk_fr hlf (by simpa [hlf] using hb14)
        refine W_seqK fun K15 h15 => ?_
        refine W_reg ?_
        simp [go_sem, ty4]
        repeat refine tk ?_
        refine h15 _ ?_
        clear h15 K15
        refine W_ret ?_
        simp [go_sem, q]
      · have hok : frameOk frames[i] = true := by simpa [hlf] using hb14
        clear hb14
        refine W_skip ?_
        repeat refine tk ?_
        refine h12 _ ?_
        clear h12 K12
        refine W_reg ?_
        simp [go_sem, ty3]
        refine ⟨i + 1, ?_, ?_, ?_⟩
        · exact Sub.of_neat [0, 1, 5] [0, 1] [] 9 (by decide) (by simp [go_sem, wrap_succ (show i < 9223372036854775807 by omega)])
        · exact ⟨hlt, fun j hj hji => by rcases Nat.lt_succ_iff_lt_or_eq.1 hji with h | rfl; exact hall j hj h; exact hok⟩
        · omega
    · have q6 : i = 6 := by simp at hb11; omega
      have hfa : frames.all frameOk = true := all_of fun j hj => hall j hj (by omega)
      clear hb11
      refine W_exit ?_
      simp [go_sem]
      repeat refine tk ?_
      refine h6 _ ?_
      clear h9 K9 h6 K6
      refine W_seqK fun K16 h16 => ?_
      refine W_seqK fun K17 h17 => ?_
      refine W_reg ?_
      simp [go_sem, ty3]
      repeat refine tk ?_
      refine h17 _ ?_
      clear h17 K17
      refine W_block ?_
      refine W_loopI (α := Nat) (fun i => ({ env := [(0, true, .l (.ref 0 [] 2 0 (list.length))), (1, true, .l (.ref 1 [] 3 0 (frames.length))), (6, true, .l (.t (.int .i64 (i))))], box := [], row := [(0, ⟨.ro, 2, enc eBlock list⟩), (1, ⟨.ro, 3, enc eFrame frames⟩)], nxt := 9, sav := [] } : St)) (fun i => i ≤ list.length ∧ ∀ j, (hj : j < list.length) → j < i → bOk frames list[j] = true) (fun i => list.length - i) 0 ?_ ?_ ?_
      · exact Sub.of_neat [0, 1, 6] [0, 1] [] 9 (by decide) (by simp [go_sem])
      · simp
      rintro i hinv
      obtain ⟨hi, hall⟩ := hinv
      refine W_seqK fun K19 h19 => ?_
      refine W_seqK fun K20 h20 => ?_
      refine W_reg ?_
      simp [go_sem, ty3, ty4, ty37, ty74]
      repeat refine tk ?_
      refine h20 _ ?_
      clear h20 K20
      refine W_cond rfl (fun hb21 => ?_) fun hb21 => ?_
      · have hlt : i < list.length := by simpa using hb21
        have hbl : list[i].list.length ≤ 1048576 := by have := hls _ (List.getElem_mem hlt); unfold GBlock.small at this; omega
        clear hb21
        refine W_skip ?_
        repeat refine tk ?_
        refine h19 _ ?_
        clear h19 K19
        refine W_seqK fun K22 h22 => ?_
        refine W_block ?_
        refine W_seqK fun K23 h23 => ?_
        refine W_reg ?_
        simp [go_sem, ty3, ty37, ty74, hlt]
        repeat refine tk ?_
        refine h23 _ ?_
        clear h23 K23
        refine W_seqK fun K24 h24 => ?_
        rcases page_split list[i] hf6 with ⟨hq, hw, hpl⟩ | ⟨hq, pg, hpg, hw, hpl⟩
        · refine W_drawT true mixed (by decide +kernel) ?_
          simp [go_sem, ty4, ty74, hlt, hq, hw, hpl]
          refine callA (fun hG => pc_spec_BlockOk list[i] (by omega)) (fun hG => by simp [go_sem, hlt]) rfl rfl ?_
          simp [go_sem, ty3, ty4, ty22, ty40, ty65, ty74, hlt, hq, hw, hpl]
          first | refine callA (fun hG => pc_spec_BlockOf frames[pg].list list[i].start (by have := hfs _ (List.getElem_mem hpl); unfold GFrame.small at this; omega)) (fun hG => by simp [go_sem, hlt, hpl]) rfl rfl ?_ | refine callG_false (.agg [.t (.int .i64 0), .nil]) ?_
          simp [go_sem, ty4, ty74, hlt, hq, hw, hpl]
          first | refine callA (fun hG => pc_spec_l11Same list[i] (blockOf frames[pg].list list[i].start) (by omega)) (fun hG => by simp [go_sem, hlt, hpl]) rfl rfl ?_ | refine callG_false (.l (.t (.bool true))) ?_
          simp [go_sem, ty4, hlt, hq, hw, hpl]
          repeat refine tk ?_
          refine h24 _ ?_
          clear h24 K24
          refine W_cond rfl (fun hb25 => ?_) fun hb25 => ?_
          · have q : cacheOk list frames = false := cacheOk_bl hlt (by first | exact bOk_no hq | (rw [bOk_at hq hpg hpl]; simpa using hb25))
            refine W_seqK fun K26 h26 => ?_
            refine W_reg ?_
            simp [go_sem, ty4]
            repeat refine tk ?_
            refine h26 _ ?_
            clear h26 K26
            refine W_ret ?_
            simp [go_sem, q]
          · have hok : bOk frames list[i] = true := by first | (simp at hb25; done) | (rw [bOk_at hq hpg hpl]; simpa using hb25)
            clear hb25
            refine W_skip ?_
            repeat refine tk ?_
            refine h22 _ ?_
            clear h22 K22
            refine W_reg ?_
            simp [go_sem, ty3]
            refine ⟨i + 1, ?_, ?_, ?_⟩
            · exact Sub.of_neat [0, 1, 6] [0, 1] [] 9 (by decide) (by simp [go_sem, wrap_succ (show i < 9223372036854775807 by omega)])
            · exact ⟨hlt, fun j hj hji => by rcases Nat.lt_succ_iff_lt_or_eq.1 hji with h | rfl; exact hall j hj h; exact hok⟩
            · omega
        · refine W_drawT true mixed (by decide +kernel) ?_
          simp [go_sem, ty4, ty74, hlt, hq, hw, hpl]
          refine callA (fun hG => pc_spec_BlockOk list[i] (by omega)) (fun hG => by simp [go_sem, hlt]) rfl rfl ?_
          simp [go_sem, ty3, ty4, ty22, ty40, ty65, ty74, hlt, hq, hw, hpl]
          first | refine callA (fun hG => pc_spec_BlockOf frames[pg].list list[i].start (by have := hfs _ (List.getElem_mem hpl); unfold GFrame.small at this; omega)) (fun hG => by simp [go_sem, hlt, hpl]) rfl rfl ?_ | refine callG_false (.agg [.t (.int .i64 0), .nil]) ?_
          simp [go_sem, ty4, ty74, hlt, hq, hw, hpl]
          first | refine callA (fun hG => pc_spec_l11Same list[i] (blockOf frames[pg].list list[i].start) (by omega)) (fun hG => by simp [go_sem, hlt, hpl]) rfl rfl ?_ | refine callG_false (.l (.t (.bool true))) ?_
          simp [go_sem, ty4, hlt, hq, hw, hpl]
          repeat refine tk ?_
          refine h24 _ ?_
          clear h24 K24
          refine W_cond rfl (fun hb27 => ?_) fun hb27 => ?_
          · have q : cacheOk list frames = false := cacheOk_bl hlt (by first | exact bOk_no hq | (rw [bOk_at hq hpg hpl]; simpa using hb27))
            refine W_seqK fun K28 h28 => ?_
            refine W_reg ?_
            simp [go_sem, ty4]
            repeat refine tk ?_
            refine h28 _ ?_
            clear h28 K28
            refine W_ret ?_
            simp [go_sem, q]
          · have hok : bOk frames list[i] = true := by first | (simp at hb27; done) | (rw [bOk_at hq hpg hpl]; simpa using hb27)
            clear hb27
            refine W_skip ?_
            repeat refine tk ?_
            refine h22 _ ?_
            clear h22 K22
            refine W_reg ?_
            simp [go_sem, ty3]
            refine ⟨i + 1, ?_, ?_, ?_⟩
            · exact Sub.of_neat [0, 1, 6] [0, 1] [] 9 (by decide) (by simp [go_sem, wrap_succ (show i < 9223372036854775807 by omega)])
            · exact ⟨hlt, fun j hj hji => by rcases Nat.lt_succ_iff_lt_or_eq.1 hji with h | rfl; exact hall j hj h; exact hok⟩
            · omega
      · obtain rfl : i = list.length := by simp at hb21; omega
        have q : cacheOk list frames = true := cacheOk_good hl5 hf6 hfa fun j hj => hall j hj hj
        clear hb21
        refine W_exit ?_
        simp [go_sem]
        repeat refine tk ?_
        refine h16 _ ?_
        clear h19 K19 h16 K16
        refine W_seqK fun K29 h29 => ?_
        refine W_reg ?_
        simp [go_sem, ty4]
        repeat refine tk ?_
        refine h29 _ ?_
        clear h29 K29
        refine W_ret ?_
        simp [go_sem, q]

set_option maxRecDepth 100000 in
set_option maxHeartbeats 4000000 in
theorem pc_impl_CacheOk (list : List GBlock) (frames : List GFrame) (hls : ∀ a ∈ list, a.small) (hfs : ∀ a ∈ frames, a.small) (hx : list.length ≤ 1048576) (hy : frames.length ≤ 1048576) : PC Tryz.prog 103 [(false, [.sl 2 (enc eBlock list)]), (false, [.sl 3 (enc eFrame frames)])] [(false, [.bool (cacheOk list frames)])] := by
  refine PC_of (n := 53) Tryz.func103 rfl rfl rfl rfl (by simp) ?_
  refine W_seqK fun K1 h1 => ?_
  refine W_reg ?_
  simp [go_sem, ty4]
  repeat refine tk ?_
  refine h1 _ ?_
  clear h1 K1
  refine W_seqK fun K2 h2 => ?_
  refine W_seqK fun K3 h3 => ?_
  refine W_reg ?_
  simp [go_sem, ty3, ty4, ty37, ty40, ty65, ty74]
  refine callG_quiet (fun hG => q_ContainsFunc_Frame (pr := fun f => !(frameOk f)) (bs := []) (caps := []) rfl (by omega) trivial rfl (fun x hx => PC.toB (pc_impl_CacheOk_1 x (by have := hfs _ hx; unfold GFrame.small at this; omega)))) (by first | (simp; done) | (simp [inR_iff]; done) | (simp [inR_iff]; grind) | grind) ?_
  simp [go_sem, ty4]
  repeat refine tk ?_
  refine h3 _ ?_
  clear h3 K3
  refine W_cond rfl (fun hb4 => ?_) fun hb4 => ?_
  · have q : cacheOk list frames = false := cacheOk_not hb4
    clear hb4
    refine W_seqK fun K5 h5 => ?_
    refine W_reg ?_
    simp [go_sem, ty4]
    repeat refine tk ?_
    refine h5 _ ?_
    clear h5 K5
    refine W_ret ?_
    simp [go_sem, q]
  · have hb42 := hb4
    rw [Bool.or_eq_false_iff] at hb42
    have hfa : frames.all frameOk = true := all_any hb42.2
    obtain ⟨hl5, hf6⟩ : list.length ≤ 5 ∧ frames.length = 6 := by have q := hb42.1; simp at q; omega
    clear hb4 hb42
    refine W_skip ?_
    repeat refine tk ?_
    refine h2 _ ?_
    clear h2 K2
    refine W_seqK fun K6 h6 => ?_
    refine W_seqK fun K7 h7 => ?_
    refine W_reg ?_
    simp [go_sem, ty3, ty37, ty74]
    repeat refine tk ?_
    refine h7 _ ?_
    clear h7 K7
    refine W_block ?_
    refine W_loopI (α := Nat) (fun i => ({ env := [(1, true, .l (.ref 1 [] 3 0 (frames.length))), (20, true, .l (.ref 0 [] 2 0 (list.length))), (21, true, .l (.t (.int .i64 (list.length)))), (22, true, .l (.t (.int .i64 (i))))], box := [], row := [(0, ⟨.ro, 2, enc eBlock list⟩), (1, ⟨.ro, 3, enc eFrame frames⟩)], nxt := 9, sav := [] } : St)) (fun i => i ≤ list.length ∧ ∀ j, (hj : j < list.length) → j < i → bOk frames list[j] = true) (fun i => list.length - i) 0 ?_ ?_ ?_
    · exact Sub.of_neat [1, 20, 21, 22] [0, 1] [] 9 (by decide) (by simp [go_sem])
    · simp
    rintro i hinv
    obtain ⟨hi, hall⟩ := hinv
    refine W_seqK fun K9 h9 => ?_
    refine W_reg ?_
    simp [go_sem, ty3]
    repeat refine tk ?_
    refine h9 _ ?_
    clear h9 K9
    refine W_seqK fun K10 h10 => ?_
    refine W_cond rfl (fun hb11 => ?_) fun hb11 => ?_
    · have hlt : i < list.length := by simpa using hb11
      have hbl : list[i].list.length ≤ 1048576 := by have := hls _ (List.getElem_mem hlt); unfold GBlock.small at this; omega
      clear hb11
      refine W_skip ?_
      repeat refine tk ?_
      refine h10 _ ?_
      clear h10 K10
      refine W_seqK fun K12 h12 => ?_
      refine W_block ?_
      refine W_seqK fun K13 h13 => ?_
      refine W_reg ?_
      simp [go_sem, ty37, ty74, hlt]
      repeat refine tk ?_
      refine h13 _ ?_
      clear h13 K13
      refine W_seqK fun K14 h14 => ?_
      refine W_seqK fun K15 h15 => ?_
      refine W_reg ?_
      simp [go_sem, ty4, ty74]
      refine callA (fun hG => pc_impl_BlockOk list[i] (by omega)) (fun hG => by simp [go_sem, hlt]) rfl rfl ?_
      simp [go_sem, ty4]
      repeat refine tk ?_
      refine h15 _ ?_
      clear h15 K15
      refine W_cond rfl (fun hb16 => ?_) fun hb16 => ?_
      · have hq : blockOk list[i] = false := by simpa [hlt] using hb16
        have q : cacheOk list frames = false := cacheOk_bl hlt (bOk_no hq)
        refine W_seqK fun K17 h17 => ?_
        refine W_reg ?_
        simp [go_sem, ty4]
        repeat refine tk ?_
        refine h17 _ ?_
        clear h17 K17
        refine W_ret ?_
        simp [go_sem, q]
      · have hq : blockOk list[i] = true := by simpa [hlt] using hb16
        obtain ⟨pg, hpg, hw, hpl⟩ := page_of hq
        rw [← hf6] at hpl
        have hfl : frames[pg].list.length ≤ 1048576 := (by have := hfs _ (List.getElem_mem hpl); unfold GFrame.small at this; omega)
        have hbo := blockOf_len (s := list[i].start) hfl
        clear hb16
        refine W_skip ?_
        repeat refine tk ?_
        refine h14 _ ?_
        clear h14 K14
        refine W_seqK fun K18 h18 => ?_
        refine W_drawS true (.op 0 (.op 1 (.op 2 (.op 3 (.op 4 (.op 5 (.op 6 (.op 7 (.op 8 (.fork 9 (.op 10 (.op 11 .nil)) 10 (.op 9 (.op 11 .nil)))))))))))) mixed (by decide +kernel) rfl ?_
        simp (config := {maxSteps := 10000000}) [go_sem, ty3, ty22, ty40, ty65, ty74, hlt, hw, hpl]
        refine ⟨?_, ?_⟩
        · try simp (config := {maxSteps := 10000000}) [go_sem, ty3, ty22, ty74, hlt, hw, hpl]
          first | refine callA (fun hG => pc_impl_BlockOf frames[pg].list list[i].start (by have := hfs _ (List.getElem_mem hpl); unfold GFrame.small at this; omega)) (fun hG => by simp [go_sem, hlt, hpl]) rfl rfl ?_
          try simp (config := {maxSteps := 10000000}) [go_sem, ty74, hlt, hw, hpl]
          repeat refine tk ?_
          refine h18 _ ?_
          clear h18 K18
          refine W_seqK fun K19 h19 => ?_
          refine W_reg ?_
          simp [go_sem, ty3, ty4, ty68, ty72, ty74]
          refine callA (fun hG => pc_slices_Equal_impl_Ins_impl_Ins (blockOf frames[pg].list list[i].start).list list[i].list (by omega)) (fun hG => by simp [go_sem, hlt, hpl]) rfl rfl ?_
          simp [go_sem, ty4]
          repeat refine tk ?_
          refine h19 _ ?_
          clear h19 K19
          refine W_cond rfl (fun hb20 => ?_) fun hb20 => ?_
          · have q : cacheOk list frames = false := cacheOk_bl hlt (by rw [bOk_at hq hpg hpl, decide_eq_false_iff_not]; intro e; rw [← e] at hb20; simp at hb20)
            refine W_seqK fun K21 h21 => ?_
            refine W_reg ?_
            simp [go_sem, ty4]
            repeat refine tk ?_
            refine h21 _ ?_
            clear h21 K21
            refine W_ret ?_
            simp [go_sem, q]
          · have hok : bOk frames list[i] = true := by rw [bOk_at hq hpg hpl, decide_eq_true_iff]; simp at hb20; exact (GBlock.ext hb20.1 hb20.2).symm
            clear hb20
            refine W_skip ?_
            repeat refine tk ?_
            refine h12 _ ?_
            clear h12 K12
            refine W_reg ?_
            simp [go_sem, ty3]
            refine ⟨i + 1, ?_, ?_, ?_⟩
            · exact Sub.of_neat [1, 20, 21, 22] [0, 1] [] 9 (by decide) (by simp [go_sem, wrap_succ (show i < 9223372036854775807 by omega)])
            · exact ⟨hlt, fun j hj hji => by rcases Nat.lt_succ_iff_lt_or_eq.1 hji with h | rfl; exact hall j hj h; exact hok⟩
            · omega
        · try simp (config := {maxSteps := 10000000}) [go_sem, ty3, ty22, ty74, hlt, hw, hpl]
          first | refine callA (fun hG => pc_impl_BlockOf frames[pg].list list[i].start (by have := hfs _ (List.getElem_mem hpl); unfold GFrame.small at this; omega)) (fun hG => by simp [go_sem, hlt, hpl]) rfl rfl ?_
          try simp (config := {maxSteps := 10000000}) [go_sem, ty74, hlt, hw, hpl]
          repeat refine tk ?_
          refine h18 _ ?_
          clear h18 K18
          refine W_seqK fun K22 h22 => ?_
          refine W_reg ?_
          simp [go_sem, ty3, ty4, ty68, ty72, ty74]
          refine callA (fun hG => pc_slices_Equal_impl_Ins_impl_Ins (blockOf frames[pg].list list[i].start).list list[i].list (by omega)) (fun hG => by simp [go_sem, hlt, hpl]) rfl rfl ?_
          simp [go_sem, ty4]
          repeat refine tk ?_
          refine h22 _ ?_
          clear h22 K22
          refine W_cond rfl (fun hb23 => ?_) fun hb23 => ?_
          · have q : cacheOk list frames = false := cacheOk_bl hlt (by rw [bOk_at hq hpg hpl, decide_eq_false_iff_not]; intro e; rw [← e] at hb23; simp at hb23)
            refine W_seqK fun K24 h24 => ?_
            refine W_reg ?_
            simp [go_sem, ty4]
            repeat refine tk ?_
            refine h24 _ ?_
            clear h24 K24
            refine W_ret ?_
            simp [go_sem, q]
          · have hok : bOk frames list[i] = true := by rw [bOk_at hq hpg hpl, decide_eq_true_iff]; simp at hb23; exact (GBlock.ext hb23.1 hb23.2).symm
            clear hb23
            refine W_skip ?_
            repeat refine tk ?_
            refine h12 _ ?_
            clear h12 K12
            refine W_reg ?_
            simp [go_sem, ty3]
            refine ⟨i + 1, ?_, ?_, ?_⟩
            · exact Sub.of_neat [1, 20, 21, 22] [0, 1] [] 9 (by decide) (by simp [go_sem, wrap_succ (show i < 9223372036854775807 by omega)])
            · exact ⟨hlt, fun j hj hji => by rcases Nat.lt_succ_iff_lt_or_eq.1 hji with h | rfl; exact hall j hj h; exact hok⟩
            · omega
    · obtain rfl : i = list.length := by simp at hb11; omega
      have q : cacheOk list frames = true := cacheOk_good hl5 hf6 hfa fun j hj => hall j hj hj
      clear hb11
      refine W_exit ?_
      simp [go_sem]
      repeat refine tk ?_
      refine h6 _ ?_
      clear h10 K10 h6 K6
      refine W_seqK fun K25 h25 => ?_
      refine W_reg ?_
      simp [go_sem, ty4]
      repeat refine tk ?_
      refine h25 _ ?_
      clear h25 K25
      refine W_ret ?_
      simp [go_sem, q]
end Go.Tw
