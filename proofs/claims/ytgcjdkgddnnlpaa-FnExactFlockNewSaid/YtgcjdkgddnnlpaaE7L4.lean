/- Walks of functions: laws.eqIns, laws.eqInsS, laws.eqBlock, laws.eqBlockS, laws.eqHart, laws.eqCore, laws.eqCoreS, laws.eqFlock -/
import Derived.Test.YtgcjdkgddnnlpaaE7L3
set_option linter.unusedSimpArgs false
set_option linter.unusedVariables false
set_option linter.unnecessarySimpa false
namespace Go.Tw
open Go.Proofs

set_option maxRecDepth 100000 in
set_option maxHeartbeats 4000000 in
theorem pc_laws_eqIns (a : GIns) (b : GIns)  : PC Try.prog 198 [(true, eIns a), (true, eIns b)] [(false, [.bool (decide (a = b))])] := by
  refine PC_of (n := 30) Try.func198 rfl rfl rfl rfl (by simp) ?_
  refine W_seqK fun K1 h1 => ?_
  refine W_reg ?_
  simp [go_sem, ty4, ty68]
  repeat refine ⟨by first | omega | grind, ?_⟩
  refine h1 _ ?_
  clear h1 K1
  refine W_seqK fun K2 h2 => ?_
  refine W_seqK fun K3 h3 => ?_
  refine W_reg ?_
  simp [go_sem, ty3, ty4, ty68]
  repeat refine ⟨by first | omega | grind, ?_⟩
  refine h3 _ ?_
  clear h3 K3
  refine W_cond rfl (fun hb4 => ?_) fun hb4 => ?_
  · try simp at hb4
    refine W_seqK fun K5 h5 => ?_
    refine W_reg ?_
    simp [go_sem, ty4]
    repeat refine ⟨by first | omega | grind, ?_⟩
    refine h5 _ ?_
    clear h5 K5
    refine W_ret ?_
    simp [go_sem, GIns.ext_iff, hb4]
  · try simp at hb4
    refine W_skip ?_
    repeat refine ⟨by first | omega | grind, ?_⟩
    refine h2 _ ?_
    clear h2 K2
    refine W_seqK fun K6 h6 => ?_
    refine W_seqK fun K7 h7 => ?_
    refine W_reg ?_
    simp [go_sem, ty3, ty4, ty68]
    repeat refine ⟨by first | omega | grind, ?_⟩
    refine h7 _ ?_
    clear h7 K7
    refine W_cond rfl (fun hb8 => ?_) fun hb8 => ?_
    · try simp at hb8
      refine W_seqK fun K9 h9 => ?_
      refine W_reg ?_
      simp [go_sem, ty4]
      repeat refine ⟨by first | omega | grind, ?_⟩
      refine h9 _ ?_
      clear h9 K9
      refine W_ret ?_
      simp [go_sem, GIns.ext_iff, hb4, hb8]
    · try simp at hb8
      refine W_skip ?_
      repeat refine ⟨by first | omega | grind, ?_⟩
      refine h6 _ ?_
      clear h6 K6
      refine W_seqK fun K10 h10 => ?_
      refine W_seqK fun K11 h11 => ?_
      refine W_reg ?_
      simp [go_sem, ty3, ty4, ty68]
      repeat refine ⟨by first | omega | grind, ?_⟩
      refine h11 _ ?_
      clear h11 K11
      refine W_cond rfl (fun hb12 => ?_) fun hb12 => ?_
      · try simp at hb12
        refine W_seqK fun K13 h13 => ?_
        refine W_reg ?_
        simp [go_sem, ty4]
        repeat refine ⟨by first | omega | grind, ?_⟩
        refine h13 _ ?_
        clear h13 K13
        refine W_ret ?_
        simp [go_sem, GIns.ext_iff, hb4, hb8, hb12]
      · try simp at hb12
        refine W_skip ?_
        repeat refine ⟨by first | omega | grind, ?_⟩
        refine h10 _ ?_
        clear h10 K10
        refine W_seqK fun K14 h14 => ?_
        refine W_seqK fun K15 h15 => ?_
        refine W_reg ?_
        simp [go_sem, ty3, ty4, ty68]
        repeat refine ⟨by first | omega | grind, ?_⟩
        refine h15 _ ?_
        clear h15 K15
        refine W_cond rfl (fun hb16 => ?_) fun hb16 => ?_
        · try simp at hb16
          refine W_seqK fun K17 h17 => ?_
          refine W_reg ?_
          simp [go_sem, ty4]
          repeat refine ⟨by first | omega | grind, ?_⟩
          refine h17 _ ?_
          clear h17 K17
          refine W_ret ?_
          simp [go_sem, GIns.ext_iff, hb4, hb8, hb12, hb16]
        · try simp at hb16
          refine W_skip ?_
          repeat refine ⟨by first | omega | grind, ?_⟩
          refine h14 _ ?_
          clear h14 K14
          refine W_seqK fun K18 h18 => ?_
          refine W_seqK fun K19 h19 => ?_
          refine W_reg ?_
          simp [go_sem, ty3, ty4, ty68]
          repeat refine ⟨by first | omega | grind, ?_⟩
          refine h19 _ ?_
          clear h19 K19
          refine W_cond rfl (fun hb20 => ?_) fun hb20 => ?_
          · try simp at hb20
            refine W_seqK fun K21 h21 => ?_
            refine W_reg ?_
            simp [go_sem, ty4]
            repeat refine ⟨by first | omega | grind, ?_⟩
            refine h21 _ ?_
            clear h21 K21
            refine W_ret ?_
            simp [go_sem, GIns.ext_iff, hb4, hb8, hb12, hb16, hb20]
          · try simp at hb20
            refine W_skip ?_
            repeat refine ⟨by first | omega | grind, ?_⟩
            refine h18 _ ?_
            clear h18 K18
            refine W_seqK fun K22 h22 => ?_
            refine W_reg ?_
            simp [go_sem, ty4]
            repeat refine ⟨by first | omega | grind, ?_⟩
            refine h22 _ ?_
            clear h22 K22
            refine W_ret ?_
            simp [go_sem, GIns.ext_iff, hb4, hb8, hb12, hb16, hb20]

set_option maxRecDepth 100000 in
set_option maxHeartbeats 4000000 in
theorem pc_laws_eqInsS (xs : List GIns) (ys : List GIns) (hx : xs.length ≤ 17592186043904) : PC Try.prog 193 [(false, [.sl 5 (enc eIns xs)]), (false, [.sl 5 (enc eIns ys)])] [(false, [.bool (decide (xs = ys))])] := by
  refine PC_of (n := 27) Try.func193 rfl rfl rfl rfl (by simp) ?_
  refine W_seqK fun K1 h1 => ?_
  refine W_reg ?_
  simp [go_sem, ty4]
  repeat refine ⟨by first | omega | grind, ?_⟩
  refine h1 _ ?_
  clear h1 K1
  refine W_seqK fun K2 h2 => ?_
  refine W_seqK fun K3 h3 => ?_
  refine W_reg ?_
  simp [go_sem, ty3, ty4, ty68, ty179]
  repeat refine ⟨by first | omega | grind, ?_⟩
  refine h3 _ ?_
  clear h3 K3
  refine W_cond rfl (fun hb4 => ?_) fun hb4 => ?_
  · have hne : xs ≠ ys := ne_of_len (by simp at hb4; omega)
    refine W_seqK fun K5 h5 => ?_
    refine W_reg ?_
    simp [go_sem, ty4]
    repeat refine ⟨by first | omega | grind, ?_⟩
    refine h5 _ ?_
    clear h5 K5
    refine W_ret ?_
    simp [go_sem, hne]
  · have hl : xs.length = ys.length := by simp at hb4; omega
    clear hb4
    refine W_skip ?_
    repeat refine ⟨by first | omega | grind, ?_⟩
    refine h2 _ ?_
    clear h2 K2
    refine W_seqK fun K6 h6 => ?_
    refine W_seqK fun K7 h7 => ?_
    refine W_reg ?_
    simp [go_sem, ty3]
    repeat refine ⟨by first | omega | grind, ?_⟩
    refine h7 _ ?_
    clear h7 K7
    refine W_block ?_
    refine W_loopI (α := Nat) (fun i => ({ env := [(0, true, .l (.ref 0 [] 5 0 (xs.length))), (1, true, .l (.ref 1 [] 5 0 (ys.length))), (5, true, .l (.t (.int .i64 (i))))], box := [], row := [(0, ⟨.ro, 5, enc eIns xs⟩), (1, ⟨.ro, 5, enc eIns ys⟩)], nxt := 2, sav := [] } : St)) (fun i => i ≤ xs.length ∧ xs.take i = ys.take i) (fun i => xs.length - i) 0 ?_ ?_ ?_
    · exact Sub.of_neat [0, 1, 5] [0, 1] [] 2 (by decide) (by simp [go_sem])
    · simp
    rintro i hinv
    obtain ⟨hi, htk⟩ := hinv
    refine W_seqK fun K9 h9 => ?_
    refine W_seqK fun K10 h10 => ?_
    refine W_reg ?_
    simp [go_sem, ty3, ty4, ty68, ty179]
    repeat refine ⟨by first | omega | grind, ?_⟩
    refine h10 _ ?_
    clear h10 K10
    refine W_cond rfl (fun hb11 => ?_) fun hb11 => ?_
    · have hlt : i < xs.length := by simpa using hb11
      have hlt2 : i < ys.length := hl ▸ hlt
      clear hb11
      refine W_skip ?_
      repeat refine ⟨by first | omega | grind, ?_⟩
      refine h9 _ ?_
      clear h9 K9
      refine W_seqK fun K12 h12 => ?_
      refine W_block ?_
      refine W_seqK fun K13 h13 => ?_
      refine W_drawT true mixed (by decide +kernel) ?_
      simp [go_sem, ty3, ty4, ty68, ty179, hlt, hlt2]
      refine callG_pc (fun hG => pc_laws_eqIns xs[i] ys[i]) (by first | (simp; done) | (simp [inR_iff]; done) | (simp [inR_iff]; grind) | grind) (fun hG => by simp [go_sem]) rfl rfl (by first | exact Or.inl rfl | exact Or.inr rfl) ?_
      simp [go_sem, ty4, hlt, hlt2]
      repeat refine ⟨by first | omega | grind, ?_⟩
      refine h13 _ ?_
      clear h13 K13
      refine W_cond rfl (fun hb14 => ?_) fun hb14 => ?_
      · have hne : xs ≠ ys := ne_of_get hlt hlt2 (by simpa [hlt, hlt2] using hb14)
        refine W_seqK fun K15 h15 => ?_
        refine W_reg ?_
        simp [go_sem, ty4]
        repeat refine ⟨by first | omega | grind, ?_⟩
        refine h15 _ ?_
        clear h15 K15
        refine W_ret ?_
        simp [go_sem, hne]
      · have he : xs[i] = ys[i] := by simpa [hlt, hlt2] using hb14
        clear hb14
        refine W_skip ?_
        repeat refine ⟨by first | omega | grind, ?_⟩
        refine h12 _ ?_
        clear h12 K12
        refine W_reg ?_
        simp [go_sem, ty3]
        refine ⟨i + 1, ?_, ?_, ?_⟩
        · exact Sub.of_neat [0, 1, 5] [0, 1] [] 2 (by decide) (by simp [go_sem, wrap_succ (show i < 9223372036854775807 by omega)])
        · exact ⟨hlt, take_succ_eq htk hlt hlt2 he⟩
        · omega
    · obtain rfl : i = xs.length := by simp at hb11; omega
      have hxy : xs = ys := eq_of_take hl htk
      clear hb11
      refine W_exit ?_
      simp [go_sem]
      repeat refine ⟨by first | omega | grind, ?_⟩
      refine h6 _ ?_
      clear h9 K9 h6 K6
      refine W_seqK fun K16 h16 => ?_
      refine W_reg ?_
      simp [go_sem, ty4]
      repeat refine ⟨by first | omega | grind, ?_⟩
      refine h16 _ ?_
      clear h16 K16
      refine W_ret ?_
      simp [go_sem, hxy]

set_option maxRecDepth 100000 in
set_option maxHeartbeats 4000000 in
theorem pc_laws_eqBlock (x : GBlock) (y : GBlock) (hq : x.small) : PC Try.prog 180 [(true, eBlock x), (true, eBlock y)] [(false, [.bool (decide (x = y))])] := by
  unfold GBlock.small at hq
  refine PC_of (n := 16) Try.func180 rfl rfl rfl rfl (by simp) ?_
  refine W_seqK fun K1 h1 => ?_
  refine W_reg ?_
  simp [go_sem, ty4, ty198]
  repeat refine ⟨by first | omega | grind, ?_⟩
  refine h1 _ ?_
  clear h1 K1
  refine W_seqK fun K2 h2 => ?_
  refine W_seqK fun K3 h3 => ?_
  refine W_reg ?_
  simp [go_sem, ty3, ty4, ty198]
  repeat refine ⟨by first | omega | grind, ?_⟩
  refine h3 _ ?_
  clear h3 K3
  refine W_cond rfl (fun hb4 => ?_) fun hb4 => ?_
  · try simp at hb4
    refine W_seqK fun K5 h5 => ?_
    refine W_reg ?_
    simp [go_sem, ty4]
    repeat refine ⟨by first | omega | grind, ?_⟩
    refine h5 _ ?_
    clear h5 K5
    refine W_ret ?_
    simp [go_sem, GBlock.ext_iff, hb4]
  · try simp at hb4
    refine W_skip ?_
    repeat refine ⟨by first | omega | grind, ?_⟩
    refine h2 _ ?_
    clear h2 K2
    refine W_seqK fun K6 h6 => ?_
    refine W_seqK fun K7 h7 => ?_
    refine W_reg ?_
    simp [go_sem, ty4, ty68, ty179, ty198]
    refine callG_pc (fun hG => pc_laws_eqInsS x.list y.list (by first | omega | assumption | (simp only [a0]; omega) | (simp only [a0, a1]; omega) | (simp only [a0, a1, a2]; omega) | (simp_all; done))) (by first | (simp; done) | (simp [inR_iff]; done) | (simp [inR_iff]; grind) | grind) (fun hG => by simp [go_sem]) rfl rfl (by first | exact Or.inl rfl | exact Or.inr rfl) ?_
    simp [go_sem, ty4]
    repeat refine ⟨by first | omega | grind, ?_⟩
    refine h7 _ ?_
    clear h7 K7
    refine W_cond rfl (fun hb8 => ?_) fun hb8 => ?_
    · try simp at hb8
      refine W_seqK fun K9 h9 => ?_
      refine W_reg ?_
      simp [go_sem, ty4]
      repeat refine ⟨by first | omega | grind, ?_⟩
      refine h9 _ ?_
      clear h9 K9
      refine W_ret ?_
      simp [go_sem, GBlock.ext_iff, hb4, hb8]
    · try simp at hb8
      refine W_skip ?_
      repeat refine ⟨by first | omega | grind, ?_⟩
      refine h6 _ ?_
      clear h6 K6
      refine W_seqK fun K10 h10 => ?_
      refine W_reg ?_
      simp [go_sem, ty4]
      repeat refine ⟨by first | omega | grind, ?_⟩
      refine h10 _ ?_
      clear h10 K10
      refine W_ret ?_
      simp [go_sem, GBlock.ext_iff, hb4, hb8]

set_option maxRecDepth 100000 in
set_option maxHeartbeats 4000000 in
theorem pc_laws_eqBlockS (xs : List GBlock) (ys : List GBlock) (hx : xs.length ≤ 17592186043904) (hq : ∀ a ∈ xs, a.small) : PC Try.prog 159 [(false, [.sl 2 (enc eBlock xs)]), (false, [.sl 2 (enc eBlock ys)])] [(false, [.bool (decide (xs = ys))])] := by
  refine PC_of (n := 27) Try.func159 rfl rfl rfl rfl (by simp) ?_
  refine W_seqK fun K1 h1 => ?_
  refine W_reg ?_
  simp [go_sem, ty4]
  repeat refine ⟨by first | omega | grind, ?_⟩
  refine h1 _ ?_
  clear h1 K1
  refine W_seqK fun K2 h2 => ?_
  refine W_seqK fun K3 h3 => ?_
  refine W_reg ?_
  simp [go_sem, ty3, ty4, ty105, ty198]
  repeat refine ⟨by first | omega | grind, ?_⟩
  refine h3 _ ?_
  clear h3 K3
  refine W_cond rfl (fun hb4 => ?_) fun hb4 => ?_
  · have hne : xs ≠ ys := ne_of_len (by simp at hb4; omega)
    refine W_seqK fun K5 h5 => ?_
    refine W_reg ?_
    simp [go_sem, ty4]
    repeat refine ⟨by first | omega | grind, ?_⟩
    refine h5 _ ?_
    clear h5 K5
    refine W_ret ?_
    simp [go_sem, hne]
  · have hl : xs.length = ys.length := by simp at hb4; omega
    clear hb4
    refine W_skip ?_
    repeat refine ⟨by first | omega | grind, ?_⟩
    refine h2 _ ?_
    clear h2 K2
    refine W_seqK fun K6 h6 => ?_
    refine W_seqK fun K7 h7 => ?_
    refine W_reg ?_
    simp [go_sem, ty3]
    repeat refine ⟨by first | omega | grind, ?_⟩
    refine h7 _ ?_
    clear h7 K7
    refine W_block ?_
    refine W_loopI (α := Nat) (fun i => ({ env := [(0, true, .l (.ref 0 [] 2 0 (xs.length))), (1, true, .l (.ref 1 [] 2 0 (ys.length))), (5, true, .l (.t (.int .i64 (i))))], box := [], row := [(0, ⟨.ro, 2, enc eBlock xs⟩), (1, ⟨.ro, 2, enc eBlock ys⟩)], nxt := 2, sav := [] } : St)) (fun i => i ≤ xs.length ∧ xs.take i = ys.take i) (fun i => xs.length - i) 0 ?_ ?_ ?_
    · exact Sub.of_neat [0, 1, 5] [0, 1] [] 2 (by decide) (by simp [go_sem])
    · simp
    rintro i hinv
    obtain ⟨hi, htk⟩ := hinv
    refine W_seqK fun K9 h9 => ?_
    refine W_seqK fun K10 h10 => ?_
    refine W_reg ?_
    simp [go_sem, ty3, ty4, ty105, ty198]
    repeat refine ⟨by first | omega | grind, ?_⟩
    refine h10 _ ?_
    clear h10 K10
    refine W_cond rfl (fun hb11 => ?_) fun hb11 => ?_
    · have hlt : i < xs.length := by simpa using hb11
      have hlt2 : i < ys.length := hl ▸ hlt
      clear hb11
      refine W_skip ?_
      repeat refine ⟨by first | omega | grind, ?_⟩
      refine h9 _ ?_
      clear h9 K9
      refine W_seqK fun K12 h12 => ?_
      refine W_block ?_
      refine W_seqK fun K13 h13 => ?_
      refine W_drawT true mixed (by decide +kernel) ?_
      simp [go_sem, ty3, ty4, ty105, ty198, hlt, hlt2]
      refine callG_pc (fun hG => pc_laws_eqBlock xs[i] ys[i] (hq _ (List.getElem_mem hlt))) (by first | (simp; done) | (simp [inR_iff]; done) | (simp [inR_iff]; grind) | grind) (fun hG => by simp [go_sem, hlt, hlt2]) rfl rfl (by first | exact Or.inl rfl | exact Or.inr rfl) ?_
      simp [go_sem, ty4, hlt, hlt2]
      repeat refine ⟨by first | omega | grind, ?_⟩
      refine h13 _ ?_
      clear h13 K13
      refine W_cond rfl (fun hb14 => ?_) fun hb14 => ?_
      · have hne : xs ≠ ys := ne_of_get hlt hlt2 (by simpa [hlt, hlt2] using hb14)
        refine W_seqK fun K15 h15 => ?_
        refine W_reg ?_
        simp [go_sem, ty4]
        repeat refine ⟨by first | omega | grind, ?_⟩
        refine h15 _ ?_
        clear h15 K15
        refine W_ret ?_
        simp [go_sem, hne]
      · have he : xs[i] = ys[i] := by simpa [hlt, hlt2] using hb14
        clear hb14
        refine W_skip ?_
        repeat refine ⟨by first | omega | grind, ?_⟩
        refine h12 _ ?_
        clear h12 K12
        refine W_reg ?_
        simp [go_sem, ty3]
        refine ⟨i + 1, ?_, ?_, ?_⟩
        · exact Sub.of_neat [0, 1, 5] [0, 1] [] 2 (by decide) (by simp [go_sem, wrap_succ (show i < 9223372036854775807 by omega)])
        · exact ⟨hlt, take_succ_eq htk hlt hlt2 he⟩
        · omega
    · obtain rfl : i = xs.length := by simp at hb11; omega
      have hxy : xs = ys := eq_of_take hl htk
      clear hb11
      refine W_exit ?_
      simp [go_sem]
      repeat refine ⟨by first | omega | grind, ?_⟩
      refine h6 _ ?_
      clear h9 K9 h6 K6
      refine W_seqK fun K16 h16 => ?_
      refine W_reg ?_
      simp [go_sem, ty4]
      repeat refine ⟨by first | omega | grind, ?_⟩
      refine h16 _ ?_
      clear h16 K16
      refine W_ret ?_
      simp [go_sem, hxy]

set_option maxRecDepth 100000 in
set_option maxHeartbeats 4000000 in
theorem pc_laws_eqHart (a : GHart) (b : GHart) (hx : a.regs.length ≤ 17592186043904) : PC Try.prog 36 [(true, eHart a), (true, eHart b)] [(false, [.bool (decide (a = b))])] := by
  refine PC_of (n := 21) Try.func36 rfl rfl rfl rfl (by simp) ?_
  refine W_seqK fun K1 h1 => ?_
  refine W_reg ?_
  simp [go_sem, ty4, ty61]
  repeat refine ⟨by first | omega | grind, ?_⟩
  refine h1 _ ?_
  clear h1 K1
  refine W_seqK fun K2 h2 => ?_
  refine W_seqK fun K3 h3 => ?_
  refine W_reg ?_
  simp [go_sem, ty3, ty4, ty22, ty61]
  refine callG_pc (fun hG => pc_laws_eqIntS a.regs b.regs (by omega)) (by first | (simp; done) | (simp [inR_iff]; done) | (simp [inR_iff]; grind) | grind) (fun hG => by simp [go_sem]) rfl rfl (by first | exact Or.inl rfl | exact Or.inr rfl) ?_
  simp [go_sem, ty4]
  repeat refine ⟨by first | omega | grind, ?_⟩
  refine h3 _ ?_
  clear h3 K3
  refine W_cond rfl (fun hb4 => ?_) fun hb4 => ?_
  · simp at hb4
    refine W_seqK fun K5 h5 => ?_
    refine W_reg ?_
    simp [go_sem, ty4]
    repeat refine ⟨by first | omega | grind, ?_⟩
    refine h5 _ ?_
    clear h5 K5
    refine W_ret ?_
    simp [go_sem, GHart.ext_iff, hb4]
  · simp at hb4
    refine W_skip ?_
    repeat refine ⟨by first | omega | grind, ?_⟩
    refine h2 _ ?_
    clear h2 K2
    refine W_seqK fun K6 h6 => ?_
    refine W_seqK fun K7 h7 => ?_
    refine W_reg ?_
    simp [go_sem, ty3, ty4, ty61]
    repeat refine ⟨by first | omega | grind, ?_⟩
    refine h7 _ ?_
    clear h7 K7
    refine W_cond rfl (fun hb8 => ?_) fun hb8 => ?_
    · simp at hb8
      refine W_seqK fun K9 h9 => ?_
      refine W_reg ?_
      simp [go_sem, ty4]
      repeat refine ⟨by first | omega | grind, ?_⟩
      refine h9 _ ?_
      clear h9 K9
      refine W_ret ?_
      simp [go_sem, GHart.ext_iff, hb4, hb8]
    · simp at hb8
      refine W_skip ?_
      repeat refine ⟨by first | omega | grind, ?_⟩
      refine h6 _ ?_
      clear h6 K6
      refine W_seqK fun K10 h10 => ?_
      refine W_seqK fun K11 h11 => ?_
      refine W_reg ?_
      simp [go_sem, ty3, ty4, ty61]
      repeat refine ⟨by first | omega | grind, ?_⟩
      refine h11 _ ?_
      clear h11 K11
      refine W_cond rfl (fun hb12 => ?_) fun hb12 => ?_
      · simp at hb12
        refine W_seqK fun K13 h13 => ?_
        refine W_reg ?_
        simp [go_sem, ty4]
        repeat refine ⟨by first | omega | grind, ?_⟩
        refine h13 _ ?_
        clear h13 K13
        refine W_ret ?_
        simp [go_sem, GHart.ext_iff, hb4, hb8, hb12]
      · simp at hb12
        refine W_skip ?_
        repeat refine ⟨by first | omega | grind, ?_⟩
        refine h10 _ ?_
        clear h10 K10
        refine W_seqK fun K14 h14 => ?_
        refine W_reg ?_
        simp [go_sem, ty4]
        repeat refine ⟨by first | omega | grind, ?_⟩
        refine h14 _ ?_
        clear h14 K14
        refine W_ret ?_
        simp [go_sem, GHart.ext_iff, hb4, hb8, hb12]

set_option maxRecDepth 100000 in
set_option maxHeartbeats 4000000 in
theorem pc_laws_eqCore (x : GCore) (y : GCore) (hq : x.small) : PC Try.prog 126 [(true, eCore x), (true, eCore y)] [(false, [.bool (decide (x = y))])] := by
  unfold GCore.small GHart.small at hq
  obtain ⟨q0, q1, q2⟩ := hq
  refine PC_of (n := 17) Try.func126 rfl rfl rfl rfl (by simp) ?_
  refine W_seqK fun K1 h1 => ?_
  refine W_reg ?_
  simp [go_sem, ty4, ty107]
  repeat refine ⟨by first | omega | grind, ?_⟩
  refine h1 _ ?_
  clear h1 K1
  refine W_seqK fun K2 h2 => ?_
  refine W_seqK fun K3 h3 => ?_
  refine W_reg ?_
  simp [go_sem, ty4, ty61, ty107]
  refine callG_pc (fun hG => pc_laws_eqHart x.hart y.hart (by first | omega | assumption | (simp only [a0]; omega) | (simp only [a0, a1]; omega) | (simp only [a0, a1, a2]; omega) | (simp_all; done))) (by first | (simp; done) | (simp [inR_iff]; done) | (simp [inR_iff]; grind) | grind) (fun hG => by simp [go_sem]) rfl rfl (by first | exact Or.inl rfl | exact Or.inr rfl) ?_
  simp [go_sem, ty4]
  repeat refine ⟨by first | omega | grind, ?_⟩
  refine h3 _ ?_
  clear h3 K3
  refine W_cond rfl (fun hb4 => ?_) fun hb4 => ?_
  · try simp at hb4
    refine W_seqK fun K5 h5 => ?_
    refine W_reg ?_
    simp [go_sem, ty4]
    repeat refine ⟨by first | omega | grind, ?_⟩
    refine h5 _ ?_
    clear h5 K5
    refine W_ret ?_
    simp [go_sem, GCore.ext_iff, hb4]
  · try simp at hb4
    refine W_skip ?_
    repeat refine ⟨by first | omega | grind, ?_⟩
    refine h2 _ ?_
    clear h2 K2
    refine W_seqK fun K6 h6 => ?_
    refine W_seqK fun K7 h7 => ?_
    refine W_reg ?_
    simp [go_sem, ty4, ty105, ty107, ty198]
    refine callG_pc (fun hG => pc_laws_eqBlockS x.cache y.cache (by first | omega | assumption | (simp only [a0]; omega) | (simp only [a0, a1]; omega) | (simp only [a0, a1, a2]; omega) | (simp_all; done)) (by first | omega | assumption | (simp only [a0]; omega) | (simp only [a0, a1]; omega) | (simp only [a0, a1, a2]; omega) | (simp_all; done))) (by first | (simp; done) | (simp [inR_iff]; done) | (simp [inR_iff]; grind) | grind) (fun hG => by simp [go_sem]) rfl rfl (by first | exact Or.inl rfl | exact Or.inr rfl) ?_
    simp [go_sem, ty4]
    repeat refine ⟨by first | omega | grind, ?_⟩
    refine h7 _ ?_
    clear h7 K7
    refine W_cond rfl (fun hb8 => ?_) fun hb8 => ?_
    · try simp at hb8
      refine W_seqK fun K9 h9 => ?_
      refine W_reg ?_
      simp [go_sem, ty4]
      repeat refine ⟨by first | omega | grind, ?_⟩
      refine h9 _ ?_
      clear h9 K9
      refine W_ret ?_
      simp [go_sem, GCore.ext_iff, hb4, hb8]
    · try simp at hb8
      refine W_skip ?_
      repeat refine ⟨by first | omega | grind, ?_⟩
      refine h6 _ ?_
      clear h6 K6
      refine W_seqK fun K10 h10 => ?_
      refine W_reg ?_
      simp [go_sem, ty4]
      repeat refine ⟨by first | omega | grind, ?_⟩
      refine h10 _ ?_
      clear h10 K10
      refine W_ret ?_
      simp [go_sem, GCore.ext_iff, hb4, hb8]

set_option maxRecDepth 100000 in
set_option maxHeartbeats 4000000 in
theorem pc_laws_eqCoreS (xs : List GCore) (ys : List GCore) (hx : xs.length ≤ 17592186043904) (hq : ∀ a ∈ xs, a.small) : PC Try.prog 66 [(false, [.sl 4 (enc eCore xs)]), (false, [.sl 4 (enc eCore ys)])] [(false, [.bool (decide (xs = ys))])] := by
  refine PC_of (n := 27) Try.func66 rfl rfl rfl rfl (by simp) ?_
  refine W_seqK fun K1 h1 => ?_
  refine W_reg ?_
  simp [go_sem, ty4]
  repeat refine ⟨by first | omega | grind, ?_⟩
  refine h1 _ ?_
  clear h1 K1
  refine W_seqK fun K2 h2 => ?_
  refine W_seqK fun K3 h3 => ?_
  refine W_reg ?_
  simp [go_sem, ty3, ty4, ty27, ty107]
  repeat refine ⟨by first | omega | grind, ?_⟩
  refine h3 _ ?_
  clear h3 K3
  refine W_cond rfl (fun hb4 => ?_) fun hb4 => ?_
  · have hne : xs ≠ ys := ne_of_len (by simp at hb4; omega)
    refine W_seqK fun K5 h5 => ?_
    refine W_reg ?_
    simp [go_sem, ty4]
    repeat refine ⟨by first | omega | grind, ?_⟩
    refine h5 _ ?_
    clear h5 K5
    refine W_ret ?_
    simp [go_sem, hne]
  · have hl : xs.length = ys.length := by simp at hb4; omega
    clear hb4
    refine W_skip ?_
    repeat refine ⟨by first | omega | grind, ?_⟩
    refine h2 _ ?_
    clear h2 K2
    refine W_seqK fun K6 h6 => ?_
    refine W_seqK fun K7 h7 => ?_
    refine W_reg ?_
    simp [go_sem, ty3]
    repeat refine ⟨by first | omega | grind, ?_⟩
    refine h7 _ ?_
    clear h7 K7
    refine W_block ?_
    refine W_loopI (α := Nat) (fun i => ({ env := [(0, true, .l (.ref 0 [] 4 0 (xs.length))), (1, true, .l (.ref 1 [] 4 0 (ys.length))), (5, true, .l (.t (.int .i64 (i))))], box := [], row := [(0, ⟨.ro, 4, enc eCore xs⟩), (1, ⟨.ro, 4, enc eCore ys⟩)], nxt := 2, sav := [] } : St)) (fun i => i ≤ xs.length ∧ xs.take i = ys.take i) (fun i => xs.length - i) 0 ?_ ?_ ?_
    · exact Sub.of_neat [0, 1, 5] [0, 1] [] 2 (by decide) (by simp [go_sem])
    · simp
    rintro i hinv
    obtain ⟨hi, htk⟩ := hinv
    refine W_seqK fun K9 h9 => ?_
    refine W_seqK fun K10 h10 => ?_
    refine W_reg ?_
    simp [go_sem, ty3, ty4, ty27, ty107]
    repeat refine ⟨by first | omega | grind, ?_⟩
    refine h10 _ ?_
    clear h10 K10
    refine W_cond rfl (fun hb11 => ?_) fun hb11 => ?_
    · have hlt : i < xs.length := by simpa using hb11
      have hlt2 : i < ys.length := hl ▸ hlt
      clear hb11
      refine W_skip ?_
      repeat refine ⟨by first | omega | grind, ?_⟩
      refine h9 _ ?_
      clear h9 K9
      refine W_seqK fun K12 h12 => ?_
      refine W_block ?_
      refine W_seqK fun K13 h13 => ?_
      refine W_drawT true mixed (by decide +kernel) ?_
      simp [go_sem, ty3, ty4, ty27, ty107, hlt, hlt2]
      refine callG_pc (fun hG => pc_laws_eqCore xs[i] ys[i] (hq _ (List.getElem_mem hlt))) (by first | (simp; done) | (simp [inR_iff]; done) | (simp [inR_iff]; grind) | grind) (fun hG => by simp [go_sem, hlt, hlt2]) rfl rfl (by first | exact Or.inl rfl | exact Or.inr rfl) ?_
      simp [go_sem, ty4, hlt, hlt2]
      repeat refine ⟨by first | omega | grind, ?_⟩
      refine h13 _ ?_
      clear h13 K13
      refine W_cond rfl (fun hb14 => ?_) fun hb14 => ?_
      · have hne : xs ≠ ys := ne_of_get hlt hlt2 (by simpa [hlt, hlt2] using hb14)
        refine W_seqK fun K15 h15 => ?_
        refine W_reg ?_
        simp [go_sem, ty4]
        repeat refine ⟨by first | omega | grind, ?_⟩
        refine h15 _ ?_
        clear h15 K15
        refine W_ret ?_
        simp [go_sem, hne]
      · have he : xs[i] = ys[i] := by simpa [hlt, hlt2] using hb14
        clear hb14
        refine W_skip ?_
        repeat refine ⟨by first | omega | grind, ?_⟩
        refine h12 _ ?_
        clear h12 K12
        refine W_reg ?_
        simp [go_sem, ty3]
        refine ⟨i + 1, ?_, ?_, ?_⟩
        · exact Sub.of_neat [0, 1, 5] [0, 1] [] 2 (by decide) (by simp [go_sem, wrap_succ (show i < 9223372036854775807 by omega)])
        · exact ⟨hlt, take_succ_eq htk hlt hlt2 he⟩
        · omega
    · obtain rfl : i = xs.length := by simp at hb11; omega
      have hxy : xs = ys := eq_of_take hl htk
      clear hb11
      refine W_exit ?_
      simp [go_sem]
      repeat refine ⟨by first | omega | grind, ?_⟩
      refine h6 _ ?_
      clear h9 K9 h6 K6
      refine W_seqK fun K16 h16 => ?_
      refine W_reg ?_
      simp [go_sem, ty4]
      repeat refine ⟨by first | omega | grind, ?_⟩
      refine h16 _ ?_
      clear h16 K16
      refine W_ret ?_
      simp [go_sem, hxy]

set_option maxRecDepth 100000 in
set_option maxHeartbeats 4000000 in
theorem pc_laws_eqFlock (x : GFlock) (y : GFlock) (hq : x.small) : PC Try.prog 13 [(true, eFlock x), (true, eFlock y)] [(false, [.bool (decide (x = y))])] := by
  unfold GFlock.small at hq
  obtain ⟨q0, q1, q2⟩ := hq
  refine PC_of (n := 17) Try.func13 rfl rfl rfl rfl (by simp) ?_
  refine W_seqK fun K1 h1 => ?_
  refine W_reg ?_
  simp [go_sem, ty4, ty29]
  repeat refine ⟨by first | omega | grind, ?_⟩
  refine h1 _ ?_
  clear h1 K1
  refine W_seqK fun K2 h2 => ?_
  refine W_seqK fun K3 h3 => ?_
  refine W_reg ?_
  simp [go_sem, ty4, ty26, ty29]
  refine callG_pc (fun hG => pc_laws_eqWorld x.world y.world (by first | omega | assumption | (simp only [a0]; omega) | (simp only [a0, a1]; omega) | (simp only [a0, a1, a2]; omega) | (simp_all; done))) (by first | (simp; done) | (simp [inR_iff]; done) | (simp [inR_iff]; grind) | grind) (fun hG => by simp [go_sem]) rfl rfl (by first | exact Or.inl rfl | exact Or.inr rfl) ?_
  simp [go_sem, ty4]
  repeat refine ⟨by first | omega | grind, ?_⟩
  refine h3 _ ?_
  clear h3 K3
  refine W_cond rfl (fun hb4 => ?_) fun hb4 => ?_
  · try simp at hb4
    refine W_seqK fun K5 h5 => ?_
    refine W_reg ?_
    simp [go_sem, ty4]
    repeat refine ⟨by first | omega | grind, ?_⟩
    refine h5 _ ?_
    clear h5 K5
    refine W_ret ?_
    simp [go_sem, GFlock.ext_iff, hb4]
  · try simp at hb4
    refine W_skip ?_
    repeat refine ⟨by first | omega | grind, ?_⟩
    refine h2 _ ?_
    clear h2 K2
    refine W_seqK fun K6 h6 => ?_
    refine W_seqK fun K7 h7 => ?_
    refine W_reg ?_
    simp [go_sem, ty4, ty27, ty29, ty107]
    refine callG_pc (fun hG => pc_laws_eqCoreS x.cores y.cores (by first | omega | assumption | (simp only [a0]; omega) | (simp only [a0, a1]; omega) | (simp only [a0, a1, a2]; omega) | (simp_all; done)) (by first | omega | assumption | (simp only [a0]; omega) | (simp only [a0, a1]; omega) | (simp only [a0, a1, a2]; omega) | (simp_all; done))) (by first | (simp; done) | (simp [inR_iff]; done) | (simp [inR_iff]; grind) | grind) (fun hG => by simp [go_sem]) rfl rfl (by first | exact Or.inl rfl | exact Or.inr rfl) ?_
    simp [go_sem, ty4]
    repeat refine ⟨by first | omega | grind, ?_⟩
    refine h7 _ ?_
    clear h7 K7
    refine W_cond rfl (fun hb8 => ?_) fun hb8 => ?_
    · try simp at hb8
      refine W_seqK fun K9 h9 => ?_
      refine W_reg ?_
      simp [go_sem, ty4]
      repeat refine ⟨by first | omega | grind, ?_⟩
      refine h9 _ ?_
      clear h9 K9
      refine W_ret ?_
      simp [go_sem, GFlock.ext_iff, hb4, hb8]
    · try simp at hb8
      refine W_skip ?_
      repeat refine ⟨by first | omega | grind, ?_⟩
      refine h6 _ ?_
      clear h6 K6
      refine W_seqK fun K10 h10 => ?_
      refine W_reg ?_
      simp [go_sem, ty4]
      repeat refine ⟨by first | omega | grind, ?_⟩
      refine h10 _ ?_
      clear h10 K10
      refine W_ret ?_
      simp [go_sem, GFlock.ext_iff, hb4, hb8]
end Go.Tw
