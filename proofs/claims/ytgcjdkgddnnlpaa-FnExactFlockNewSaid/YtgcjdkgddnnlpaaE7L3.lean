/- Walks of functions: laws.eqHome, laws.eqHomeS, laws.eqNode, laws.eqNodeS, laws.eqWorld -/
import Derived.Test.YtgcjdkgddnnlpaaE7L2
set_option linter.unusedSimpArgs false
set_option linter.unusedVariables false
set_option linter.unnecessarySimpa false
namespace Go.Tw
open Go.Proofs

set_option maxRecDepth 100000 in
set_option maxHeartbeats 4000000 in
theorem pc_laws_eqHome (x : GHome) (y : GHome) (hq : x.small) : PC Try.prog 190 [(true, eHome x), (true, eHome y)] [(false, [.bool (decide (x = y))])] := by
  unfold GHome.small at hq
  obtain ⟨q0, q1, q2⟩ := hq
  refine PC_of (n := 44) Try.func190 rfl rfl rfl rfl (by simp) ?_
  refine W_seqK fun K1 h1 => ?_
  refine W_reg ?_
  simp [go_sem, ty4, ty97]
  repeat refine ⟨by first | omega | grind, ?_⟩
  refine h1 _ ?_
  clear h1 K1
  refine W_seqK fun K2 h2 => ?_
  refine W_seqK fun K3 h3 => ?_
  refine W_reg ?_
  simp [go_sem, ty3, ty4, ty22, ty97]
  refine callG_pc (fun hG => pc_laws_eqIntS x.list y.list (by first | omega | assumption | (simp only [a0]; omega) | (simp only [a0, a1]; omega) | (simp only [a0, a1, a2]; omega) | (simp_all; done))) (by first | (simp; done) | (simp [inR_iff]; done) | (simp [inR_iff]; grind) | grind) (fun hG => by simp [go_sem]) rfl rfl (by first | exact Or.inl rfl | exact Or.inr rfl) ?_
  simp [go_sem, ty4]
  repeat refine ⟨by first | omega | grind, ?_⟩
  refine h3 _ ?_
  clear h3 K3
  refine W_cond rfl (fun hb4 => ?_) fun hb4 => ?_
  · try simp at hb4
    refine W_seqK fun K5 h5 => ?_
    refine W_reg ?_
    simp [go_sem, ty4]
    repeat refine ⟨by first | omega | grind, ?_⟩
    refine h5 _ ?_
    clear h5 K5
    refine W_ret ?_
    simp [go_sem, GHome.ext_iff, hb4]
  · try simp at hb4
    refine W_skip ?_
    repeat refine ⟨by first | omega | grind, ?_⟩
    refine h2 _ ?_
    clear h2 K2
    refine W_seqK fun K6 h6 => ?_
    refine W_seqK fun K7 h7 => ?_
    refine W_reg ?_
    simp [go_sem, ty3, ty4, ty97]
    repeat refine ⟨by first | omega | grind, ?_⟩
    refine h7 _ ?_
    clear h7 K7
    refine W_cond rfl (fun hb8 => ?_) fun hb8 => ?_
    · try simp at hb8
      refine W_seqK fun K9 h9 => ?_
      refine W_reg ?_
      simp [go_sem, ty4]
      repeat refine ⟨by first | omega | grind, ?_⟩
      refine h9 _ ?_
      clear h9 K9
      refine W_ret ?_
      simp [go_sem, GHome.ext_iff, hb4, hb8]
    · try simp at hb8
      refine W_skip ?_
      repeat refine ⟨by first | omega | grind, ?_⟩
      refine h6 _ ?_
      clear h6 K6
      refine W_seqK fun K10 h10 => ?_
      refine W_seqK fun K11 h11 => ?_
      refine W_reg ?_
      simp [go_sem, ty4, ty92, ty97]
      refine callG_pc (fun hG => pc_laws_eqBoolS x.readers y.readers (by first | omega | assumption | (simp only [a0]; omega) | (simp only [a0, a1]; omega) | (simp only [a0, a1, a2]; omega) | (simp_all; done))) (by first | (simp; done) | (simp [inR_iff]; done) | (simp [inR_iff]; grind) | grind) (fun hG => by simp [go_sem]) rfl rfl (by first | exact Or.inl rfl | exact Or.inr rfl) ?_
      simp [go_sem, ty4]
      repeat refine ⟨by first | omega | grind, ?_⟩
      refine h11 _ ?_
      clear h11 K11
      refine W_cond rfl (fun hb12 => ?_) fun hb12 => ?_
      · try simp at hb12
        refine W_seqK fun K13 h13 => ?_
        refine W_reg ?_
        simp [go_sem, ty4]
        repeat refine ⟨by first | omega | grind, ?_⟩
        refine h13 _ ?_
        clear h13 K13
        refine W_ret ?_
        simp [go_sem, GHome.ext_iff, hb4, hb8, hb12]
      · try simp at hb12
        refine W_skip ?_
        repeat refine ⟨by first | omega | grind, ?_⟩
        refine h10 _ ?_
        clear h10 K10
        refine W_seqK fun K14 h14 => ?_
        refine W_seqK fun K15 h15 => ?_
        refine W_reg ?_
        simp [go_sem, ty4, ty97]
        repeat refine ⟨by first | omega | grind, ?_⟩
        refine h15 _ ?_
        clear h15 K15
        refine W_cond rfl (fun hb16 => ?_) fun hb16 => ?_
        · try simp at hb16
          refine W_seqK fun K17 h17 => ?_
          refine W_reg ?_
          simp [go_sem, ty4]
          repeat refine ⟨by first | omega | grind, ?_⟩
          refine h17 _ ?_
          clear h17 K17
          refine W_ret ?_
          simp [go_sem, GHome.ext_iff, hb4, hb8, hb12, hb16]
        · try simp at hb16
          refine W_skip ?_
          repeat refine ⟨by first | omega | grind, ?_⟩
          refine h14 _ ?_
          clear h14 K14
          refine W_seqK fun K18 h18 => ?_
          refine W_seqK fun K19 h19 => ?_
          refine W_reg ?_
          simp [go_sem, ty4, ty94, ty97]
          refine callG_pc (fun hG => pc_laws_eqWait x.now y.now) (by first | (simp; done) | (simp [inR_iff]; done) | (simp [inR_iff]; grind) | grind) (fun hG => by simp [go_sem]) rfl rfl (by first | exact Or.inl rfl | exact Or.inr rfl) ?_
          simp [go_sem, ty4]
          repeat refine ⟨by first | omega | grind, ?_⟩
          refine h19 _ ?_
          clear h19 K19
          refine W_cond rfl (fun hb20 => ?_) fun hb20 => ?_
          · try simp at hb20
            refine W_seqK fun K21 h21 => ?_
            refine W_reg ?_
            simp [go_sem, ty4]
            repeat refine ⟨by first | omega | grind, ?_⟩
            refine h21 _ ?_
            clear h21 K21
            refine W_ret ?_
            simp [go_sem, GHome.ext_iff, hb4, hb8, hb12, hb16, hb20]
          · try simp at hb20
            refine W_skip ?_
            repeat refine ⟨by first | omega | grind, ?_⟩
            refine h18 _ ?_
            clear h18 K18
            refine W_seqK fun K22 h22 => ?_
            refine W_seqK fun K23 h23 => ?_
            refine W_reg ?_
            simp [go_sem, ty3, ty4, ty97]
            repeat refine ⟨by first | omega | grind, ?_⟩
            refine h23 _ ?_
            clear h23 K23
            refine W_cond rfl (fun hb24 => ?_) fun hb24 => ?_
            · try simp at hb24
              refine W_seqK fun K25 h25 => ?_
              refine W_reg ?_
              simp [go_sem, ty4]
              repeat refine ⟨by first | omega | grind, ?_⟩
              refine h25 _ ?_
              clear h25 K25
              refine W_ret ?_
              simp [go_sem, GHome.ext_iff, hb4, hb8, hb12, hb16, hb20, hb24]
            · try simp at hb24
              refine W_skip ?_
              repeat refine ⟨by first | omega | grind, ?_⟩
              refine h22 _ ?_
              clear h22 K22
              refine W_seqK fun K26 h26 => ?_
              refine W_seqK fun K27 h27 => ?_
              refine W_reg ?_
              simp [go_sem, ty4, ty94, ty95, ty97]
              refine callG_pc (fun hG => pc_laws_eqWaitS x.queue y.queue (by first | omega | assumption | (simp only [a0]; omega) | (simp only [a0, a1]; omega) | (simp only [a0, a1, a2]; omega) | (simp_all; done))) (by first | (simp; done) | (simp [inR_iff]; done) | (simp [inR_iff]; grind) | grind) (fun hG => by simp [go_sem]) rfl rfl (by first | exact Or.inl rfl | exact Or.inr rfl) ?_
              simp [go_sem, ty4]
              repeat refine ⟨by first | omega | grind, ?_⟩
              refine h27 _ ?_
              clear h27 K27
              refine W_cond rfl (fun hb28 => ?_) fun hb28 => ?_
              · try simp at hb28
                refine W_seqK fun K29 h29 => ?_
                refine W_reg ?_
                simp [go_sem, ty4]
                repeat refine ⟨by first | omega | grind, ?_⟩
                refine h29 _ ?_
                clear h29 K29
                refine W_ret ?_
                simp [go_sem, GHome.ext_iff, hb4, hb8, hb12, hb16, hb20, hb24, hb28]
              · try simp at hb28
                refine W_skip ?_
                repeat refine ⟨by first | omega | grind, ?_⟩
                refine h26 _ ?_
                clear h26 K26
                refine W_seqK fun K30 h30 => ?_
                refine W_reg ?_
                simp [go_sem, ty4]
                repeat refine ⟨by first | omega | grind, ?_⟩
                refine h30 _ ?_
                clear h30 K30
                refine W_ret ?_
                simp [go_sem, GHome.ext_iff, hb4, hb8, hb12, hb16, hb20, hb24, hb28]

set_option maxRecDepth 100000 in
set_option maxHeartbeats 4000000 in
theorem pc_laws_eqHomeS (xs : List GHome) (ys : List GHome) (hx : xs.length ≤ 17592186043904) (hq : ∀ a ∈ xs, a.small) : PC Try.prog 176 [(false, [.sl 8 (enc eHome xs)]), (false, [.sl 8 (enc eHome ys)])] [(false, [.bool (decide (xs = ys))])] := by
  refine PC_of (n := 27) Try.func176 rfl rfl rfl rfl (by simp) ?_
  refine W_seqK fun K1 h1 => ?_
  refine W_reg ?_
  simp [go_sem, ty4]
  repeat refine ⟨by first | omega | grind, ?_⟩
  refine h1 _ ?_
  clear h1 K1
  refine W_seqK fun K2 h2 => ?_
  refine W_seqK fun K3 h3 => ?_
  refine W_reg ?_
  simp [go_sem, ty3, ty4, ty97, ty99]
  repeat refine ⟨by first | omega | grind, ?_⟩
  refine h3 _ ?_
  clear h3 K3
  refine W_cond rfl (fun hb4 => ?_) fun hb4 => ?_
  · have hne : xs ≠ ys := ne_of_len (by simp at hb4; omega)
    refine W_seqK fun K5 h5 => ?_
    refine W_reg ?_
    simp [go_sem, ty4]
    repeat refine ⟨by first | omega | grind, ?_⟩
    refine h5 _ ?_
    clear h5 K5
    refine W_ret ?_
    simp [go_sem, hne]
  · have hl : xs.length = ys.length := by simp at hb4; omega
    clear hb4
    refine W_skip ?_
    repeat refine ⟨by first | omega | grind, ?_⟩
    refine h2 _ ?_
    clear h2 K2
    refine W_seqK fun K6 h6 => ?_
    refine W_seqK fun K7 h7 => ?_
    refine W_reg ?_
    simp [go_sem, ty3]
    repeat refine ⟨by first | omega | grind, ?_⟩
    refine h7 _ ?_
    clear h7 K7
    refine W_block ?_
    refine W_loopI (α := Nat) (fun i => ({ env := [(0, true, .l (.ref 0 [] 8 0 (xs.length))), (1, true, .l (.ref 1 [] 8 0 (ys.length))), (5, true, .l (.t (.int .i64 (i))))], box := [], row := [(0, ⟨.ro, 8, enc eHome xs⟩), (1, ⟨.ro, 8, enc eHome ys⟩)], nxt := 2, sav := [] } : St)) (fun i => i ≤ xs.length ∧ xs.take i = ys.take i) (fun i => xs.length - i) 0 ?_ ?_ ?_
    · exact Sub.of_neat [0, 1, 5] [0, 1] [] 2 (by decide) (by simp [go_sem])
    · simp
    rintro i hinv
    obtain ⟨hi, htk⟩ := hinv
    refine W_seqK fun K9 h9 => ?_
    refine W_seqK fun K10 h10 => ?_
    refine W_reg ?_
    simp [go_sem, ty3, ty4, ty97, ty99]
    repeat refine ⟨by first | omega | grind, ?_⟩
    refine h10 _ ?_
    clear h10 K10
    refine W_cond rfl (fun hb11 => ?_) fun hb11 => ?_
    · have hlt : i < xs.length := by simpa using hb11
      have hlt2 : i < ys.length := hl ▸ hlt
      clear hb11
      refine W_skip ?_
      repeat refine ⟨by first | omega | grind, ?_⟩
      refine h9 _ ?_
      clear h9 K9
      refine W_seqK fun K12 h12 => ?_
      refine W_block ?_
      refine W_seqK fun K13 h13 => ?_
      refine W_drawT true mixed (by decide +kernel) ?_
      simp [go_sem, ty3, ty4, ty97, ty99, hlt, hlt2]
      refine callG_pc (fun hG => pc_laws_eqHome xs[i] ys[i] (hq _ (List.getElem_mem hlt))) (by first | (simp; done) | (simp [inR_iff]; done) | (simp [inR_iff]; grind) | grind) (fun hG => by simp [go_sem, hlt, hlt2]) rfl rfl (by first | exact Or.inl rfl | exact Or.inr rfl) ?_
      simp [go_sem, ty4, hlt, hlt2]
      repeat refine ⟨by first | omega | grind, ?_⟩
      refine h13 _ ?_
      clear h13 K13
      refine W_cond rfl (fun hb14 => ?_) fun hb14 => ?_
      · have hne : xs ≠ ys := ne_of_get hlt hlt2 (by simpa [hlt, hlt2] using hb14)
        refine W_seqK fun K15 h15 => ?_
        refine W_reg ?_
        simp [go_sem, ty4]
        repeat refine ⟨by first | omega | grind, ?_⟩
        refine h15 _ ?_
        clear h15 K15
        refine W_ret ?_
        simp [go_sem, hne]
      · have he : xs[i] = ys[i] := by simpa [hlt, hlt2] using hb14
        clear hb14
        refine W_skip ?_
        repeat refine ⟨by first | omega | grind, ?_⟩
        refine h12 _ ?_
        clear h12 K12
        refine W_reg ?_
        simp [go_sem, ty3]
        refine ⟨i + 1, ?_, ?_, ?_⟩
        · exact Sub.of_neat [0, 1, 5] [0, 1] [] 2 (by decide) (by simp [go_sem, wrap_succ (show i < 9223372036854775807 by omega)])
        · exact ⟨hlt, take_succ_eq htk hlt hlt2 he⟩
        · omega
    · obtain rfl : i = xs.length := by simp at hb11; omega
      have hxy : xs = ys := eq_of_take hl htk
      clear hb11
      refine W_exit ?_
      simp [go_sem]
      repeat refine ⟨by first | omega | grind, ?_⟩
      refine h6 _ ?_
      clear h9 K9 h6 K6
      refine W_seqK fun K16 h16 => ?_
      refine W_reg ?_
      simp [go_sem, ty4]
      repeat refine ⟨by first | omega | grind, ?_⟩
      refine h16 _ ?_
      clear h16 K16
      refine W_ret ?_
      simp [go_sem, hxy]

set_option maxRecDepth 100000 in
set_option maxHeartbeats 4000000 in
theorem pc_laws_eqNode (x : GNode) (y : GNode) (hq : x.small) : PC Try.prog 157 [(true, eNode x), (true, eNode y)] [(false, [.bool (decide (x = y))])] := by
  unfold GNode.small at hq
  obtain ⟨q0, q1, q2, q3, q4, q5, q6⟩ := hq
  refine PC_of (n := 34) Try.func157 rfl rfl rfl rfl (by simp) ?_
  refine W_seqK fun K1 h1 => ?_
  refine W_reg ?_
  simp [go_sem, ty4, ty103]
  repeat refine ⟨by first | omega | grind, ?_⟩
  refine h1 _ ?_
  clear h1 K1
  refine W_seqK fun K2 h2 => ?_
  refine W_seqK fun K3 h3 => ?_
  refine W_reg ?_
  simp [go_sem, ty3, ty4, ty103]
  repeat refine ⟨by first | omega | grind, ?_⟩
  refine h3 _ ?_
  clear h3 K3
  refine W_cond rfl (fun hb4 => ?_) fun hb4 => ?_
  · try simp at hb4
    refine W_seqK fun K5 h5 => ?_
    refine W_reg ?_
    simp [go_sem, ty4]
    repeat refine ⟨by first | omega | grind, ?_⟩
    refine h5 _ ?_
    clear h5 K5
    refine W_ret ?_
    simp [go_sem, GNode.ext_iff, hb4]
  · try simp at hb4
    refine W_skip ?_
    repeat refine ⟨by first | omega | grind, ?_⟩
    refine h2 _ ?_
    clear h2 K2
    refine W_seqK fun K6 h6 => ?_
    refine W_seqK fun K7 h7 => ?_
    refine W_reg ?_
    simp [go_sem, ty4, ty98, ty103, ty210]
    refine callG_pc (fun hG => pc_laws_eqFrameS x.frames y.frames (by first | omega | assumption | (simp only [a0]; omega) | (simp only [a0, a1]; omega) | (simp only [a0, a1, a2]; omega) | (simp_all; done)) (by first | omega | assumption | (simp only [a0]; omega) | (simp only [a0, a1]; omega) | (simp only [a0, a1, a2]; omega) | (simp_all; done))) (by first | (simp; done) | (simp [inR_iff]; done) | (simp [inR_iff]; grind) | grind) (fun hG => by simp [go_sem]) rfl rfl (by first | exact Or.inl rfl | exact Or.inr rfl) ?_
    simp [go_sem, ty4]
    repeat refine ⟨by first | omega | grind, ?_⟩
    refine h7 _ ?_
    clear h7 K7
    refine W_cond rfl (fun hb8 => ?_) fun hb8 => ?_
    · try simp at hb8
      refine W_seqK fun K9 h9 => ?_
      refine W_reg ?_
      simp [go_sem, ty4]
      repeat refine ⟨by first | omega | grind, ?_⟩
      refine h9 _ ?_
      clear h9 K9
      refine W_ret ?_
      simp [go_sem, GNode.ext_iff, hb4, hb8]
    · try simp at hb8
      refine W_skip ?_
      repeat refine ⟨by first | omega | grind, ?_⟩
      refine h6 _ ?_
      clear h6 K6
      refine W_seqK fun K10 h10 => ?_
      refine W_seqK fun K11 h11 => ?_
      refine W_reg ?_
      simp [go_sem, ty4, ty97, ty99, ty103]
      refine callG_pc (fun hG => pc_laws_eqHomeS x.homes y.homes (by first | omega | assumption | (simp only [a0]; omega) | (simp only [a0, a1]; omega) | (simp only [a0, a1, a2]; omega) | (simp_all; done)) (by first | omega | assumption | (simp only [a0]; omega) | (simp only [a0, a1]; omega) | (simp only [a0, a1, a2]; omega) | (simp_all; done))) (by first | (simp; done) | (simp [inR_iff]; done) | (simp [inR_iff]; grind) | grind) (fun hG => by simp [go_sem]) rfl rfl (by first | exact Or.inl rfl | exact Or.inr rfl) ?_
      simp [go_sem, ty4]
      repeat refine ⟨by first | omega | grind, ?_⟩
      refine h11 _ ?_
      clear h11 K11
      refine W_cond rfl (fun hb12 => ?_) fun hb12 => ?_
      · try simp at hb12
        refine W_seqK fun K13 h13 => ?_
        refine W_reg ?_
        simp [go_sem, ty4]
        repeat refine ⟨by first | omega | grind, ?_⟩
        refine h13 _ ?_
        clear h13 K13
        refine W_ret ?_
        simp [go_sem, GNode.ext_iff, hb4, hb8, hb12]
      · try simp at hb12
        refine W_skip ?_
        repeat refine ⟨by first | omega | grind, ?_⟩
        refine h10 _ ?_
        clear h10 K10
        refine W_seqK fun K14 h14 => ?_
        refine W_seqK fun K15 h15 => ?_
        refine W_reg ?_
        simp [go_sem, ty4, ty100, ty103, ty215]
        refine callG_pc (fun hG => pc_laws_eqSenderS x.out y.out (by first | omega | assumption | (simp only [a0]; omega) | (simp only [a0, a1]; omega) | (simp only [a0, a1, a2]; omega) | (simp_all; done)) (by first | omega | assumption | (simp only [a0]; omega) | (simp only [a0, a1]; omega) | (simp only [a0, a1, a2]; omega) | (simp_all; done))) (by first | (simp; done) | (simp [inR_iff]; done) | (simp [inR_iff]; grind) | grind) (fun hG => by simp [go_sem]) rfl rfl (by first | exact Or.inl rfl | exact Or.inr rfl) ?_
        simp [go_sem, ty4]
        repeat refine ⟨by first | omega | grind, ?_⟩
        refine h15 _ ?_
        clear h15 K15
        refine W_cond rfl (fun hb16 => ?_) fun hb16 => ?_
        · try simp at hb16
          refine W_seqK fun K17 h17 => ?_
          refine W_reg ?_
          simp [go_sem, ty4]
          repeat refine ⟨by first | omega | grind, ?_⟩
          refine h17 _ ?_
          clear h17 K17
          refine W_ret ?_
          simp [go_sem, GNode.ext_iff, hb4, hb8, hb12, hb16]
        · try simp at hb16
          refine W_skip ?_
          repeat refine ⟨by first | omega | grind, ?_⟩
          refine h14 _ ?_
          clear h14 K14
          refine W_seqK fun K18 h18 => ?_
          refine W_seqK fun K19 h19 => ?_
          refine W_reg ?_
          simp [go_sem, ty4, ty101, ty103, ty218]
          refine callG_pc (fun hG => pc_laws_eqReceiverS x.in_ y.in_ (by first | omega | assumption | (simp only [a0]; omega) | (simp only [a0, a1]; omega) | (simp only [a0, a1, a2]; omega) | (simp_all; done))) (by first | (simp; done) | (simp [inR_iff]; done) | (simp [inR_iff]; grind) | grind) (fun hG => by simp [go_sem]) rfl rfl (by first | exact Or.inl rfl | exact Or.inr rfl) ?_
          simp [go_sem, ty4]
          repeat refine ⟨by first | omega | grind, ?_⟩
          refine h19 _ ?_
          clear h19 K19
          refine W_cond rfl (fun hb20 => ?_) fun hb20 => ?_
          · try simp at hb20
            refine W_seqK fun K21 h21 => ?_
            refine W_reg ?_
            simp [go_sem, ty4]
            repeat refine ⟨by first | omega | grind, ?_⟩
            refine h21 _ ?_
            clear h21 K21
            refine W_ret ?_
            simp [go_sem, GNode.ext_iff, hb4, hb8, hb12, hb16, hb20]
          · try simp at hb20
            refine W_skip ?_
            repeat refine ⟨by first | omega | grind, ?_⟩
            refine h18 _ ?_
            clear h18 K18
            refine W_seqK fun K22 h22 => ?_
            refine W_reg ?_
            simp [go_sem, ty4]
            repeat refine ⟨by first | omega | grind, ?_⟩
            refine h22 _ ?_
            clear h22 K22
            refine W_ret ?_
            simp [go_sem, GNode.ext_iff, hb4, hb8, hb12, hb16, hb20]

set_option maxRecDepth 100000 in
set_option maxHeartbeats 4000000 in
theorem pc_laws_eqNodeS (xs : List GNode) (ys : List GNode) (hx : xs.length ≤ 17592186043904) (hq : ∀ a ∈ xs, a.small) : PC Try.prog 124 [(false, [.sl 5 (enc eNode xs)]), (false, [.sl 5 (enc eNode ys)])] [(false, [.bool (decide (xs = ys))])] := by
  refine PC_of (n := 27) Try.func124 rfl rfl rfl rfl (by simp) ?_
  refine W_seqK fun K1 h1 => ?_
  refine W_reg ?_
  simp [go_sem, ty4]
  repeat refine ⟨by first | omega | grind, ?_⟩
  refine h1 _ ?_
  clear h1 K1
  refine W_seqK fun K2 h2 => ?_
  refine W_seqK fun K3 h3 => ?_
  refine W_reg ?_
  simp [go_sem, ty3, ty4, ty23, ty103]
  repeat refine ⟨by first | omega | grind, ?_⟩
  refine h3 _ ?_
  clear h3 K3
  refine W_cond rfl (fun hb4 => ?_) fun hb4 => ?_
  · have hne : xs ≠ ys := ne_of_len (by simp at hb4; omega)
    refine W_seqK fun K5 h5 => ?_
    refine W_reg ?_
    simp [go_sem, ty4]
    repeat refine ⟨by first | omega | grind, ?_⟩
    refine h5 _ ?_
    clear h5 K5
    refine W_ret ?_
    simp [go_sem, hne]
  · have hl : xs.length = ys.length := by simp at hb4; omega
    clear hb4
    refine W_skip ?_
    repeat refine ⟨by first | omega | grind, ?_⟩
    refine h2 _ ?_
    clear h2 K2
    refine W_seqK fun K6 h6 => ?_
    refine W_seqK fun K7 h7 => ?_
    refine W_reg ?_
    simp [go_sem, ty3]
    repeat refine ⟨by first | omega | grind, ?_⟩
    refine h7 _ ?_
    clear h7 K7
    refine W_block ?_
    refine W_loopI (α := Nat) (fun i => ({ env := [(0, true, .l (.ref 0 [] 5 0 (xs.length))), (1, true, .l (.ref 1 [] 5 0 (ys.length))), (5, true, .l (.t (.int .i64 (i))))], box := [], row := [(0, ⟨.ro, 5, enc eNode xs⟩), (1, ⟨.ro, 5, enc eNode ys⟩)], nxt := 2, sav := [] } : St)) (fun i => i ≤ xs.length ∧ xs.take i = ys.take i) (fun i => xs.length - i) 0 ?_ ?_ ?_
    · exact Sub.of_neat [0, 1, 5] [0, 1] [] 2 (by decide) (by simp [go_sem])
    · simp
    rintro i hinv
    obtain ⟨hi, htk⟩ := hinv
    refine W_seqK fun K9 h9 => ?_
    refine W_seqK fun K10 h10 => ?_
    refine W_reg ?_
    simp [go_sem, ty3, ty4, ty23, ty103]
    repeat refine ⟨by first | omega | grind, ?_⟩
    refine h10 _ ?_
    clear h10 K10
    refine W_cond rfl (fun hb11 => ?_) fun hb11 => ?_
    · have hlt : i < xs.length := by simpa using hb11
      have hlt2 : i < ys.length := hl ▸ hlt
      clear hb11
      refine W_skip ?_
      repeat refine ⟨by first | omega | grind, ?_⟩
      refine h9 _ ?_
      clear h9 K9
      refine W_seqK fun K12 h12 => ?_
      refine W_block ?_
      refine W_seqK fun K13 h13 => ?_
      refine W_drawT true mixed (by decide +kernel) ?_
      simp [go_sem, ty3, ty4, ty23, ty103, hlt, hlt2]
      refine callG_pc (fun hG => pc_laws_eqNode xs[i] ys[i] (hq _ (List.getElem_mem hlt))) (by first | (simp; done) | (simp [inR_iff]; done) | (simp [inR_iff]; grind) | grind) (fun hG => by simp [go_sem, hlt, hlt2]) rfl rfl (by first | exact Or.inl rfl | exact Or.inr rfl) ?_
      simp [go_sem, ty4, hlt, hlt2]
      repeat refine ⟨by first | omega | grind, ?_⟩
      refine h13 _ ?_
      clear h13 K13
      refine W_cond rfl (fun hb14 => ?_) fun hb14 => ?_
      · have hne : xs ≠ ys := ne_of_get hlt hlt2 (by simpa [hlt, hlt2] using hb14)
        refine W_seqK fun K15 h15 => ?_
        refine W_reg ?_
        simp [go_sem, ty4]
        repeat refine ⟨by first | omega | grind, ?_⟩
        refine h15 _ ?_
        clear h15 K15
        refine W_ret ?_
        simp [go_sem, hne]
      · have he : xs[i] = ys[i] := by simpa [hlt, hlt2] using hb14
        clear hb14
        refine W_skip ?_
        repeat refine ⟨by first | omega | grind, ?_⟩
        refine h12 _ ?_
        clear h12 K12
        refine W_reg ?_
        simp [go_sem, ty3]
        refine ⟨i + 1, ?_, ?_, ?_⟩
        · exact Sub.of_neat [0, 1, 5] [0, 1] [] 2 (by decide) (by simp [go_sem, wrap_succ (show i < 9223372036854775807 by omega)])
        · exact ⟨hlt, take_succ_eq htk hlt hlt2 he⟩
        · omega
    · obtain rfl : i = xs.length := by simp at hb11; omega
      have hxy : xs = ys := eq_of_take hl htk
      clear hb11
      refine W_exit ?_
      simp [go_sem]
      repeat refine ⟨by first | omega | grind, ?_⟩
      refine h6 _ ?_
      clear h9 K9 h6 K6
      refine W_seqK fun K16 h16 => ?_
      refine W_reg ?_
      simp [go_sem, ty4]
      repeat refine ⟨by first | omega | grind, ?_⟩
      refine h16 _ ?_
      clear h16 K16
      refine W_ret ?_
      simp [go_sem, hxy]

set_option maxRecDepth 100000 in
set_option maxHeartbeats 4000000 in
theorem pc_laws_eqWorld (x : GWorld) (y : GWorld) (hq : x.small) : PC Try.prog 65 [(true, eWorld x), (true, eWorld y)] [(false, [.bool (decide (x = y))])] := by
  unfold GWorld.small at hq
  obtain ⟨q0, q1, q2, q3⟩ := hq
  refine PC_of (n := 22) Try.func65 rfl rfl rfl rfl (by simp) ?_
  refine W_seqK fun K1 h1 => ?_
  refine W_reg ?_
  simp [go_sem, ty4, ty26]
  repeat refine ⟨by first | omega | grind, ?_⟩
  refine h1 _ ?_
  clear h1 K1
  refine W_seqK fun K2 h2 => ?_
  refine W_seqK fun K3 h3 => ?_
  refine W_reg ?_
  simp [go_sem, ty3, ty4, ty26]
  repeat refine ⟨by first | omega | grind, ?_⟩
  refine h3 _ ?_
  clear h3 K3
  refine W_cond rfl (fun hb4 => ?_) fun hb4 => ?_
  · try simp at hb4
    refine W_seqK fun K5 h5 => ?_
    refine W_reg ?_
    simp [go_sem, ty4]
    repeat refine ⟨by first | omega | grind, ?_⟩
    refine h5 _ ?_
    clear h5 K5
    refine W_ret ?_
    simp [go_sem, GWorld.ext_iff, hb4]
  · try simp at hb4
    refine W_skip ?_
    repeat refine ⟨by first | omega | grind, ?_⟩
    refine h2 _ ?_
    clear h2 K2
    refine W_seqK fun K6 h6 => ?_
    refine W_seqK fun K7 h7 => ?_
    refine W_reg ?_
    simp [go_sem, ty4, ty23, ty26, ty103]
    refine callG_pc (fun hG => pc_laws_eqNodeS x.nodes y.nodes (by first | omega | assumption | (simp only [a0]; omega) | (simp only [a0, a1]; omega) | (simp only [a0, a1, a2]; omega) | (simp_all; done)) (by first | omega | assumption | (simp only [a0]; omega) | (simp only [a0, a1]; omega) | (simp only [a0, a1, a2]; omega) | (simp_all; done))) (by first | (simp; done) | (simp [inR_iff]; done) | (simp [inR_iff]; grind) | grind) (fun hG => by simp [go_sem]) rfl rfl (by first | exact Or.inl rfl | exact Or.inr rfl) ?_
    simp [go_sem, ty4]
    repeat refine ⟨by first | omega | grind, ?_⟩
    refine h7 _ ?_
    clear h7 K7
    refine W_cond rfl (fun hb8 => ?_) fun hb8 => ?_
    · try simp at hb8
      refine W_seqK fun K9 h9 => ?_
      refine W_reg ?_
      simp [go_sem, ty4]
      repeat refine ⟨by first | omega | grind, ?_⟩
      refine h9 _ ?_
      clear h9 K9
      refine W_ret ?_
      simp [go_sem, GWorld.ext_iff, hb4, hb8]
    · try simp at hb8
      refine W_skip ?_
      repeat refine ⟨by first | omega | grind, ?_⟩
      refine h6 _ ?_
      clear h6 K6
      refine W_seqK fun K10 h10 => ?_
      refine W_seqK fun K11 h11 => ?_
      refine W_reg ?_
      simp [go_sem, ty4, ty24, ty26, ty191]
      refine callG_pc (fun hG => pc_laws_eqPacketS x.net y.net (by first | omega | assumption | (simp only [a0]; omega) | (simp only [a0, a1]; omega) | (simp only [a0, a1, a2]; omega) | (simp_all; done)) (by first | omega | assumption | (simp only [a0]; omega) | (simp only [a0, a1]; omega) | (simp only [a0, a1, a2]; omega) | (simp_all; done))) (by first | (simp; done) | (simp [inR_iff]; done) | (simp [inR_iff]; grind) | grind) (fun hG => by simp [go_sem]) rfl rfl (by first | exact Or.inl rfl | exact Or.inr rfl) ?_
      simp [go_sem, ty4]
      repeat refine ⟨by first | omega | grind, ?_⟩
      refine h11 _ ?_
      clear h11 K11
      refine W_cond rfl (fun hb12 => ?_) fun hb12 => ?_
      · try simp at hb12
        refine W_seqK fun K13 h13 => ?_
        refine W_reg ?_
        simp [go_sem, ty4]
        repeat refine ⟨by first | omega | grind, ?_⟩
        refine h13 _ ?_
        clear h13 K13
        refine W_ret ?_
        simp [go_sem, GWorld.ext_iff, hb4, hb8, hb12]
      · try simp at hb12
        refine W_skip ?_
        repeat refine ⟨by first | omega | grind, ?_⟩
        refine h10 _ ?_
        clear h10 K10
        refine W_seqK fun K14 h14 => ?_
        refine W_reg ?_
        simp [go_sem, ty4]
        repeat refine ⟨by first | omega | grind, ?_⟩
        refine h14 _ ?_
        clear h14 K14
        refine W_ret ?_
        simp [go_sem, GWorld.ext_iff, hb4, hb8, hb12]
end Go.Tw
