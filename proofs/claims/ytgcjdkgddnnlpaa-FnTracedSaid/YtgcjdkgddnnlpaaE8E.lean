/- Walks of functions: impl.Redo, spec.Redo, impl.TraceOk, spec.TraceOk -/
import Derived.Test.YtgcjdkgddnnlpaaE7R
import Derived.Test.YtgcjdkgddnnlpaaE8D
import Derived.Test.YtgcjdkgddnnlpaaE6g2
import Derived.Test.YtgcjdkgddnnlpaaBaseG
set_option linter.unusedSimpArgs false
set_option linter.unusedVariables false
set_option linter.unnecessarySimpa false
namespace Go.Tw
open Go.Proofs

set_option maxRecDepth 100000 in
set_option maxHeartbeats 4000000 in
theorem pc_impl_Redo (xs : List Int) (es : List GEvent) (hx : xs.length ≤ 1048576) (he : es.length ≤ 1048576) : PC Try.prog 52 [(false, [.sl 1 (enc eI xs)]), (false, [.sl 5 (enc eEvent es)])] [(false, [.sl 1 (enc eI (redo xs es))])] := by
  refine PC_of (n := 36) Try.func52 rfl rfl rfl rfl (by simp) ?_
  refine W_seqK fun K1 h1 => ?_
  refine W_reg ?_
  simp [go_sem, ty3, ty22]
  repeat refine ⟨by first | omega | grind, ?_⟩
  refine h1 _ ?_
  clear h1 K1
  refine W_seqK fun K2 h2 => ?_
  refine W_reg ?_
  simp [go_sem, ty3, ty22]
  refine callG_pc (fun hG => pc_slices_Clone_int_int xs (by omega)) (by first | (simp; done) | (simp [inR_iff]; done) | (simp [inR_iff]; grind) | grind) (fun hG => by simp [go_sem]) rfl rfl (by first | exact Or.inl rfl | exact Or.inr rfl) ?_
  simp [go_sem, ty3, ty22]
  repeat refine ⟨by first | omega | grind, ?_⟩
  refine h2 _ ?_
  clear h2 K2
  refine W_seqK fun K3 h3 => ?_
  refine W_seqK fun K4 h4 => ?_
  refine W_reg ?_
  simp [go_sem, ty3, ty4, ty22]
  repeat refine ⟨by first | omega | grind, ?_⟩
  refine h4 _ ?_
  clear h4 K4
  refine W_cond rfl (fun hb5 => ?_) fun hb5 => ?_
  · have h24 : xs.length ≠ 24 := by simp at hb5; omega
    refine W_seqK fun K6 h6 => ?_
    refine W_reg ?_
    simp [go_sem, ty3, ty22]
    repeat refine ⟨by first | omega | grind, ?_⟩
    refine h6 _ ?_
    clear h6 K6
    refine W_ret ?_
    simp [go_sem, redo, h24]
  · have h24 : xs.length = 24 := by simp at hb5; omega
    clear hb5
    refine W_skip ?_
    repeat refine ⟨by first | omega | grind, ?_⟩
    refine h3 _ ?_
    clear h3 K3
    refine W_seqK fun K7 h7 => ?_
    refine W_seqK fun K8 h8 => ?_
    refine W_reg ?_
    simp [go_sem, ty3, ty41, ty54]
    repeat refine ⟨by first | omega | grind, ?_⟩
    refine h8 _ ?_
    clear h8 K8
    refine W_block ?_
    refine W_loopI (α := Nat) (fun i => ({ env := [(5, true, .l (.ref 2 [] 1 0 (xs.length))), (14, true, .l (.ref 1 [] 5 0 (es.length))), (15, true, .l (.t (.int .i64 (es.length)))), (16, true, .l (.t (.int .i64 (i))))], box := [], row := [(2, ⟨.own, 1, enc eI (redoN xs es i)⟩), (0, ⟨.ro, 1, enc eI xs⟩), (1, ⟨.ro, 5, enc eEvent es⟩)], nxt := 3, sav := [] } : St)) (fun i => i ≤ es.length ∧ (0 < i → xs.length = 24)) (fun i => es.length - i) 0 ?_ ?_ ?_
    · exact Sub.of_neat [5, 14, 15, 16] [2, 0, 1] [] 3 (by decide) (by simp [go_sem, redoN])
    · simp
    rintro i hinv
    have hu := redoN_len xs es i
    refine W_seqK fun K10 h10 => ?_
    refine W_reg ?_
    simp [go_sem, ty3]
    repeat refine ⟨by first | omega | grind, ?_⟩
    refine h10 _ ?_
    clear h10 K10
    refine W_seqK fun K11 h11 => ?_
    refine W_cond rfl (fun hb12 => ?_) fun hb12 => ?_
    · have hlt : i < es.length := by simpa using hb12
      clear hb12
      refine W_skip ?_
      repeat refine ⟨by first | omega | grind, ?_⟩
      refine h11 _ ?_
      clear h11 K11
      refine W_seqK fun K13 h13 => ?_
      refine W_block ?_
      refine W_seqK fun K14 h14 => ?_
      refine W_reg ?_
      simp [go_sem, ty41, ty54, hlt]
      repeat refine ⟨by first | omega | grind, ?_⟩
      refine h14 _ ?_
      clear h14 K14
      refine W_seqK fun K15 h15 => ?_
      refine W_reg ?_
      simp [go_sem, ty3, ty4, ty54, hlt]
      refine callG_pc (fun hG => pc_impl_isCell es[i].at_) (by first | (simp; done) | (simp [inR_iff]; done) | (simp [inR_iff]; grind) | grind) (fun hG => by simp [go_sem]) rfl rfl (by first | exact Or.inl rfl | exact Or.inr rfl) ?_
      simp [go_sem, ty3, ty4, ty54, hlt]
      refine callG_pc (fun hG => pc_impl_isWord es[i].put) (by first | (simp; done) | (simp [inR_iff]; done) | (simp [inR_iff]; grind) | grind) (fun hG => by simp [go_sem]) rfl rfl (by first | exact Or.inl rfl | exact Or.inr rfl) ?_
      simp [go_sem, ty4, hlt]
      repeat refine ⟨by first | omega | grind, ?_⟩
      refine h15 _ ?_
      clear h15 K15
      refine W_cond rfl (fun hb16 => ?_) fun hb16 => ?_
      · have hb : (0 ≤ es[i].at_ ∧ es[i].at_ ≤ 23) ∧ (0 ≤ es[i].put ∧ es[i].put ≤ 65535) := by simp [inR] at hb16; omega
        have hst : (redoN xs es i).set es[i].at_.toNat es[i].put = redoN xs es (i + 1) := (redoN_step hlt hb).symm
        have hcell : es[i].at_.toNat < xs.length := by omega
        clear hb16
        refine W_reg ?_
        simp [go_sem, ty3, ty22, ty54, hb, hu, h24]
        refine ⟨by omega, ?_⟩
        repeat refine ⟨by first | omega | grind, ?_⟩
        refine h13 _ ?_
        clear h13 K13
        refine W_reg ?_
        simp [go_sem, ty3, hst, wrap_succ (show i < 9223372036854775807 by omega)]
        refine ⟨i + 1, ?_, ?_, ?_⟩
        · exact Sub.of_neat [5, 14, 15, 16] [2, 0, 1] [] 3 (by decide) (by simp [go_sem, h24])
        · exact ⟨hlt, fun _ => h24⟩
        · omega
      · have hb : ¬ ((0 ≤ es[i].at_ ∧ es[i].at_ ≤ 23) ∧ (0 ≤ es[i].put ∧ es[i].put ≤ 65535)) := by simp [inR] at hb16; omega
        have hst : redoN xs es i = redoN xs es (i + 1) := (redoN_skip hlt hb).symm
        clear hb16
        refine W_skip ?_
        repeat refine ⟨by first | omega | grind, ?_⟩
        refine h13 _ ?_
        clear h13 K13
        refine W_reg ?_
        simp [go_sem, ty3, hst, wrap_succ (show i < 9223372036854775807 by omega)]
        refine ⟨i + 1, ?_, ?_, ?_⟩
        · exact Sub.of_neat [5, 14, 15, 16] [2, 0, 1] [] 3 (by decide) (by simp [go_sem, h24])
        · exact ⟨hlt, fun _ => h24⟩
        · omega
    · obtain rfl : i = es.length := by simp at hb12; omega
      clear hb12
      have hc : redo xs es = redoN xs es es.length := if_pos h24
      refine W_exit ?_
      simp [go_sem]
      repeat refine ⟨by first | omega | grind, ?_⟩
      refine h7 _ ?_
      clear h11 K11 h7 K7
      refine W_seqK fun K17 h17 => ?_
      refine W_reg ?_
      simp [go_sem, ty3, ty22]
      repeat refine ⟨by first | omega | grind, ?_⟩
      refine h17 _ ?_
      clear h17 K17
      refine W_ret ?_
      simp [go_sem, hc, hu]

set_option maxRecDepth 100000 in
set_option maxHeartbeats 4000000 in
theorem pc_spec_Redo (xs : List Int) (es : List GEvent) (hx : xs.length ≤ 1048576) (he : es.length ≤ 1048576) : PC Try.prog 53 [(false, [.sl 1 (enc eI xs)]), (false, [.sl 5 (enc eEvent es)])] [(false, [.sl 1 (enc eI (redo xs es))])] := by
  refine PC_of (n := 48) Try.func53 rfl rfl rfl rfl (by simp) ?_
  refine W_seqK fun K1 h1 => ?_
  refine W_reg ?_
  simp [go_sem, ty3, ty22]
  repeat refine ⟨by first | omega | grind, ?_⟩
  refine h1 _ ?_
  clear h1 K1
  refine W_seqK fun K2 h2 => ?_
  refine W_reg ?_
  simp [go_sem, ty3, ty22]
  repeat refine ⟨by first | omega | grind, ?_⟩
  refine h2 _ ?_
  clear h2 K2
  refine W_seqK fun K3 h3 => ?_
  refine W_seqK fun K4 h4 => ?_
  refine W_reg ?_
  simp [go_sem, ty3]
  repeat refine ⟨by first | omega | grind, ?_⟩
  refine h4 _ ?_
  clear h4 K4
  refine W_block ?_
  refine W_loopI (α := Nat) (fun i => ({ env := [(0, true, .l (.ref 0 [] 1 0 (xs.length))), (1, true, .l (.ref 1 [] 5 0 (es.length))), (5, true, .l (.ref 3 [] 1 0 (xs.length))), (6, true, .l (.t (.int .i64 (i))))], box := [], row := [(3, ⟨.own, 1, enc eI (redoN xs es i)⟩), (0, ⟨.ro, 1, enc eI xs⟩), (1, ⟨.ro, 5, enc eEvent es⟩)], nxt := 4, sav := [] } : St)) (fun i => i ≤ es.length ∧ (0 < i → xs.length = 24)) (fun i => es.length - i) 0 ?_ ?_ ?_
  · exact Sub.of_neat [0, 1, 5, 6] [3, 0, 1] [] 4 (by decide) (by simp [go_sem, redoN])
  · simp
  rintro i hinv
  have hu := redoN_len xs es i
  refine W_seqK fun K6 h6 => ?_
  refine W_seqK fun K7 h7 => ?_
  refine W_reg ?_
  simp [go_sem, ty3, ty4, ty22, ty41, ty54]
  repeat refine ⟨by first | omega | grind, ?_⟩
  refine h7 _ ?_
  clear h7 K7
  refine W_cond rfl (fun hb8 => ?_) fun hb8 => ?_
  · obtain ⟨hlt, h24⟩ : i < es.length ∧ xs.length = 24 := by simp at hb8; omega
    clear hb8
    refine W_skip ?_
    repeat refine ⟨by first | omega | grind, ?_⟩
    refine h6 _ ?_
    clear h6 K6
    refine W_seqK fun K9 h9 => ?_
    refine W_block ?_
    refine W_seqK fun K10 h10 => ?_
    refine W_reg ?_
    simp [go_sem, ty3, ty4, ty41, ty54, hlt]
    refine callG_pc (fun hG => pc_spec_l1In es[i].at_ 0 23) (by first | (simp; done) | (simp [inR_iff]; done) | (simp [inR_iff]; grind) | grind) (fun hG => by simp [go_sem]) rfl rfl (by first | exact Or.inl rfl | exact Or.inr rfl) ?_
    simp [go_sem, ty3, ty4, ty41, ty54, hlt]
    refine callG_pc (fun hG => pc_spec_l1In es[i].put 0 65535) (by first | (simp; done) | (simp [inR_iff]; done) | (simp [inR_iff]; grind) | grind) (fun hG => by simp [go_sem]) rfl rfl (by first | exact Or.inl rfl | exact Or.inr rfl) ?_
    simp [go_sem, ty4, hlt]
    repeat refine ⟨by first | omega | grind, ?_⟩
    refine h10 _ ?_
    clear h10 K10
    refine W_cond rfl (fun hb11 => ?_) fun hb11 => ?_
    · have hb : (0 ≤ es[i].at_ ∧ es[i].at_ ≤ 23) ∧ (0 ≤ es[i].put ∧ es[i].put ≤ 65535) := by simp [inR] at hb11; omega
      have hst : (redoN xs es i).set es[i].at_.toNat es[i].put = redoN xs es (i + 1) := (redoN_step hlt hb).symm
      have hcell : es[i].at_.toNat < xs.length := by omega
      clear hb11
      refine W_drawT true mixed (by decide +kernel) ?_
      simp [go_sem, ty3, ty22, ty41, ty54, hlt, hb, hu, h24]
      refine ⟨by omega, ?_⟩
      repeat refine ⟨by first | omega | grind, ?_⟩
      refine h9 _ ?_
      clear h9 K9
      refine W_reg ?_
      simp [go_sem, ty3, hst, wrap_succ (show i < 9223372036854775807 by omega)]
      refine ⟨i + 1, ?_, ?_, ?_⟩
      · exact Sub.of_neat [0, 1, 5, 6] [3, 0, 1] [] 4 (by decide) (by simp [go_sem, h24])
      · exact ⟨hlt, fun _ => h24⟩
      · omega
    · have hb : ¬ ((0 ≤ es[i].at_ ∧ es[i].at_ ≤ 23) ∧ (0 ≤ es[i].put ∧ es[i].put ≤ 65535)) := by simp [inR] at hb11; omega
      have hst : redoN xs es i = redoN xs es (i + 1) := (redoN_skip hlt hb).symm
      clear hb11
      refine W_skip ?_
      repeat refine ⟨by first | omega | grind, ?_⟩
      refine h9 _ ?_
      clear h9 K9
      refine W_reg ?_
      simp [go_sem, ty3, hst, wrap_succ (show i < 9223372036854775807 by omega)]
      refine ⟨i + 1, ?_, ?_, ?_⟩
      · exact Sub.of_neat [0, 1, 5, 6] [3, 0, 1] [] 4 (by decide) (by simp [go_sem, h24])
      · exact ⟨hlt, fun _ => h24⟩
      · omega
  · have hc : redo xs es = redoN xs es i := by
        obtain ⟨h1, h2⟩ := hinv
        simp at hb8
        by_cases h24 : xs.length = 24
        · obtain rfl : i = es.length := by omega
          rw [redo, if_pos h24]
        · obtain rfl : i = 0 := by omega
          rw [redo, if_neg h24]
          rfl
    clear hb8
    refine W_exit ?_
    simp [go_sem]
    repeat refine ⟨by first | omega | grind, ?_⟩
    refine h3 _ ?_
    clear h6 K6 h3 K3
    refine W_seqK fun K12 h12 => ?_
    refine W_reg ?_
    simp [go_sem, ty3, ty22]
    repeat refine ⟨by first | omega | grind, ?_⟩
    refine h12 _ ?_
    clear h12 K12
    refine W_ret ?_
    simp [go_sem, hc, hu]

set_option maxRecDepth 100000 in
set_option maxHeartbeats 4000000 in
theorem pc_impl_TraceOk (xs : List Int) (es : List GEvent) (hx : xs.length ≤ 1048576) (he : es.length ≤ 1048576) : PC Try.prog 54 [(false, [.sl 1 (enc eI xs)]), (false, [.sl 5 (enc eEvent es)])] [(false, [.bool (traceOk xs es)])] := by
  refine PC_of (n := 79) Try.func54 rfl rfl rfl rfl (by simp) ?_
  refine W_seqK fun K1 h1 => ?_
  refine W_reg ?_
  simp [go_sem, ty4]
  repeat refine ⟨by first | omega | grind, ?_⟩
  refine h1 _ ?_
  clear h1 K1
  refine W_seqK fun K2 h2 => ?_
  refine W_seqK fun K3 h3 => ?_
  refine W_reg ?_
  simp [go_sem, ty3, ty4, ty22]
  refine callG_pc (fun hG => pc_impl_memOk xs (by omega)) (by first | (simp; done) | (simp [inR_iff]; done) | (simp [inR_iff]; grind) | grind) (fun hG => by simp [go_sem]) rfl rfl (by first | exact Or.inl rfl | exact Or.inr rfl) ?_
  simp [go_sem, ty4]
  repeat refine ⟨by first | omega | grind, ?_⟩
  refine h3 _ ?_
  clear h3 K3
  refine W_cond rfl (fun hb4 => ?_) fun hb4 => ?_
  · have hr : traceOk xs es = false := by simp at hb4; unfold traceOk; rw [hb4]; rfl
    refine W_seqK fun K5 h5 => ?_
    refine W_reg ?_
    simp [go_sem, ty4]
    repeat refine ⟨by first | omega | grind, ?_⟩
    refine h5 _ ?_
    clear h5 K5
    refine W_ret ?_
    simp [go_sem, hr]
  · have hw : wordsOk xs 24 = true := by simpa using hb4
    have h24 := wordsOk_len hw
    clear hb4
    refine W_skip ?_
    repeat refine ⟨by first | omega | grind, ?_⟩
    refine h2 _ ?_
    clear h2 K2
    refine W_seqK fun K6 h6 => ?_
    refine W_reg ?_
    simp [go_sem, ty3, ty22]
    refine callG_pc (fun hG => pc_slices_Clone_int_int xs (by omega)) (by first | (simp; done) | (simp [inR_iff]; done) | (simp [inR_iff]; grind) | grind) (fun hG => by simp [go_sem]) rfl rfl (by first | exact Or.inl rfl | exact Or.inr rfl) ?_
    simp [go_sem, ty3, ty22]
    repeat refine ⟨by first | omega | grind, ?_⟩
    refine h6 _ ?_
    clear h6 K6
    refine W_seqK fun K7 h7 => ?_
    refine W_seqK fun K8 h8 => ?_
    refine W_reg ?_
    simp [go_sem, ty3, ty41, ty54]
    repeat refine ⟨by first | omega | grind, ?_⟩
    refine h8 _ ?_
    clear h8 K8
    refine W_block ?_
    refine W_loopI (α := Nat) (fun i => ({ env := [(0, true, .l (.ref 3 [] 1 0 (xs.length))), (12, true, .l (.ref 1 [] 5 0 (es.length))), (13, true, .l (.t (.int .i64 (es.length)))), (14, true, .l (.t (.int .i64 (i))))], box := [], row := [(3, ⟨.own, 1, enc eI (redoN xs es i)⟩), (1, ⟨.ro, 5, enc eEvent es⟩)], nxt := 4, sav := [] } : St)) (fun i => i ≤ es.length ∧ ∀ j, (hj : j < es.length) → j < i → okEv (redoN xs es j) es[j] = true) (fun i => es.length - i) 0 ?_ ?_ ?_
    · exact Sub.of_neat [0, 12, 13, 14] [3, 1] [] 4 (by decide) (by simp [go_sem, redoN])
    · simp
    rintro i hinv
    obtain ⟨hi, hall⟩ := hinv
    have hu := redoN_len xs es i
    refine W_seqK fun K10 h10 => ?_
    refine W_reg ?_
    simp [go_sem, ty3]
    repeat refine ⟨by first | omega | grind, ?_⟩
    refine h10 _ ?_
    clear h10 K10
    refine W_seqK fun K11 h11 => ?_
    refine W_cond rfl (fun hb12 => ?_) fun hb12 => ?_
    · have hlt : i < es.length := by simpa using hb12
      clear hb12
      refine W_skip ?_
      repeat refine ⟨by first | omega | grind, ?_⟩
      refine h11 _ ?_
      clear h11 K11
      refine W_seqK fun K13 h13 => ?_
      refine W_block ?_
      refine W_seqK fun K14 h14 => ?_
      refine W_reg ?_
      simp [go_sem, ty41, ty54, hlt]
      repeat refine ⟨by first | omega | grind, ?_⟩
      refine h14 _ ?_
      clear h14 K14
      refine W_seqK fun K15 h15 => ?_
      refine W_seqK fun K16 h16 => ?_
      refine W_reg ?_
      simp [go_sem, ty3, ty4, ty54, hlt]
      repeat refine ⟨by first | omega | grind, ?_⟩
      refine h16 _ ?_
      clear h16 K16
      refine W_cond rfl (fun hb17 => ?_) fun hb17 => ?_
      · have ha : es[i].at_ = -1 := by simpa using hb17
        clear hb17
        refine W_seqK fun K18 h18 => ?_
        refine W_seqK fun K19 h19 => ?_
        refine W_reg ?_
        simp [go_sem, ty3, ty4, ty54]
        repeat refine ⟨by first | omega | grind, ?_⟩
        refine h19 _ ?_
        clear h19 K19
        refine W_cond rfl (fun hb20 => ?_) fun hb20 => ?_
        · have hr : traceOk xs es = false := traceOk_bad hlt (by unfold okEv; rw [if_pos ha]; simp at hb20 ⊢; omega)
          refine W_seqK fun K21 h21 => ?_
          refine W_reg ?_
          simp [go_sem, ty4]
          repeat refine ⟨by first | omega | grind, ?_⟩
          refine h21 _ ?_
          clear h21 K21
          refine W_ret ?_
          simp [go_sem, hr]
        · have hok : okEv (redoN xs es i) es[i] = true := by unfold okEv; rw [if_pos ha]; simp at hb20 ⊢; omega
          have hst : redoN xs es i = redoN xs es (i + 1) := (redoN_skip hlt (by omega)).symm
          clear hb20
          refine W_skip ?_
          repeat refine ⟨by first | omega | grind, ?_⟩
          refine h18 _ ?_
          clear h18 K18
          refine W_exit ?_
          simp [go_sem]
          repeat refine ⟨by first | omega | grind, ?_⟩
          refine h13 _ ?_
          clear h15 K15 h13 K13
          refine W_reg ?_
          simp [go_sem, ty3, hst, wrap_succ (show i < 9223372036854775807 by omega)]
          refine ⟨i + 1, ?_, ?_, ?_⟩
          · exact Sub.of_neat [0, 12, 13, 14] [3, 1] [] 4 (by decide) (by simp [go_sem])
          · exact ⟨hlt, fun j hj hji => by rcases Nat.lt_succ_iff_lt_or_eq.1 hji with h | rfl; exact hall j hj h; exact hok⟩
          · omega
      · have ha : ¬ es[i].at_ = -1 := by simpa using hb17
        clear hb17
        refine W_skip ?_
        repeat refine ⟨by first | omega | grind, ?_⟩
        refine h15 _ ?_
        clear h15 K15
        refine W_seqK fun K22 h22 => ?_
        refine W_seqK fun K23 h23 => ?_
        refine W_drawT true mixed (by decide +kernel) ?_
        simp (config := {maxSteps := 10000000}) [go_sem, ty3, ty4, ty54, hlt, hu]
        refine callG_pc (fun hG => pc_impl_isCell es[i].at_) (by first | (simp; done) | (simp [inR_iff]; done) | (simp [inR_iff]; grind) | grind) (fun hG => by simp [go_sem]) rfl rfl (by first | exact Or.inl rfl | exact Or.inr rfl) ?_
        simp (config := {maxSteps := 10000000}) [go_sem, ty3, ty4, ty22, ty54, hlt, hu]
        repeat (refine ⟨by first | omega | grind, ?_⟩)
        refine callG_pc (fun hG => pc_impl_isWord es[i].put) (by first | (simp; done) | (simp [inR_iff]; done) | (simp [inR_iff]; grind) | grind) (fun hG => by simp [go_sem]) rfl rfl (by first | exact Or.inl rfl | exact Or.inr rfl) ?_
        simp (config := {maxSteps := 10000000}) [go_sem, ty4, hlt, hu]
        repeat refine ⟨by first | omega | grind, ?_⟩
        refine h23 _ ?_
        clear h23 K23
        refine W_cond rfl (fun hb24 => ?_) fun hb24 => ?_
        · have hr : traceOk xs es = false := traceOk_bad hlt (by unfold okEv; rw [if_neg ha]; simp [isW, inR] at hb24 ⊢; grind)
          refine W_seqK fun K25 h25 => ?_
          refine W_reg ?_
          simp [go_sem, ty4]
          repeat refine ⟨by first | omega | grind, ?_⟩
          refine h25 _ ?_
          clear h25 K25
          refine W_ret ?_
          simp [go_sem, hr]
        · have hok : okEv (redoN xs es i) es[i] = true := by unfold okEv; rw [if_neg ha]; simp [isW, inR] at hb24 ⊢; grind
          clear hb24
          refine W_skip ?_
          repeat refine ⟨by first | omega | grind, ?_⟩
          refine h22 _ ?_
          clear h22 K22
          refine W_seqK fun K26 h26 => ?_
          refine W_reg ?_
          simp [go_sem, ty3, ty4, ty54, hlt]
          repeat refine ⟨by first | omega | grind, ?_⟩
          refine h26 _ ?_
          clear h26 K26
          refine W_cond rfl (fun hb27 => ?_) fun hb27 => ?_
          · have hb : (0 ≤ es[i].at_ ∧ es[i].at_ ≤ 23) ∧ (0 ≤ es[i].put ∧ es[i].put ≤ 65535) := by unfold okEv at hok; rw [if_neg ha] at hok; simp [isW, inR] at hok hb27; omega
            have hst : (redoN xs es i).set es[i].at_.toNat es[i].put = redoN xs es (i + 1) := (redoN_step hlt hb).symm
            clear hb27
            refine W_reg ?_
            simp [go_sem, ty3, ty22, ty54, hlt, hu, hb]
            refine ⟨by omega, ?_⟩
            repeat refine ⟨by first | omega | grind, ?_⟩
            refine h13 _ ?_
            clear h13 K13
            refine W_reg ?_
            simp [go_sem, ty3, hst, wrap_succ (show i < 9223372036854775807 by omega)]
            refine ⟨i + 1, ?_, ?_, ?_⟩
            · exact Sub.of_neat [0, 12, 13, 14] [3, 1] [] 4 (by decide) (by simp [go_sem])
            · exact ⟨hlt, fun j hj hji => by rcases Nat.lt_succ_iff_lt_or_eq.1 hji with h | rfl; exact hall j hj h; exact hok⟩
            · omega
          · have hb : es[i].put = -1 := by simpa using hb27
            have hst : redoN xs es i = redoN xs es (i + 1) := (redoN_skip hlt (by omega)).symm
            clear hb27
            refine W_skip ?_
            repeat refine ⟨by first | omega | grind, ?_⟩
            refine h13 _ ?_
            clear h13 K13
            refine W_reg ?_
            simp [go_sem, ty3, hst, wrap_succ (show i < 9223372036854775807 by omega)]
            refine ⟨i + 1, ?_, ?_, ?_⟩
            · exact Sub.of_neat [0, 12, 13, 14] [3, 1] [] 4 (by decide) (by simp [go_sem])
            · exact ⟨hlt, fun j hj hji => by rcases Nat.lt_succ_iff_lt_or_eq.1 hji with h | rfl; exact hall j hj h; exact hok⟩
            · omega
    · obtain rfl : i = es.length := by simp at hb12; omega
      have hr : traceOk xs es = true := traceOk_good hw fun j hj => hall j hj hj
      clear hb12
      refine W_exit ?_
      simp [go_sem]
      repeat refine ⟨by first | omega | grind, ?_⟩
      refine h7 _ ?_
      clear h11 K11 h7 K7
      refine W_seqK fun K28 h28 => ?_
      refine W_reg ?_
      simp [go_sem, ty4]
      repeat refine ⟨by first | omega | grind, ?_⟩
      refine h28 _ ?_
      clear h28 K28
      refine W_ret ?_
      simp [go_sem, hr]

set_option maxRecDepth 100000 in
set_option maxHeartbeats 4000000 in
theorem pc_spec_TraceOk (xs : List Int) (es : List GEvent) (hx : xs.length ≤ 1048576) (he : es.length ≤ 1048576) : PC Try.prog 55 [(false, [.sl 1 (enc eI xs)]), (false, [.sl 5 (enc eEvent es)])] [(false, [.bool (traceOk xs es)])] := by
  refine PC_of (n := 75) Try.func55 rfl rfl rfl rfl (by simp) ?_
  refine W_seqK fun K1 h1 => ?_
  refine W_reg ?_
  simp [go_sem, ty4]
  repeat refine ⟨by first | omega | grind, ?_⟩
  refine h1 _ ?_
  clear h1 K1
  refine W_seqK fun K2 h2 => ?_
  refine W_seqK fun K3 h3 => ?_
  refine W_reg ?_
  simp [go_sem, ty3, ty4, ty22]
  refine callG_pc (fun hG => pc_spec_l1Words xs 24 (by omega)) (by first | (simp; done) | (simp [inR_iff]; done) | (simp [inR_iff]; grind) | grind) (fun hG => by simp [go_sem]) rfl rfl (by first | exact Or.inl rfl | exact Or.inr rfl) ?_
  simp [go_sem, ty4]
  repeat refine ⟨by first | omega | grind, ?_⟩
  refine h3 _ ?_
  clear h3 K3
  refine W_cond rfl (fun hb4 => ?_) fun hb4 => ?_
  · have hr : traceOk xs es = false := by simp at hb4; unfold traceOk; rw [hb4]; rfl
    refine W_seqK fun K5 h5 => ?_
    refine W_reg ?_
    simp [go_sem, ty4]
    repeat refine ⟨by first | omega | grind, ?_⟩
    refine h5 _ ?_
    clear h5 K5
    refine W_ret ?_
    simp [go_sem, hr]
  · have hw : wordsOk xs 24 = true := by simpa using hb4
    have q24 := wordsOk_len hw
    clear hb4
    refine W_skip ?_
    repeat refine ⟨by first | omega | grind, ?_⟩
    refine h2 _ ?_
    clear h2 K2
    refine W_seqK fun K6 h6 => ?_
    refine W_reg ?_
    simp [go_sem, ty3, ty22]
    repeat refine ⟨by first | omega | grind, ?_⟩
    refine h6 _ ?_
    clear h6 K6
    refine W_seqK fun K7 h7 => ?_
    refine W_seqK fun K8 h8 => ?_
    refine W_reg ?_
    simp [go_sem, ty3]
    repeat refine ⟨by first | omega | grind, ?_⟩
    refine h8 _ ?_
    clear h8 K8
    refine W_block ?_
    refine W_loopI (α := Nat) (fun i => ({ env := [(1, true, .l (.ref 1 [] 5 0 (es.length))), (5, true, .l (.ref 4 [] 1 0 (xs.length))), (6, true, .l (.t (.int .i64 (i))))], box := [], row := [(4, ⟨.own, 1, enc eI (redoN xs es i)⟩), (1, ⟨.ro, 5, enc eEvent es⟩)], nxt := 5, sav := [] } : St)) (fun i => i ≤ es.length ∧ ∀ j, (hj : j < es.length) → j < i → okEv (redoN xs es j) es[j] = true) (fun i => es.length - i) 0 ?_ ?_ ?_
    · exact Sub.of_neat [1, 5, 6] [4, 1] [] 5 (by decide) (by simp [go_sem, redoN])
    · simp
    rintro i hinv
    obtain ⟨hi, hall⟩ := hinv
    have hu := redoN_len xs es i
    refine W_seqK fun K10 h10 => ?_
    refine W_seqK fun K11 h11 => ?_
    refine W_reg ?_
    simp [go_sem, ty3, ty4, ty41, ty54]
    repeat refine ⟨by first | omega | grind, ?_⟩
    refine h11 _ ?_
    clear h11 K11
    refine W_cond rfl (fun hb12 => ?_) fun hb12 => ?_
    · have hlt : i < es.length := by simpa using hb12
      have hv := redoN_get (es := es) (n := i) hw es[i].at_.toNat
      simp only [List.getD_eq_getElem?_getD] at hv
      clear hb12
      refine W_skip ?_
      repeat refine ⟨by first | omega | grind, ?_⟩
      refine h10 _ ?_
      clear h10 K10
      refine W_seqK fun K13 h13 => ?_
      refine W_block ?_
      refine W_seqK fun K14 h14 => ?_
      refine W_reg ?_
      simp [go_sem, ty3, ty41, ty54, hlt]
      repeat refine ⟨by first | omega | grind, ?_⟩
      refine h14 _ ?_
      clear h14 K14
      refine W_seqK fun K15 h15 => ?_
      refine W_seqK fun K16 h16 => ?_
      refine W_drawT true mixed (by decide +kernel) ?_
      simp (config := {maxSteps := 10000000}) [go_sem, ty3, ty4, ty54, hlt, hu]
      refine callG_pc (fun hG => pc_spec_l1In es[i].at_ (-1) 23) (by first | (simp; done) | (simp [inR_iff]; done) | (simp [inR_iff]; grind) | grind) (fun hG => by simp [go_sem]) rfl rfl (by first | exact Or.inl rfl | exact Or.inr rfl) ?_
      simp (config := {maxSteps := 10000000}) [go_sem, ty3, ty4, ty54, hlt, hu]
      repeat (refine ⟨by first | omega | grind, ?_⟩)
      refine callG_pc (fun hG => pc_spec_l1In es[i].put (-1) 65535) (by first | (simp; done) | (simp [inR_iff]; done) | (simp [inR_iff]; grind) | grind) (fun hG => by simp [go_sem]) rfl rfl (by first | exact Or.inl rfl | exact Or.inr rfl) ?_
      simp (config := {maxSteps := 10000000}) [go_sem, ty3, ty4, ty22, ty54, hlt, hu]
      repeat refine ⟨by first | omega | grind, ?_⟩
      refine h16 _ ?_
      clear h16 K16
      refine W_cond rfl (fun hb17 => ?_) fun hb17 => ?_
      · have hr : traceOk xs es = false := traceOk_bad hlt (by unfold okEv; by_cases ha : es[i].at_ = -1 <;> simp [ha, isW, inR] at hb17 ⊢ <;> first | omega | grind)
        refine W_seqK fun K18 h18 => ?_
        refine W_reg ?_
        simp [go_sem, ty4]
        repeat refine ⟨by first | omega | grind, ?_⟩
        refine h18 _ ?_
        clear h18 K18
        refine W_ret ?_
        simp [go_sem, hr]
      · have hok : okEv (redoN xs es i) es[i] = true := by unfold okEv; by_cases ha : es[i].at_ = -1 <;> simp [ha, isW, inR] at hb17 ⊢ <;> first | omega | grind
        have hsl : (es.drop i).take 1 = [es[i]] := by rw [List.drop_eq_getElem_cons hlt]; rfl
        have hone := redoN_one hlt (by omega : (redoN xs es i).length = 24)
        have ht : ((i : Int) + 1).toNat = i + 1 := by omega
        have hwr : IntKind.wrap .i64 ((i : Int) + 1) = (i : Int) + 1 := wrap_succ (by omega)
        have hu2 := redoN_len xs es (i + 1)
        clear hb17
        refine W_skip ?_
        repeat refine ⟨by first | omega | grind, ?_⟩
        refine h15 _ ?_
        clear h15 K15
        refine W_reg ?_
        simp [go_sem, ty3, ty22, ty41, ty54, hlt, hu, hwr, ht, hone, hu2]
        repeat (refine ⟨by first | omega | grind, ?_⟩)
        refine callG_pc (fun hG => pc_spec_Redo (redoN xs es i) [es[i]] (by omega) (by simp)) (by first | (simp; done) | (simp [inR_iff]; done) | (simp [inR_iff]; grind) | grind) (fun hG => by simp [go_sem, hu, hsl, hone, hu2]) rfl rfl (by first | exact Or.inl rfl | exact Or.inr rfl) ?_
        simp [go_sem, ty3, ty22, hlt, hu, hwr, ht, hone, hu2]
        repeat refine ⟨by first | omega | grind, ?_⟩
        refine h13 _ ?_
        clear h13 K13
        refine W_reg ?_
        simp [go_sem, ty3, hone, hu2]
        refine ⟨i + 1, ?_, ?_, ?_⟩
        · exact (Sub.swp_row 9 4 rfl).trans (Sub.of_tidy [1, 5, 6] [4, 1] [] 5 (by decide) (by simp [go_sem, wrap_succ (show i < 9223372036854775807 by omega)]))
        · exact ⟨hlt, fun j hj hji => by rcases Nat.lt_succ_iff_lt_or_eq.1 hji with h | rfl; exact hall j hj h; exact hok⟩
        · omega
    · obtain rfl : i = es.length := by simp at hb12; omega
      have hr : traceOk xs es = true := traceOk_good hw fun j hj => hall j hj hj
      clear hb12
      refine W_exit ?_
      simp [go_sem]
      repeat refine ⟨by first | omega | grind, ?_⟩
      refine h7 _ ?_
      clear h10 K10 h7 K7
      refine W_seqK fun K19 h19 => ?_
      refine W_reg ?_
      simp [go_sem, ty4]
      repeat refine ⟨by first | omega | grind, ?_⟩
      refine h19 _ ?_
      clear h19 K19
      refine W_ret ?_
      simp [go_sem, hr]
end Go.Tw
