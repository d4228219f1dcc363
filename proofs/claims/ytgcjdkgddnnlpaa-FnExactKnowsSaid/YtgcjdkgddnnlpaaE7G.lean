/- Walks of functions: spec.l1Max, spec.ClockNew, spec.ClockJoin, spec.ClockWithin, spec.l20Whos, spec.l20Swap -/
import Derived.Test.YtgcjdkgddnnlpaaE6b
import Derived.Test.YtgcjdkgddnnlpaaBaseF
import Derived.Test.YtgcjdkgddnnlpaaE6c
import Derived.Test.YtgcjdkgddnnlpaaE6e
set_option linter.unusedSimpArgs false
set_option linter.unusedVariables false
set_option linter.unnecessarySimpa false
namespace Go.Tw
open Go.Proofs

set_option maxRecDepth 100000 in
set_option maxHeartbeats 4000000 in
theorem pc_spec_l1Max (x : Int) (y : Int)  : PC Try.prog 134 [(false, [.int .i64 x]), (false, [.int .i64 y])] [(false, [.int .i64 (max x y)])] := by
  refine PC_of (n := 10) Try.func134 rfl rfl rfl rfl (by simp) ?_
  refine W_seqK fun K1 h1 => ?_
  refine W_reg ?_
  simp [go_sem, ty3]
  repeat refine ⟨by first | omega | grind, ?_⟩
  refine h1 _ ?_
  clear h1 K1
  refine W_seqK fun K2 h2 => ?_
  refine W_seqK fun K3 h3 => ?_
  refine W_reg ?_
  simp [go_sem, ty3, ty4]
  repeat refine ⟨by first | omega | grind, ?_⟩
  refine h3 _ ?_
  clear h3 K3
  refine W_cond rfl (fun hb4 => ?_) fun hb4 => ?_
  · have h0 : max x y = x := by simp at hb4; omega
    refine W_seqK fun K5 h5 => ?_
    refine W_reg ?_
    simp [go_sem, ty3]
    repeat refine ⟨by first | omega | grind, ?_⟩
    refine h5 _ ?_
    clear h5 K5
    refine W_ret ?_
    simp [go_sem, h0]
  · have h0 : max x y = y := by simp at hb4; omega
    refine W_skip ?_
    repeat refine ⟨by first | omega | grind, ?_⟩
    refine h2 _ ?_
    clear h2 K2
    refine W_seqK fun K6 h6 => ?_
    refine W_reg ?_
    simp [go_sem, ty3]
    repeat refine ⟨by first | omega | grind, ?_⟩
    refine h6 _ ?_
    clear h6 K6
    refine W_ret ?_
    simp [go_sem, h0]

set_option maxRecDepth 100000 in
set_option maxHeartbeats 4000000 in
theorem pc_spec_ClockNew (n : Int)  : PC Try.prog 76 [(false, [.int .i64 n])] [(false, [.sl 1 (enc eI (clockNew n))])] := by
  refine PC_of (n := 9) Try.func76 rfl rfl rfl rfl (by simp) ?_
  refine W_seqK fun K1 h1 => ?_
  refine W_reg ?_
  simp [go_sem, ty3, ty22]
  repeat refine ⟨by first | omega | grind, ?_⟩
  refine h1 _ ?_
  clear h1 K1
  refine W_seqK fun K2 h2 => ?_
  refine W_seqK fun K3 h3 => ?_
  refine W_reg ?_
  simp [go_sem, ty3, ty4]
  refine callG_pc (fun hG => pc_spec_l1In n 1 8) (by first | (simp; done) | (simp [inR_iff]; done) | (simp [inR_iff]; grind) | grind) (fun hG => by simp [go_sem]) rfl rfl (by first | exact Or.inl rfl | exact Or.inr rfl) ?_
  simp [go_sem, ty4]
  repeat refine ⟨by first | omega | grind, ?_⟩
  refine h3 _ ?_
  clear h3 K3
  refine W_cond rfl (fun hb4 => ?_) fun hb4 => ?_
  · have q : clockNew n = [] := if_neg (by simp [inR] at hb4; omega)
    clear hb4
    refine W_seqK fun K5 h5 => ?_
    refine W_reg ?_
    simp [go_sem, ty3, ty22]
    repeat refine ⟨by first | omega | grind, ?_⟩
    refine h5 _ ?_
    clear h5 K5
    refine W_ret ?_
    simp [go_sem, q, enc_nil]
  · have qn : 1 ≤ n ∧ n ≤ 8 := by simp [inR] at hb4; omega
    have q : clockNew n = List.replicate n.toNat 0 := if_pos qn
    clear hb4
    refine W_skip ?_
    repeat refine ⟨by first | omega | grind, ?_⟩
    refine h2 _ ?_
    clear h2 K2
    refine W_seqK fun K6 h6 => ?_
    refine W_reg ?_
    simp [go_sem, ty3, ty22]
    refine ⟨by omega, ?_⟩
    repeat refine ⟨by first | omega | grind, ?_⟩
    refine h6 _ ?_
    clear h6 K6
    refine W_ret ?_
    simp [go_sem, q]

set_option maxRecDepth 100000 in
set_option maxHeartbeats 4000000 in
theorem pc_spec_ClockJoin (xs : List Int) (ys : List Int) (hx : xs.length ≤ 1048576) : PC Try.prog 78 [(false, [.sl 1 (enc eI xs)]), (false, [.sl 1 (enc eI ys)])] [(false, [.sl 1 (enc eI (clockJoin xs ys))])] := by
  refine PC_of (n := 36) Try.func78 rfl rfl rfl rfl (by simp) ?_
  refine W_seqK fun K1 h1 => ?_
  refine W_reg ?_
  simp [go_sem, ty3, ty22]
  repeat refine ⟨by first | omega | grind, ?_⟩
  refine h1 _ ?_
  clear h1 K1
  refine W_seqK fun K2 h2 => ?_
  refine W_reg ?_
  simp [go_sem, ty3, ty22]
  repeat refine ⟨by first | omega | grind, ?_⟩
  refine h2 _ ?_
  clear h2 K2
  refine W_seqK fun K3 h3 => ?_
  refine W_seqK fun K4 h4 => ?_
  refine W_reg ?_
  simp [go_sem, ty3]
  repeat refine ⟨by first | omega | grind, ?_⟩
  refine h4 _ ?_
  clear h4 K4
  refine W_block ?_
  refine W_loopI (α := Nat) (fun i => ({ env := [(0, true, .l (.ref 0 [] 1 0 (xs.length))), (1, true, .l (.ref 1 [] 1 0 (ys.length))), (5, true, .l (.ref 3 [] 1 0 (xs.length))), (6, true, .l (.t (.int .i64 (i))))], box := [], row := [(3, ⟨.own, 1, enc eI (upto (joinAt xs ys) xs i)⟩), (0, ⟨.ro, 1, enc eI xs⟩), (1, ⟨.ro, 1, enc eI ys⟩)], nxt := 4, sav := [] } : St)) (fun i => i ≤ xs.length ∧ (0 < i → xs.length = ys.length)) (fun i => xs.length - i) 0 ?_ ?_ ?_
  · exact Sub.of_neat [0, 1, 5, 6] [3, 0, 1] [] 4 (by decide) (by simp [go_sem, upto_zero])
  · simp
  rintro i hinv
  have hu := upto_len (joinAt xs ys) xs i hinv.1
  refine W_seqK fun K6 h6 => ?_
  refine W_seqK fun K7 h7 => ?_
  refine W_reg ?_
  simp [go_sem, ty3, ty4, ty22]
  repeat refine ⟨by first | omega | grind, ?_⟩
  refine h7 _ ?_
  clear h7 K7
  refine W_cond rfl (fun hb8 => ?_) fun hb8 => ?_
  · obtain ⟨hlt, hl⟩ : i < xs.length ∧ xs.length = ys.length := by simp at hb8; omega
    clear hb8
    have hlt2 : i < ys.length := hl ▸ hlt
    have hv : joinAt xs ys i = max xs[i] ys[i] := by simp [joinAt, hlt, hlt2]
    refine W_skip ?_
    repeat refine ⟨by first | omega | grind, ?_⟩
    refine h6 _ ?_
    clear h6 K6
    refine W_seqK fun K9 h9 => ?_
    refine W_block ?_
    refine W_drawT true mixed (by decide +kernel) ?_
    simp [go_sem, ty3, ty22, hlt, hlt2, hu]
    refine callG_pc (fun hG => pc_spec_l1Max xs[i] ys[i]) (by first | (simp; done) | (simp [inR_iff]; done) | (simp [inR_iff]; grind) | grind) (fun hG => by simp [go_sem]) rfl rfl (by first | exact Or.inl rfl | exact Or.inr rfl) ?_
    simp [go_sem, ty3, ty22, hlt, hlt2, hu]
    repeat refine ⟨by first | omega | grind, ?_⟩
    refine h9 _ ?_
    clear h9 K9
    refine W_reg ?_
    simp [go_sem, ty3]
    refine ⟨i + 1, ?_, ?_, ?_⟩
    · exact Sub.of_neat [0, 1, 5, 6] [3, 0, 1] [] 4 (by decide) (by simp [go_sem, wrap_succ (show i < 9223372036854775807 by omega), upto_step hlt hv])
    · exact ⟨hlt, fun _ => hl⟩
    · omega
  · have hc : clockJoin xs ys = upto (joinAt xs ys) xs i := by
        obtain ⟨h1, h2⟩ := hinv
        simp at hb8
        by_cases hl : xs.length = ys.length
        · obtain rfl : i = xs.length := by omega
          rw [upto_full, clockJoin, if_pos hl]
        · obtain rfl : i = 0 := by omega
          rw [upto_zero, clockJoin, if_neg hl]
    clear hb8
    refine W_exit ?_
    simp [go_sem]
    repeat refine ⟨by first | omega | grind, ?_⟩
    refine h3 _ ?_
    clear h6 K6 h3 K3
    refine W_seqK fun K10 h10 => ?_
    refine W_reg ?_
    simp [go_sem, ty3, ty22]
    repeat refine ⟨by first | omega | grind, ?_⟩
    refine h10 _ ?_
    clear h10 K10
    refine W_ret ?_
    simp [go_sem, hc, hu]

set_option maxRecDepth 100000 in
set_option maxHeartbeats 4000000 in
theorem pc_spec_ClockWithin (xs : List Int) (ys : List Int) (hx : xs.length ≤ 1048576) : PC Try.prog 72 [(false, [.sl 1 (enc eI xs)]), (false, [.sl 1 (enc eI ys)])] [(false, [.bool (clockWithin xs ys)])] := by
  refine PC_of (n := 32) Try.func72 rfl rfl rfl rfl (by simp) ?_
  refine W_seqK fun K1 h1 => ?_
  refine W_reg ?_
  simp [go_sem, ty4]
  repeat refine ⟨by first | omega | grind, ?_⟩
  refine h1 _ ?_
  clear h1 K1
  refine W_seqK fun K2 h2 => ?_
  refine W_seqK fun K3 h3 => ?_
  refine W_reg ?_
  simp [go_sem, ty3]
  repeat refine ⟨by first | omega | grind, ?_⟩
  refine h3 _ ?_
  clear h3 K3
  refine W_block ?_
  refine W_loopI (α := Nat) (fun i => ({ env := [(0, true, .l (.ref 0 [] 1 0 (xs).length)), (1, true, .l (.ref 1 [] 1 0 (ys).length)), (5, true, .l (.t (.int .i64 (i))))], box := [], row := [(0, ⟨.ro, 1, enc eI xs⟩), (1, ⟨.ro, 1, enc eI ys⟩)], nxt := 60, sav := [] } : St)) (fun i => i ≤ xs.length ∧ i ≤ ys.length ∧ ∀ j, (h1 : j < xs.length) → (h2 : j < ys.length) → j < i → xs[j] ≤ ys[j]) (fun i => xs.length - i) 0 ?_ ?_ ?_
  · exact Sub.of_neat [0, 1, 5] [0, 1] [] 60 (by decide) (by simp [go_sem])
  · exact ⟨Nat.zero_le _, Nat.zero_le _, fun j _ _ h => absurd h (Nat.not_lt_zero _)⟩
  rintro i hinv
  obtain ⟨hi, hi2, hall⟩ := hinv
  refine W_seqK fun K5 h5 => ?_
  refine W_seqK fun K6 h6 => ?_
  refine W_reg ?_
  simp [go_sem, ty3, ty4, ty22]
  repeat refine ⟨by first | omega | grind, ?_⟩
  refine h6 _ ?_
  clear h6 K6
  refine W_cond rfl (fun hb7 => ?_) fun hb7 => ?_
  · obtain ⟨hlt, hlt2⟩ : i < xs.length ∧ i < ys.length := by simpa using hb7
    clear hb7
    refine W_skip ?_
    repeat refine ⟨by first | omega | grind, ?_⟩
    refine h5 _ ?_
    clear h5 K5
    refine W_seqK fun K8 h8 => ?_
    refine W_block ?_
    refine W_seqK fun K9 h9 => ?_
    refine W_drawT true mixed (by decide +kernel) ?_
    simp [go_sem, ty3, ty4, ty22, hlt, hlt2]
    repeat refine ⟨by first | omega | grind, ?_⟩
    refine h9 _ ?_
    clear h9 K9
    refine W_cond rfl (fun hb10 => ?_) fun hb10 => ?_
    · have q : clockWithin xs ys = false := clockWithin_at hlt hlt2 (by simpa [hlt, hlt2] using hb10)
      clear hb10
      refine W_seqK fun K11 h11 => ?_
      refine W_reg ?_
      simp [go_sem, ty4]
      repeat refine ⟨by first | omega | grind, ?_⟩
      refine h11 _ ?_
      clear h11 K11
      refine W_ret ?_
      simp [go_sem, q]
    · have hle : xs[i] ≤ ys[i] := by simpa [hlt, hlt2] using hb10
      clear hb10
      refine W_skip ?_
      repeat refine ⟨by first | omega | grind, ?_⟩
      refine h8 _ ?_
      clear h8 K8
      refine W_reg ?_
      simp [go_sem, ty3]
      refine ⟨i + 1, ?_, ?_, ?_⟩
      · exact Sub.of_neat [0, 1, 5] [0, 1] [] 60 (by decide) (by simp [go_sem, wrap_succ (show i < 9223372036854775807 by omega)])
      · refine ⟨hlt, hlt2, fun j h1 h2 hj => ?_⟩
        rcases Nat.lt_succ_iff_lt_or_eq.1 hj with hj | rfl
        · exact hall j h1 h2 hj
        · exact hle
      · omega
  · have q : clockWithin xs ys = decide (xs.length = ys.length) := by
        by_cases hl : xs.length = ys.length
        · have hil : i = xs.length := by simp at hb7; omega
          rw [clockWithin_all hl fun j h1 h2 => hall j h1 h2 (by omega)]; simp [hl]
        · rw [clockWithin_no hl]; simp [hl]
    clear hb7
    refine W_exit ?_
    simp [go_sem]
    repeat refine ⟨by first | omega | grind, ?_⟩
    refine h2 _ ?_
    clear h5 K5 h2 K2
    refine W_seqK fun K12 h12 => ?_
    refine W_reg ?_
    simp [go_sem, ty3, ty4, ty22]
    repeat refine ⟨by first | omega | grind, ?_⟩
    refine h12 _ ?_
    clear h12 K12
    refine W_ret ?_
    simp [go_sem, q]
    rw [Bool.eq_iff_iff]; simp; omega

set_option maxRecDepth 100000 in
set_option maxHeartbeats 4000000 in
theorem pc_spec_l20Whos (n : Int) (list : List GEvent) (hx : list.length ≤ 1048576) : PC Try.prog 75 [(false, [.int .i64 n]), (false, [.sl 5 (enc eEvent list)])] [(false, [.bool (whosOk n list)])] := by
  refine PC_of (n := 23) Try.func75 rfl rfl rfl rfl (by simp) ?_
  refine W_seqK fun K1 h1 => ?_
  refine W_reg ?_
  simp [go_sem, ty4]
  repeat refine ⟨by first | omega | grind, ?_⟩
  refine h1 _ ?_
  clear h1 K1
  refine W_seqK fun K2 h2 => ?_
  refine W_seqK fun K3 h3 => ?_
  refine W_reg ?_
  simp [go_sem, ty3]
  repeat refine ⟨by first | omega | grind, ?_⟩
  refine h3 _ ?_
  clear h3 K3
  refine W_block ?_
  refine W_loopI (α := Nat) (fun i => ({ env := [(0, true, .l (.t (.int .i64 (n)))), (1, true, .l (.ref 1 [] 5 0 (list).length)), (5, true, .l (.t (.int .i64 (i))))], box := [], row := [(1, ⟨.ro, 5, enc eEvent list⟩)], nxt := 60, sav := [] } : St)) (fun i => i ≤ list.length ∧ ∀ j, (h1 : j < list.length) → j < i → wofN list[j].who n = true) (fun i => list.length - i) 0 ?_ ?_ ?_
  · exact Sub.of_neat [0, 1, 5] [1] [] 60 (by decide) (by simp [go_sem])
  · exact ⟨Nat.zero_le _, fun j _ h => absurd h (Nat.not_lt_zero _)⟩
  rintro i hinv
  obtain ⟨hi, hall⟩ := hinv
  refine W_seqK fun K5 h5 => ?_
  refine W_seqK fun K6 h6 => ?_
  refine W_reg ?_
  simp [go_sem, ty3, ty4, ty41, ty54]
  repeat refine ⟨by first | omega | grind, ?_⟩
  refine h6 _ ?_
  clear h6 K6
  refine W_cond rfl (fun hb7 => ?_) fun hb7 => ?_
  · have hlt : i < list.length := by simpa using hb7
    clear hb7
    refine W_skip ?_
    repeat refine ⟨by first | omega | grind, ?_⟩
    refine h5 _ ?_
    clear h5 K5
    refine W_seqK fun K8 h8 => ?_
    refine W_block ?_
    refine W_seqK fun K9 h9 => ?_
    refine W_reg ?_
    simp [go_sem, ty3, ty4, ty41, ty54, hlt]
    refine callG_pc (fun hG => pc_spec_l1In list[i].who 0 (IntKind.wrap .i64 (n - 1))) (by first | (simp; done) | (simp [inR_iff]; done) | (simp [inR_iff]; grind) | grind) (fun hG => by simp [go_sem, hlt]) rfl rfl (by first | exact Or.inl rfl | exact Or.inr rfl) ?_
    simp [go_sem, ty4, hlt]
    repeat refine ⟨by first | omega | grind, ?_⟩
    refine h9 _ ?_
    clear h9 K9
    refine W_cond rfl (fun hb10 => ?_) fun hb10 => ?_
    · have q : whosOk n list = false := by (have hw : wofN list[i].who n = false := by simpa [hlt, wofN] using hb10); (unfold whosOk; rw [all_no (p := fun e : GEvent => wofN e.who n) hlt hw, Bool.and_false])
      clear hb10
      refine W_seqK fun K11 h11 => ?_
      refine W_reg ?_
      simp [go_sem, ty4]
      repeat refine ⟨by first | omega | grind, ?_⟩
      refine h11 _ ?_
      clear h11 K11
      refine W_ret ?_
      simp [go_sem, q]
    · have hw : wofN list[i].who n = true := by simpa [hlt, wofN] using hb10
      clear hb10
      refine W_skip ?_
      repeat refine ⟨by first | omega | grind, ?_⟩
      refine h8 _ ?_
      clear h8 K8
      refine W_reg ?_
      simp [go_sem, ty3]
      refine ⟨i + 1, ?_, ?_, ?_⟩
      · exact Sub.of_neat [0, 1, 5] [1] [] 60 (by decide) (by simp [go_sem, wrap_succ (show i < 9223372036854775807 by omega)])
      · refine ⟨hlt, fun j h1 hj => ?_⟩
        rcases Nat.lt_succ_iff_lt_or_eq.1 hj with hj | rfl
        · exact hall j h1 hj
        · exact hw
      · omega
  · obtain rfl : i = list.length := by simp at hb7; omega
    have q : whosOk n list = inR n 1 8 := by (unfold whosOk; rw [all_of (p := fun e : GEvent => wofN e.who n) fun j hj => hall j hj hj, Bool.and_true])
    clear hb7
    refine W_exit ?_
    simp [go_sem]
    repeat refine ⟨by first | omega | grind, ?_⟩
    refine h2 _ ?_
    clear h5 K5 h2 K2
    refine W_seqK fun K12 h12 => ?_
    refine W_reg ?_
    simp [go_sem, ty3, ty4]
    refine callG_pc (fun hG => pc_spec_l1In n 1 8) (by first | (simp; done) | (simp [inR_iff]; done) | (simp [inR_iff]; grind) | grind) (fun hG => by simp [go_sem]) rfl rfl (by first | exact Or.inl rfl | exact Or.inr rfl) ?_
    simp [go_sem, ty4]
    repeat refine ⟨by first | omega | grind, ?_⟩
    refine h12 _ ?_
    clear h12 K12
    refine W_ret ?_
    simp [go_sem, q]

set_option maxRecDepth 100000 in
set_option maxHeartbeats 4000000 in
theorem pc_spec_l20Swap (e : GEvent)  : PC Try.prog 77 [(true, eEvent e)] [(false, [.bool (isSwp e)])] := by
  refine PC_of (n := 11) Try.func77 rfl rfl rfl rfl (by simp) ?_
  refine W_seqK fun K1 h1 => ?_
  refine W_reg ?_
  simp [go_sem, ty4, ty54]
  repeat refine ⟨by first | omega | grind, ?_⟩
  refine h1 _ ?_
  clear h1 K1
  refine W_seqK fun K2 h2 => ?_
  refine W_reg ?_
  simp [go_sem, ty3, ty4, ty54]
  repeat refine ⟨by first | omega | grind, ?_⟩
  refine h2 _ ?_
  clear h2 K2
  refine W_ret ?_
  simp [go_sem, isSwp]
end Go.Tw
