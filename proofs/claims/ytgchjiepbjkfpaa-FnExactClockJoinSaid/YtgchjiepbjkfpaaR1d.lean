/- Walks of functions: impl.ClockJoin, spec.ClockJoin -/
import Derived.Test.YtgchjiepbjkfpaaR1a
set_option linter.unusedSimpArgs false
set_option linter.unusedVariables false
namespace Go.Tw
open Go.Proofs

theorem pc_impl_ClockJoin (xs : List Int) (ys : List Int) (hx : xs.length ≤ 1048576) : PC Try.prog 25 [(false, [.sl 1 (enc eI xs)]), (false, [.sl 1 (enc eI ys)])] [(false, [.sl 1 (enc eI (clockJoin xs ys))])] := by
  refine PC_of (n := 34) Try.func25 rfl rfl rfl rfl (by simp) ?_
  refine W_seqK fun K1 h1 => ?_
  refine W_reg ?_
  simp [go_sem, ty3, ty22]
  first | refine h1 _ ?_ | refine ⟨by omega, h1 _ ?_⟩ | refine ⟨by omega, by omega, h1 _ ?_⟩
  clear h1 K1
  refine W_seqK fun K2 h2 => ?_
  refine W_reg ?_
  simp [go_sem, ty3, ty22]
  refine callG_pc (fun hG => pc_slices_Clone_int_int xs (by omega)) (by simp) (fun hG => by simp [go_sem]) rfl rfl (by first | exact Or.inl rfl | exact Or.inr rfl) ?_
  simp [go_sem, ty3, ty22]
  first | refine h2 _ ?_ | refine ⟨by omega, h2 _ ?_⟩ | refine ⟨by omega, by omega, h2 _ ?_⟩
  clear h2 K2
  refine W_seqK fun K3 h3 => ?_
  refine W_seqK fun K4 h4 => ?_
  refine W_reg ?_
  simp [go_sem, ty3, ty4, ty22]
  first | refine h4 _ ?_ | refine ⟨by omega, h4 _ ?_⟩ | refine ⟨by omega, by omega, h4 _ ?_⟩
  clear h4 K4
  refine W_cond rfl (fun hb5 => ?_) fun hb5 => ?_
  · have hl : xs.length ≠ ys.length := by simp at hb5; omega
    refine W_seqK fun K6 h6 => ?_
    refine W_reg ?_
    simp [go_sem, ty3, ty22]
    first | refine h6 _ ?_ | refine ⟨by omega, h6 _ ?_⟩ | refine ⟨by omega, by omega, h6 _ ?_⟩
    clear h6 K6
    refine W_ret ?_
    simp [go_sem, clockJoin, hl]
  · have hl : xs.length = ys.length := by simp at hb5; omega
    clear hb5
    refine W_skip ?_
    first | refine h3 _ ?_ | refine ⟨by omega, h3 _ ?_⟩ | refine ⟨by omega, by omega, h3 _ ?_⟩
    clear h3 K3
    refine W_seqK fun K7 h7 => ?_
    refine W_seqK fun K8 h8 => ?_
    refine W_reg ?_
    simp [go_sem, ty3, ty22]
    first | refine h8 _ ?_ | refine ⟨by omega, h8 _ ?_⟩ | refine ⟨by omega, by omega, h8 _ ?_⟩
    clear h8 K8
    refine W_block ?_
    refine W_loopI (α := Nat) (fun i => ({ env := [(0, true, .l (.ref 0 [] 1 0 (xs.length))), (1, true, .l (.ref 1 [] 1 0 (ys.length))), (5, true, .l (.ref 2 [] 1 0 (xs.length))), (16, true, .l (.t (.int .i64 (xs.length)))), (17, true, .l (.t (.int .i64 (i))))], box := [], row := [(2, ⟨.own, 1, enc eI (upto (joinAt xs ys) xs i)⟩), (0, ⟨.ro, 1, enc eI xs⟩), (1, ⟨.ro, 1, enc eI ys⟩)], nxt := 3, sav := [] } : St)) (fun i => i ≤ xs.length) (fun i => xs.length - i) 0 ?_ ?_ ?_
    · exact Sub.of_to [0, 1, 5, 16, 17] 3 (by decide) (by simp [go_sem, upto_zero])
    · exact Nat.zero_le _
    rintro i hinv
    have hu := upto_len (joinAt xs ys) xs i hinv
    refine W_seqK fun K10 h10 => ?_
    refine W_reg ?_
    simp [go_sem, ty3]
    first | refine h10 _ ?_ | refine ⟨by omega, h10 _ ?_⟩ | refine ⟨by omega, by omega, h10 _ ?_⟩
    clear h10 K10
    refine W_seqK fun K11 h11 => ?_
    refine W_cond rfl (fun hb12 => ?_) fun hb12 => ?_
    · have hlt : i < xs.length := by simpa using hb12
      have hlt2 : i < ys.length := hl ▸ hlt
      have hv : joinAt xs ys i = if xs[i] < ys[i] then ys[i] else xs[i] := by simp [joinAt, hlt, hlt2]; split <;> omega
      clear hb12
      refine W_skip ?_
      first | refine h11 _ ?_ | refine ⟨by omega, h11 _ ?_⟩ | refine ⟨by omega, by omega, h11 _ ?_⟩
      clear h11 K11
      refine W_seqK fun K13 h13 => ?_
      refine W_block ?_
      refine W_seqK fun K14 h14 => ?_
      refine W_reg ?_
      simp [go_sem, ty3]
      first | refine h14 _ ?_ | refine ⟨by omega, h14 _ ?_⟩ | refine ⟨by omega, by omega, h14 _ ?_⟩
      clear h14 K14
      refine W_drawT mixed (by decide +kernel) ?_
      simp [go_sem, ty3, ty22, hlt, hlt2, hu]
      first | refine h13 _ ?_ | refine ⟨by omega, h13 _ ?_⟩ | refine ⟨by omega, by omega, h13 _ ?_⟩
      clear h13 K13
      refine W_reg ?_
      simp [go_sem, ty3]
      refine ⟨i + 1, ?_, ?_, ?_⟩
      · exact Sub.of_to [0, 1, 5, 16, 17] 3 (by decide) (by simp [go_sem, wrap_succ (show i < 9223372036854775807 by omega), upto_step hlt hv])
      · exact hlt
      · omega
    · obtain rfl : i = xs.length := by simp at hb12; omega
      clear hb12
      have hf := upto_full (joinAt xs ys) xs
      have hc : clockJoin xs ys = (List.range xs.length).map (joinAt xs ys) := if_pos hl
      refine W_exit ?_
      simp [go_sem]
      first | refine h7 _ ?_ | refine ⟨by omega, h7 _ ?_⟩ | refine ⟨by omega, by omega, h7 _ ?_⟩
      clear h11 K11 h7 K7
      refine W_seqK fun K15 h15 => ?_
      refine W_reg ?_
      simp [go_sem, ty3, ty22]
      first | refine h15 _ ?_ | refine ⟨by omega, h15 _ ?_⟩ | refine ⟨by omega, by omega, h15 _ ?_⟩
      clear h15 K15
      refine W_ret ?_
      simp [go_sem, hc, hf]

theorem pc_spec_ClockJoin (xs : List Int) (ys : List Int) (hx : xs.length ≤ 1048576) : PC Try.prog 24 [(false, [.sl 1 (enc eI xs)]), (false, [.sl 1 (enc eI ys)])] [(false, [.sl 1 (enc eI (clockJoin xs ys))])] := by
  refine PC_of (n := 36) Try.func24 rfl rfl rfl rfl (by simp) ?_
  refine W_seqK fun K1 h1 => ?_
  refine W_reg ?_
  simp [go_sem, ty3, ty22]
  first | refine h1 _ ?_ | refine ⟨by omega, h1 _ ?_⟩ | refine ⟨by omega, by omega, h1 _ ?_⟩
  clear h1 K1
  refine W_seqK fun K2 h2 => ?_
  refine W_reg ?_
  simp [go_sem, ty3, ty22]
  first | refine h2 _ ?_ | refine ⟨by omega, h2 _ ?_⟩ | refine ⟨by omega, by omega, h2 _ ?_⟩
  clear h2 K2
  refine W_seqK fun K3 h3 => ?_
  refine W_seqK fun K4 h4 => ?_
  refine W_reg ?_
  simp [go_sem, ty3]
  first | refine h4 _ ?_ | refine ⟨by omega, h4 _ ?_⟩ | refine ⟨by omega, by omega, h4 _ ?_⟩
  clear h4 K4
  refine W_block ?_
  refine W_loopI (α := Nat) (fun i => ({ env := [(0, true, .l (.ref 0 [] 1 0 (xs.length))), (1, true, .l (.ref 1 [] 1 0 (ys.length))), (5, true, .l (.ref 3 [] 1 0 (xs.length))), (6, true, .l (.t (.int .i64 (i))))], box := [], row := [(3, ⟨.own, 1, enc eI (upto (joinAt xs ys) xs i)⟩), (0, ⟨.ro, 1, enc eI xs⟩), (1, ⟨.ro, 1, enc eI ys⟩)], nxt := 4, sav := [] } : St)) (fun i => i ≤ xs.length ∧ (0 < i → xs.length = ys.length)) (fun i => xs.length - i) 0 ?_ ?_ ?_
  · exact Sub.of_to [0, 1, 5, 6] 4 (by decide) (by simp [go_sem, upto_zero])
  · simp
  rintro i hinv
  have hu := upto_len (joinAt xs ys) xs i hinv.1
  refine W_seqK fun K6 h6 => ?_
  refine W_seqK fun K7 h7 => ?_
  refine W_reg ?_
  simp [go_sem, ty3, ty4, ty22]
  first | refine h7 _ ?_ | refine ⟨by omega, h7 _ ?_⟩ | refine ⟨by omega, by omega, h7 _ ?_⟩
  clear h7 K7
  refine W_cond rfl (fun hb8 => ?_) fun hb8 => ?_
  · obtain ⟨hlt, hl⟩ : i < xs.length ∧ xs.length = ys.length := by simp at hb8; omega
    clear hb8
    have hlt2 : i < ys.length := hl ▸ hlt
    have hv : joinAt xs ys i = max xs[i] ys[i] := by simp [joinAt, hlt, hlt2]
    refine W_skip ?_
    first | refine h6 _ ?_ | refine ⟨by omega, h6 _ ?_⟩ | refine ⟨by omega, by omega, h6 _ ?_⟩
    clear h6 K6
    refine W_seqK fun K9 h9 => ?_
    refine W_block ?_
    refine W_drawT mixed (by decide +kernel) ?_
    simp [go_sem, ty3, ty22, hlt, hlt2, hu]
    refine callG_pc (fun hG => pc_spec_l1Max xs[i] ys[i]) (by simp) (fun hG => by simp [go_sem]) rfl rfl (by first | exact Or.inl rfl | exact Or.inr rfl) ?_
    simp [go_sem, ty3, ty22, hlt, hlt2, hu]
    first | refine h9 _ ?_ | refine ⟨by omega, h9 _ ?_⟩ | refine ⟨by omega, by omega, h9 _ ?_⟩
    clear h9 K9
    refine W_reg ?_
    simp [go_sem, ty3]
    refine ⟨i + 1, ?_, ?_, ?_⟩
    · exact Sub.of_to [0, 1, 5, 6] 4 (by decide) (by simp [go_sem, wrap_succ (show i < 9223372036854775807 by omega), upto_step hlt hv])
    · exact ⟨hlt, fun _ => hl⟩
    · omega
  · have hc : clockJoin xs ys = upto (joinAt xs ys) xs i := by
        obtain ⟨h1, h2⟩ := hinv
        simp at hb8
        by_cases hl : xs.length = ys.length
        · obtain rfl : i = xs.length := by omega
          rw [upto_full, clockJoin, if_pos hl]
        · obtain rfl : i = 0 := by omega
          rw [upto_zero, clockJoin, if_neg hl]
    clear hb8
    refine W_exit ?_
    simp [go_sem]
    first | refine h3 _ ?_ | refine ⟨by omega, h3 _ ?_⟩ | refine ⟨by omega, by omega, h3 _ ?_⟩
    clear h6 K6 h3 K3
    refine W_seqK fun K10 h10 => ?_
    refine W_reg ?_
    simp [go_sem, ty3, ty22]
    first | refine h10 _ ?_ | refine ⟨by omega, h10 _ ?_⟩ | refine ⟨by omega, by omega, h10 _ ?_⟩
    clear h10 K10
    refine W_ret ?_
    simp [go_sem, hc, hu]
end Go.Tw
