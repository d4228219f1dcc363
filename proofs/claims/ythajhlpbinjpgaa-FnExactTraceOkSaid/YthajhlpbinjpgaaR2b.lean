/- Walks of functions: laws.toHart, laws.toEventS, slices.Equal[[]int,int], spec.l7Ints, impl.SameHart, spec.SameHart, laws.szIntS, laws.szEventS, laws.szHart, laws.eqHart, impl.isCell, impl.isWord -/
import Derived.Test.YthajhlpbinjpgaaR2a
set_option linter.unusedSimpArgs false
set_option linter.unusedVariables false
namespace Go.Tw
open Go.Proofs

set_option maxRecDepth 100000 in
set_option maxHeartbeats 4000000 in
theorem pc_laws_toHart (h : GHart) (hx : h.regs.length ≤ 1048576) : PC Try.prog 50 [(true, eHart h)] [(true, eHart h)] := by
  refine PC_of (n := 15) Try.func50 rfl rfl rfl rfl (by simp) ?_
  refine W_seqK fun K1 h1 => ?_
  refine W_reg ?_
  simp [go_sem, ty26, ty57]
  first | refine h1 _ ?_ | refine ⟨by omega, h1 _ ?_⟩ | refine ⟨by omega, by omega, h1 _ ?_⟩ | (repeat (refine ⟨by first | omega | grind, ?_⟩)); refine h1 _ ?_
  clear h1 K1
  refine W_seqK fun K2 h2 => ?_
  refine W_reg ?_
  simp [go_sem, ty26]
  first | refine h2 _ ?_ | refine ⟨by omega, h2 _ ?_⟩ | refine ⟨by omega, by omega, h2 _ ?_⟩ | (repeat (refine ⟨by first | omega | grind, ?_⟩)); refine h2 _ ?_
  clear h2 K2
  refine W_seqK fun K3 h3 => ?_
  refine W_reg ?_
  simp [go_sem, ty3, ty24, ty57]
  refine callG_pc (fun hG => pc_laws_toIntS h.regs (by omega)) (by first | (simp; done) | (simp [inR_iff]; done) | (simp [inR_iff]; grind) | grind) (fun hG => by simp [go_sem]) rfl rfl (by first | exact Or.inl rfl | exact Or.inr rfl) ?_
  simp [go_sem, ty3, ty24, ty26]
  first | refine h3 _ ?_ | refine ⟨by omega, h3 _ ?_⟩ | refine ⟨by omega, by omega, h3 _ ?_⟩ | (repeat (refine ⟨by first | omega | grind, ?_⟩)); refine h3 _ ?_
  clear h3 K3
  refine W_seqK fun K4 h4 => ?_
  refine W_reg ?_
  simp [go_sem, ty3, ty26, ty57]
  first | refine h4 _ ?_ | refine ⟨by omega, h4 _ ?_⟩ | refine ⟨by omega, by omega, h4 _ ?_⟩ | (repeat (refine ⟨by first | omega | grind, ?_⟩)); refine h4 _ ?_
  clear h4 K4
  refine W_seqK fun K5 h5 => ?_
  refine W_reg ?_
  simp [go_sem, ty3, ty26, ty57]
  first | refine h5 _ ?_ | refine ⟨by omega, h5 _ ?_⟩ | refine ⟨by omega, by omega, h5 _ ?_⟩ | (repeat (refine ⟨by first | omega | grind, ?_⟩)); refine h5 _ ?_
  clear h5 K5
  refine W_seqK fun K6 h6 => ?_
  refine W_reg ?_
  simp [go_sem, ty26]
  first | refine h6 _ ?_ | refine ⟨by omega, h6 _ ?_⟩ | refine ⟨by omega, by omega, h6 _ ?_⟩ | (repeat (refine ⟨by first | omega | grind, ?_⟩)); refine h6 _ ?_
  clear h6 K6
  refine W_ret ?_
  simp [go_sem, ty26]

set_option maxRecDepth 100000 in
set_option maxHeartbeats 4000000 in
theorem pc_laws_toEventS (xs : List GEvent) (hx : xs.length ≤ 1048576) : PC Try.prog 37 [(false, [.sl 5 (enc eEvent xs)])] [(false, [.sl 5 (enc eEvent xs)])] := by
  refine PC_of (n := 23) Try.func37 rfl rfl rfl rfl (by simp) ?_
  refine W_seqK fun K1 h1 => ?_
  refine W_reg ?_
  simp [go_sem, ty33, ty48]
  first | refine h1 _ ?_ | refine ⟨by omega, h1 _ ?_⟩ | refine ⟨by omega, by omega, h1 _ ?_⟩ | (repeat (refine ⟨by first | omega | grind, ?_⟩)); refine h1 _ ?_
  clear h1 K1
  refine W_seqK fun K2 h2 => ?_
  refine W_reg ?_
  simp [go_sem, ty3, ty31, ty33, ty44, ty48]
  first | refine h2 _ ?_ | refine ⟨by omega, h2 _ ?_⟩ | refine ⟨by omega, by omega, h2 _ ?_⟩ | (repeat (refine ⟨by first | omega | grind, ?_⟩)); refine h2 _ ?_
  clear h2 K2
  refine W_seqK fun K3 h3 => ?_
  refine W_seqK fun K4 h4 => ?_
  refine W_reg ?_
  simp [go_sem, ty3]
  first | refine h4 _ ?_ | refine ⟨by omega, h4 _ ?_⟩ | refine ⟨by omega, by omega, h4 _ ?_⟩ | (repeat (refine ⟨by first | omega | grind, ?_⟩)); refine h4 _ ?_
  clear h4 K4
  refine W_block ?_
  refine W_loopI (α := Nat) (fun i => ({ env := [(0, true, .l (.ref 0 [] 5 0 (xs.length))), (3, true, .l (.ref 1 [] 5 0 (xs.length))), (4, true, .l (.t (.int .i64 (i))))], box := [], row := [(1, ⟨.own, 5, enc eEvent (xs.take i ++ List.replicate (xs.length - i) ⟨0, 0, 0, 0, 0⟩)⟩), (0, ⟨.ro, 5, enc eEvent xs⟩)], nxt := 2, sav := [] } : St)) (fun i => i ≤ xs.length) (fun i => xs.length - i) 0 ?_ ?_ ?_
  · exact Sub.of_tidy [0, 3, 4] [1, 0] [] 2 (by decide) (by simp [go_sem, rep_eEvent])
  · exact Nat.zero_le _
  rintro i hinv
  refine W_seqK fun K6 h6 => ?_
  refine W_seqK fun K7 h7 => ?_
  refine W_reg ?_
  simp [go_sem, ty3, ty4, ty31, ty44]
  first | refine h7 _ ?_ | refine ⟨by omega, h7 _ ?_⟩ | refine ⟨by omega, by omega, h7 _ ?_⟩ | (repeat (refine ⟨by first | omega | grind, ?_⟩)); refine h7 _ ?_
  clear h7 K7
  refine W_cond rfl (fun hb8 => ?_) fun hb8 => ?_
  · have hlt : i < xs.length := by simpa using hb8
    clear hb8
    refine W_skip ?_
    first | refine h6 _ ?_ | refine ⟨by omega, h6 _ ?_⟩ | refine ⟨by omega, by omega, h6 _ ?_⟩ | (repeat (refine ⟨by first | omega | grind, ?_⟩)); refine h6 _ ?_
    clear h6 K6
    refine W_seqK fun K9 h9 => ?_
    refine W_block ?_
    refine W_reg ?_
    simp [go_sem, ty3, ty31, ty33, ty44, ty48, hlt]
    refine callG_pc (fun hG => pc_laws_toEvent xs[i]) (by first | (simp; done) | (simp [inR_iff]; done) | (simp [inR_iff]; grind) | grind) (fun hG => by simp [go_sem]) rfl rfl (by first | exact Or.inl rfl | exact Or.inr rfl) ?_
    simp [go_sem, ty33, ty48, hlt]
    first | refine h9 _ ?_ | refine ⟨by omega, h9 _ ?_⟩ | refine ⟨by omega, by omega, h9 _ ?_⟩ | (repeat (refine ⟨by first | omega | grind, ?_⟩)); refine h9 _ ?_
    clear h9 K9
    refine W_reg ?_
    simp [go_sem, ty3]
    refine ⟨i + 1, ?_, ?_, ?_⟩
    · exact Sub.of_tidy [0, 3, 4] [1, 0] [] 2 (by decide) (by simp [go_sem, wrap_succ (show i < 9223372036854775807 by omega), fill_step xs ⟨0, 0, 0, 0, 0⟩ i hlt])
    · exact hlt
    · omega
  · obtain rfl : i = xs.length := by simp at hb8; omega
    clear hb8
    refine W_exit ?_
    simp [go_sem]
    first | refine h3 _ ?_ | refine ⟨by omega, h3 _ ?_⟩ | refine ⟨by omega, by omega, h3 _ ?_⟩ | (repeat (refine ⟨by first | omega | grind, ?_⟩)); refine h3 _ ?_
    clear h6 K6 h3 K3
    refine W_seqK fun K10 h10 => ?_
    refine W_reg ?_
    simp [go_sem, ty33, ty48]
    first | refine h10 _ ?_ | refine ⟨by omega, h10 _ ?_⟩ | refine ⟨by omega, by omega, h10 _ ?_⟩ | (repeat (refine ⟨by first | omega | grind, ?_⟩)); refine h10 _ ?_
    clear h10 K10
    refine W_ret ?_
    simp [go_sem]

set_option maxRecDepth 100000 in
set_option maxHeartbeats 4000000 in
theorem pc_slices_Equal_int_int (xs : List Int) (ys : List Int) (hx : xs.length ≤ 9223372036854775806) : PC Try.prog 73 [(false, [.sl 1 (enc eI xs)]), (false, [.sl 1 (enc eI ys)])] [(false, [.bool (decide (xs = ys))])] := by
  refine PC_of (n := 26) Try.func73 rfl rfl rfl rfl (by simp) ?_
  refine W_seqK fun K1 h1 => ?_
  refine W_reg ?_
  simp [go_sem, ty4]
  first | refine h1 _ ?_ | refine ⟨by omega, h1 _ ?_⟩ | refine ⟨by omega, by omega, h1 _ ?_⟩ | (repeat (refine ⟨by first | omega | grind, ?_⟩)); refine h1 _ ?_
  clear h1 K1
  refine W_seqK fun K2 h2 => ?_
  refine W_seqK fun K3 h3 => ?_
  refine W_reg ?_
  simp [go_sem, ty3, ty4, ty24]
  first | refine h3 _ ?_ | refine ⟨by omega, h3 _ ?_⟩ | refine ⟨by omega, by omega, h3 _ ?_⟩ | (repeat (refine ⟨by first | omega | grind, ?_⟩)); refine h3 _ ?_
  clear h3 K3
  refine W_cond rfl (fun hb4 => ?_) fun hb4 => ?_
  · have hne : xs ≠ ys := ne_of_len (by simp at hb4; omega)
    refine W_seqK fun K5 h5 => ?_
    refine W_reg ?_
    simp [go_sem, ty4]
    first | refine h5 _ ?_ | refine ⟨by omega, h5 _ ?_⟩ | refine ⟨by omega, by omega, h5 _ ?_⟩ | (repeat (refine ⟨by first | omega | grind, ?_⟩)); refine h5 _ ?_
    clear h5 K5
    refine W_ret ?_
    simp [go_sem, hne]
  · have hl : xs.length = ys.length := by simp at hb4; omega
    clear hb4
    refine W_skip ?_
    first | refine h2 _ ?_ | refine ⟨by omega, h2 _ ?_⟩ | refine ⟨by omega, by omega, h2 _ ?_⟩ | (repeat (refine ⟨by first | omega | grind, ?_⟩)); refine h2 _ ?_
    clear h2 K2
    refine W_seqK fun K6 h6 => ?_
    refine W_seqK fun K7 h7 => ?_
    refine W_reg ?_
    simp [go_sem, ty3, ty24]
    first | refine h7 _ ?_ | refine ⟨by omega, h7 _ ?_⟩ | refine ⟨by omega, by omega, h7 _ ?_⟩ | (repeat (refine ⟨by first | omega | grind, ?_⟩)); refine h7 _ ?_
    clear h7 K7
    refine W_block ?_
    refine W_loopI (α := Nat) (fun i => ({ env := [(0, true, .l (.ref 0 [] 1 0 (xs.length))), (1, true, .l (.ref 1 [] 1 0 (ys.length))), (12, true, .l (.t (.int .i64 (xs.length)))), (13, true, .l (.t (.int .i64 (i))))], box := [], row := [(0, ⟨.ro, 1, enc eI xs⟩), (1, ⟨.ro, 1, enc eI ys⟩)], nxt := 2, sav := [] } : St)) (fun i => i ≤ xs.length ∧ xs.take i = ys.take i) (fun i => xs.length - i) 0 ?_ ?_ ?_
    · exact Sub.of_tidy [0, 1, 12, 13] [0, 1] [] 2 (by decide) (by simp [go_sem])
    · simp
    rintro i hinv
    obtain ⟨hi, htk⟩ := hinv
    refine W_seqK fun K9 h9 => ?_
    refine W_reg ?_
    simp [go_sem, ty3]
    first | refine h9 _ ?_ | refine ⟨by omega, h9 _ ?_⟩ | refine ⟨by omega, by omega, h9 _ ?_⟩ | (repeat (refine ⟨by first | omega | grind, ?_⟩)); refine h9 _ ?_
    clear h9 K9
    refine W_seqK fun K10 h10 => ?_
    refine W_cond rfl (fun hb11 => ?_) fun hb11 => ?_
    · have hlt : i < xs.length := by simpa using hb11
      have hlt2 : i < ys.length := hl ▸ hlt
      clear hb11
      refine W_skip ?_
      first | refine h10 _ ?_ | refine ⟨by omega, h10 _ ?_⟩ | refine ⟨by omega, by omega, h10 _ ?_⟩ | (repeat (refine ⟨by first | omega | grind, ?_⟩)); refine h10 _ ?_
      clear h10 K10
      refine W_seqK fun K12 h12 => ?_
      refine W_block ?_
      refine W_seqK fun K13 h13 => ?_
      refine W_reg ?_
      simp [go_sem, ty3]
      first | refine h13 _ ?_ | refine ⟨by omega, h13 _ ?_⟩ | refine ⟨by omega, by omega, h13 _ ?_⟩ | (repeat (refine ⟨by first | omega | grind, ?_⟩)); refine h13 _ ?_
      clear h13 K13
      refine W_seqK fun K14 h14 => ?_
      refine W_drawT true mixed (by decide +kernel) ?_
      simp [go_sem, ty3, ty4, ty24, hlt, hlt2]
      first | refine h14 _ ?_ | refine ⟨by omega, h14 _ ?_⟩ | refine ⟨by omega, by omega, h14 _ ?_⟩ | (repeat (refine ⟨by first | omega | grind, ?_⟩)); refine h14 _ ?_
      clear h14 K14
      refine W_cond rfl (fun hb15 => ?_) fun hb15 => ?_
      · have hne : xs ≠ ys := ne_of_get hlt hlt2 (by simpa [hlt, hlt2] using hb15)
        refine W_seqK fun K16 h16 => ?_
        refine W_reg ?_
        simp [go_sem, ty4]
        first | refine h16 _ ?_ | refine ⟨by omega, h16 _ ?_⟩ | refine ⟨by omega, by omega, h16 _ ?_⟩ | (repeat (refine ⟨by first | omega | grind, ?_⟩)); refine h16 _ ?_
        clear h16 K16
        refine W_ret ?_
        simp [go_sem, hne]
      · have he : xs[i] = ys[i] := by simpa [hlt, hlt2] using hb15
        clear hb15
        refine W_skip ?_
        first | refine h12 _ ?_ | refine ⟨by omega, h12 _ ?_⟩ | refine ⟨by omega, by omega, h12 _ ?_⟩ | (repeat (refine ⟨by first | omega | grind, ?_⟩)); refine h12 _ ?_
        clear h12 K12
        refine W_reg ?_
        simp [go_sem, ty3]
        refine ⟨i + 1, ?_, ?_, ?_⟩
        · exact Sub.of_tidy [0, 1, 12, 13] [0, 1] [] 2 (by decide) (by simp [go_sem, wrap_succ (show i < 9223372036854775807 by omega)])
        · exact ⟨hlt, take_succ_eq htk hlt hlt2 he⟩
        · omega
    · obtain rfl : i = xs.length := by simp at hb11; omega
      have hxy : xs = ys := eq_of_take hl htk
      clear hb11
      refine W_exit ?_
      simp [go_sem]
      first | refine h6 _ ?_ | refine ⟨by omega, h6 _ ?_⟩ | refine ⟨by omega, by omega, h6 _ ?_⟩ | (repeat (refine ⟨by first | omega | grind, ?_⟩)); refine h6 _ ?_
      clear h10 K10 h6 K6
      refine W_seqK fun K17 h17 => ?_
      refine W_reg ?_
      simp [go_sem, ty4]
      first | refine h17 _ ?_ | refine ⟨by omega, h17 _ ?_⟩ | refine ⟨by omega, by omega, h17 _ ?_⟩ | (repeat (refine ⟨by first | omega | grind, ?_⟩)); refine h17 _ ?_
      clear h17 K17
      refine W_ret ?_
      simp [go_sem, hxy]

set_option maxRecDepth 100000 in
set_option maxHeartbeats 4000000 in
theorem pc_spec_l7Ints (xs : List Int) (ys : List Int) (hx : xs.length ≤ 9223372036854775806) : PC Try.prog 74 [(false, [.sl 1 (enc eI xs)]), (false, [.sl 1 (enc eI ys)])] [(false, [.bool (decide (xs = ys))])] := by
  refine PC_of (n := 32) Try.func74 rfl rfl rfl rfl (by simp) ?_
  refine W_seqK fun K1 h1 => ?_
  refine W_reg ?_
  simp [go_sem, ty4]
  first | refine h1 _ ?_ | refine ⟨by omega, h1 _ ?_⟩ | refine ⟨by omega, by omega, h1 _ ?_⟩ | (repeat (refine ⟨by first | omega | grind, ?_⟩)); refine h1 _ ?_
  clear h1 K1
  refine W_seqK fun K2 h2 => ?_
  refine W_seqK fun K3 h3 => ?_
  refine W_reg ?_
  simp [go_sem, ty3]
  first | refine h3 _ ?_ | refine ⟨by omega, h3 _ ?_⟩ | refine ⟨by omega, by omega, h3 _ ?_⟩ | (repeat (refine ⟨by first | omega | grind, ?_⟩)); refine h3 _ ?_
  clear h3 K3
  refine W_block ?_
  refine W_loopI (α := Nat) (fun i => ({ env := [(0, true, .l (.ref 0 [] 1 0 (xs.length))), (1, true, .l (.ref 1 [] 1 0 (ys.length))), (5, true, .l (.t (.int .i64 (i))))], box := [], row := [(0, ⟨.ro, 1, enc eI xs⟩), (1, ⟨.ro, 1, enc eI ys⟩)], nxt := 2, sav := [] } : St)) (fun i => i ≤ xs.length ∧ i ≤ ys.length ∧ xs.take i = ys.take i) (fun i => xs.length - i) 0 ?_ ?_ ?_
  · exact Sub.of_tidy [0, 1, 5] [0, 1] [] 2 (by decide) (by simp [go_sem])
  · simp
  rintro i hinv
  obtain ⟨hi, hi2, htk⟩ := hinv
  refine W_seqK fun K5 h5 => ?_
  refine W_seqK fun K6 h6 => ?_
  refine W_reg ?_
  simp [go_sem, ty3, ty4, ty24]
  first | refine h6 _ ?_ | refine ⟨by omega, h6 _ ?_⟩ | refine ⟨by omega, by omega, h6 _ ?_⟩ | (repeat (refine ⟨by first | omega | grind, ?_⟩)); refine h6 _ ?_
  clear h6 K6
  refine W_cond rfl (fun hb7 => ?_) fun hb7 => ?_
  · obtain ⟨hlt, hlt2⟩ : i < xs.length ∧ i < ys.length := by simpa using hb7
    clear hb7
    refine W_skip ?_
    first | refine h5 _ ?_ | refine ⟨by omega, h5 _ ?_⟩ | refine ⟨by omega, by omega, h5 _ ?_⟩ | (repeat (refine ⟨by first | omega | grind, ?_⟩)); refine h5 _ ?_
    clear h5 K5
    refine W_seqK fun K8 h8 => ?_
    refine W_block ?_
    refine W_seqK fun K9 h9 => ?_
    refine W_drawT true mixed (by decide +kernel) ?_
    simp [go_sem, ty3, ty4, ty24, hlt, hlt2]
    first | refine h9 _ ?_ | refine ⟨by omega, h9 _ ?_⟩ | refine ⟨by omega, by omega, h9 _ ?_⟩ | (repeat (refine ⟨by first | omega | grind, ?_⟩)); refine h9 _ ?_
    clear h9 K9
    refine W_cond rfl (fun hb10 => ?_) fun hb10 => ?_
    · have hne : xs ≠ ys := ne_of_get hlt hlt2 (by simpa [hlt, hlt2] using hb10)
      refine W_seqK fun K11 h11 => ?_
      refine W_reg ?_
      simp [go_sem, ty4]
      first | refine h11 _ ?_ | refine ⟨by omega, h11 _ ?_⟩ | refine ⟨by omega, by omega, h11 _ ?_⟩ | (repeat (refine ⟨by first | omega | grind, ?_⟩)); refine h11 _ ?_
      clear h11 K11
      refine W_ret ?_
      simp [go_sem, hne]
    · have he : xs[i] = ys[i] := by simpa [hlt, hlt2] using hb10
      clear hb10
      refine W_skip ?_
      first | refine h8 _ ?_ | refine ⟨by omega, h8 _ ?_⟩ | refine ⟨by omega, by omega, h8 _ ?_⟩ | (repeat (refine ⟨by first | omega | grind, ?_⟩)); refine h8 _ ?_
      clear h8 K8
      refine W_reg ?_
      simp [go_sem, ty3]
      refine ⟨i + 1, ?_, ?_, ?_⟩
      · exact Sub.of_tidy [0, 1, 5] [0, 1] [] 2 (by decide) (by simp [go_sem, wrap_succ (show i < 9223372036854775807 by omega)])
      · exact ⟨hlt, hlt2, take_succ_eq htk hlt hlt2 he⟩
      · omega
  · have hxy : decide (xs = ys) = decide (xs.length = ys.length) := by
        simp at hb7
        by_cases hl : xs.length = ys.length
        · obtain rfl : i = xs.length := by omega
          simp [hl, eq_of_take hl htk]
        · simp [hl, ne_of_len hl]
    clear hb7
    refine W_exit ?_
    simp [go_sem]
    first | refine h2 _ ?_ | refine ⟨by omega, h2 _ ?_⟩ | refine ⟨by omega, by omega, h2 _ ?_⟩ | (repeat (refine ⟨by first | omega | grind, ?_⟩)); refine h2 _ ?_
    clear h5 K5 h2 K2
    refine W_seqK fun K12 h12 => ?_
    refine W_reg ?_
    simp [go_sem, ty3, ty4, ty24]
    first | refine h12 _ ?_ | refine ⟨by omega, h12 _ ?_⟩ | refine ⟨by omega, by omega, h12 _ ?_⟩ | (repeat (refine ⟨by first | omega | grind, ?_⟩)); refine h12 _ ?_
    clear h12 K12
    refine W_ret ?_
    simp [go_sem, hxy]
    by_cases hl : xs.length = ys.length <;> simp [hl]
    omega

set_option maxRecDepth 100000 in
set_option maxHeartbeats 4000000 in
theorem pc_impl_SameHart (a : GHart) (b : GHart) (hx : a.regs.length ≤ 9223372036854775806) : PC Try.prog 17 [(true, eHart a), (true, eHart b)] [(false, [.bool (decide (a = b))])] := by
  refine PC_of (n := 24) Try.func17 rfl rfl rfl rfl (by simp) ?_
  refine W_seqK fun K1 h1 => ?_
  refine W_reg ?_
  simp [go_sem, ty4, ty26]
  first | refine h1 _ ?_ | refine ⟨by omega, h1 _ ?_⟩ | refine ⟨by omega, by omega, h1 _ ?_⟩ | (repeat (refine ⟨by first | omega | grind, ?_⟩)); refine h1 _ ?_
  clear h1 K1
  refine W_seqK fun K2 h2 => ?_
  refine W_reg ?_
  simp [go_sem, ty3, ty4, ty24, ty26]
  refine callG_pc (fun hG => pc_slices_Equal_int_int a.regs b.regs (by omega)) (by first | (simp; done) | (simp [inR_iff]; done) | (simp [inR_iff]; grind) | grind) (fun hG => by simp [go_sem]) rfl rfl (by first | exact Or.inl rfl | exact Or.inr rfl) ?_
  simp [go_sem, ty3, ty4, ty26]
  first | refine h2 _ ?_ | refine ⟨by omega, h2 _ ?_⟩ | refine ⟨by omega, by omega, h2 _ ?_⟩ | (repeat (refine ⟨by first | omega | grind, ?_⟩)); refine h2 _ ?_
  clear h2 K2
  refine W_ret ?_
  simp [go_sem, GHart.ext_iff]
  grind

set_option maxRecDepth 100000 in
set_option maxHeartbeats 4000000 in
theorem pc_spec_SameHart (a : GHart) (b : GHart) (hx : a.regs.length ≤ 9223372036854775806) : PC Try.prog 18 [(true, eHart a), (true, eHart b)] [(false, [.bool (decide (a = b))])] := by
  refine PC_of (n := 24) Try.func18 rfl rfl rfl rfl (by simp) ?_
  refine W_seqK fun K1 h1 => ?_
  refine W_reg ?_
  simp [go_sem, ty4, ty26]
  first | refine h1 _ ?_ | refine ⟨by omega, h1 _ ?_⟩ | refine ⟨by omega, by omega, h1 _ ?_⟩ | (repeat (refine ⟨by first | omega | grind, ?_⟩)); refine h1 _ ?_
  clear h1 K1
  refine W_seqK fun K2 h2 => ?_
  refine W_reg ?_
  simp [go_sem, ty3, ty4, ty24, ty26]
  refine callG_pc (fun hG => pc_spec_l7Ints a.regs b.regs (by omega)) (by first | (simp; done) | (simp [inR_iff]; done) | (simp [inR_iff]; grind) | grind) (fun hG => by simp [go_sem]) rfl rfl (by first | exact Or.inl rfl | exact Or.inr rfl) ?_
  simp [go_sem, ty4]
  first | refine h2 _ ?_ | refine ⟨by omega, h2 _ ?_⟩ | refine ⟨by omega, by omega, h2 _ ?_⟩ | (repeat (refine ⟨by first | omega | grind, ?_⟩)); refine h2 _ ?_
  clear h2 K2
  refine W_ret ?_
  simp [go_sem, GHart.ext_iff]
  grind

set_option maxRecDepth 100000 in
set_option maxHeartbeats 4000000 in
theorem pc_laws_szIntS (xs : List Int) (left : Int) (h1 : -9223372036854775808 + 9223372036854775807 ≤ left) (h2 : left ≤ 9223372036854775807) (h3 : xs.length ≤ 9223372036854775807) : PC Try.prog 94 [(false, [.sl 1 (enc eI xs)]), (false, [.int .i64 left])] [(false, [.int .i64 (szL left xs.length)])] := by
  have hw : IntKind.wrap .i64 (left - xs.length) = left - xs.length := wrap_ok (by omega) (by omega)
  refine PC_of (n := 12) Try.func94 rfl rfl rfl rfl (by simp) ?_
  refine W_seqK fun K1 h1 => ?_
  refine W_reg ?_
  simp [go_sem, ty3]
  first | refine h1 _ ?_ | refine ⟨by omega, h1 _ ?_⟩ | refine ⟨by omega, by omega, h1 _ ?_⟩ | (repeat (refine ⟨by first | omega | grind, ?_⟩)); refine h1 _ ?_
  clear h1 K1
  refine W_seqK fun K2 h2 => ?_
  refine W_reg ?_
  simp [go_sem, ty3, ty24, hw]
  first | refine h2 _ ?_ | refine ⟨by omega, h2 _ ?_⟩ | refine ⟨by omega, by omega, h2 _ ?_⟩ | (repeat (refine ⟨by first | omega | grind, ?_⟩)); refine h2 _ ?_
  clear h2 K2
  refine W_seqK fun K3 h3 => ?_
  refine W_seqK fun K4 h4 => ?_
  refine W_reg ?_
  simp [go_sem, ty3, ty4]
  first | refine h4 _ ?_ | refine ⟨by omega, h4 _ ?_⟩ | refine ⟨by omega, by omega, h4 _ ?_⟩ | (repeat (refine ⟨by first | omega | grind, ?_⟩)); refine h4 _ ?_
  clear h4 K4
  refine W_cond rfl (fun hb5 => ?_) fun hb5 => ?_
  · have h0 : szL left xs.length = -1 := by simp at hb5; unfold szL; omega
    refine W_seqK fun K6 h6 => ?_
    refine W_reg ?_
    simp [go_sem, ty3]
    first | refine h6 _ ?_ | refine ⟨by omega, h6 _ ?_⟩ | refine ⟨by omega, by omega, h6 _ ?_⟩ | (repeat (refine ⟨by first | omega | grind, ?_⟩)); refine h6 _ ?_
    clear h6 K6
    refine W_ret ?_
    simp [go_sem, h0]
  · have h0 : szL left xs.length = left - xs.length := by simp at hb5; unfold szL; omega
    refine W_skip ?_
    first | refine h3 _ ?_ | refine ⟨by omega, h3 _ ?_⟩ | refine ⟨by omega, by omega, h3 _ ?_⟩ | (repeat (refine ⟨by first | omega | grind, ?_⟩)); refine h3 _ ?_
    clear h3 K3
    refine W_seqK fun K7 h7 => ?_
    refine W_reg ?_
    simp [go_sem, ty3]
    first | refine h7 _ ?_ | refine ⟨by omega, h7 _ ?_⟩ | refine ⟨by omega, by omega, h7 _ ?_⟩ | (repeat (refine ⟨by first | omega | grind, ?_⟩)); refine h7 _ ?_
    clear h7 K7
    refine W_ret ?_
    simp [go_sem, h0]

set_option maxRecDepth 100000 in
set_option maxHeartbeats 4000000 in
theorem pc_laws_szEventS (xs : List GEvent) (left : Int) (h1 : -9223372036854775808 + 9223372036854775807 ≤ left) (h2 : left ≤ 9223372036854775807) (h3 : xs.length ≤ 9223372036854775807) : PC Try.prog 34 [(false, [.sl 5 (enc eEvent xs)]), (false, [.int .i64 left])] [(false, [.int .i64 (szL left xs.length)])] := by
  have hw : IntKind.wrap .i64 (left - xs.length) = left - xs.length := wrap_ok (by omega) (by omega)
  refine PC_of (n := 12) Try.func34 rfl rfl rfl rfl (by simp) ?_
  refine W_seqK fun K1 h1 => ?_
  refine W_reg ?_
  simp [go_sem, ty3]
  first | refine h1 _ ?_ | refine ⟨by omega, h1 _ ?_⟩ | refine ⟨by omega, by omega, h1 _ ?_⟩ | (repeat (refine ⟨by first | omega | grind, ?_⟩)); refine h1 _ ?_
  clear h1 K1
  refine W_seqK fun K2 h2 => ?_
  refine W_reg ?_
  simp [go_sem, ty3, ty31, ty44, hw]
  first | refine h2 _ ?_ | refine ⟨by omega, h2 _ ?_⟩ | refine ⟨by omega, by omega, h2 _ ?_⟩ | (repeat (refine ⟨by first | omega | grind, ?_⟩)); refine h2 _ ?_
  clear h2 K2
  refine W_seqK fun K3 h3 => ?_
  refine W_seqK fun K4 h4 => ?_
  refine W_reg ?_
  simp [go_sem, ty3, ty4]
  first | refine h4 _ ?_ | refine ⟨by omega, h4 _ ?_⟩ | refine ⟨by omega, by omega, h4 _ ?_⟩ | (repeat (refine ⟨by first | omega | grind, ?_⟩)); refine h4 _ ?_
  clear h4 K4
  refine W_cond rfl (fun hb5 => ?_) fun hb5 => ?_
  · have h0 : szL left xs.length = -1 := by simp at hb5; unfold szL; omega
    refine W_seqK fun K6 h6 => ?_
    refine W_reg ?_
    simp [go_sem, ty3]
    first | refine h6 _ ?_ | refine ⟨by omega, h6 _ ?_⟩ | refine ⟨by omega, by omega, h6 _ ?_⟩ | (repeat (refine ⟨by first | omega | grind, ?_⟩)); refine h6 _ ?_
    clear h6 K6
    refine W_ret ?_
    simp [go_sem, h0]
  · have h0 : szL left xs.length = left - xs.length := by simp at hb5; unfold szL; omega
    refine W_skip ?_
    first | refine h3 _ ?_ | refine ⟨by omega, h3 _ ?_⟩ | refine ⟨by omega, by omega, h3 _ ?_⟩ | (repeat (refine ⟨by first | omega | grind, ?_⟩)); refine h3 _ ?_
    clear h3 K3
    refine W_seqK fun K7 h7 => ?_
    refine W_reg ?_
    simp [go_sem, ty3]
    first | refine h7 _ ?_ | refine ⟨by omega, h7 _ ?_⟩ | refine ⟨by omega, by omega, h7 _ ?_⟩ | (repeat (refine ⟨by first | omega | grind, ?_⟩)); refine h7 _ ?_
    clear h7 K7
    refine W_ret ?_
    simp [go_sem, h0]

set_option maxRecDepth 100000 in
set_option maxHeartbeats 4000000 in
theorem pc_laws_szHart (h : GHart) (left : Int) (h1 : -9223372036854775808 + 9223372036854775807 ≤ left) (h2 : left ≤ 9223372036854775807) (h3 : h.regs.length ≤ 9223372036854775807) : PC Try.prog 48 [(true, eHart h), (false, [.int .i64 left])] [(false, [.int .i64 (szL left h.regs.length)])] := by
  refine PC_of (n := 12) Try.func48 rfl rfl rfl rfl (by simp) ?_
  refine W_seqK fun K1 h1 => ?_
  refine W_reg ?_
  simp [go_sem, ty3, ty57]
  first | refine h1 _ ?_ | refine ⟨by omega, h1 _ ?_⟩ | refine ⟨by omega, by omega, h1 _ ?_⟩ | (repeat (refine ⟨by first | omega | grind, ?_⟩)); refine h1 _ ?_
  clear h1 K1
  refine W_seqK fun K2 h2 => ?_
  refine W_reg ?_
  simp [go_sem, ty3, ty24, ty57]
  refine callG_pc (fun hG => pc_laws_szIntS h.regs left (by omega) (by omega) (by omega)) (by first | (simp; done) | (simp [inR_iff]; done) | (simp [inR_iff]; grind) | grind) (fun hG => by simp [go_sem]) rfl rfl (by first | exact Or.inl rfl | exact Or.inr rfl) ?_
  simp [go_sem, ty3]
  first | refine h2 _ ?_ | refine ⟨by omega, h2 _ ?_⟩ | refine ⟨by omega, by omega, h2 _ ?_⟩ | (repeat (refine ⟨by first | omega | grind, ?_⟩)); refine h2 _ ?_
  clear h2 K2
  refine W_seqK fun K3 h3 => ?_
  refine W_seqK fun K4 h4 => ?_
  refine W_reg ?_
  simp [go_sem, ty3, ty4]
  first | refine h4 _ ?_ | refine ⟨by omega, h4 _ ?_⟩ | refine ⟨by omega, by omega, h4 _ ?_⟩ | (repeat (refine ⟨by first | omega | grind, ?_⟩)); refine h4 _ ?_
  clear h4 K4
  refine W_cond rfl (fun hb5 => ?_) fun hb5 => ?_
  · have h0 : szL left h.regs.length = -1 := by simp at hb5; unfold szL at hb5 ⊢; split at hb5 <;> simp_all
    refine W_seqK fun K6 h6 => ?_
    refine W_reg ?_
    simp [go_sem, ty3]
    first | refine h6 _ ?_ | refine ⟨by omega, h6 _ ?_⟩ | refine ⟨by omega, by omega, h6 _ ?_⟩ | (repeat (refine ⟨by first | omega | grind, ?_⟩)); refine h6 _ ?_
    clear h6 K6
    refine W_ret ?_
    simp [go_sem, h0]
  · skip
    refine W_skip ?_
    first | refine h3 _ ?_ | refine ⟨by omega, h3 _ ?_⟩ | refine ⟨by omega, by omega, h3 _ ?_⟩ | (repeat (refine ⟨by first | omega | grind, ?_⟩)); refine h3 _ ?_
    clear h3 K3
    refine W_seqK fun K7 h7 => ?_
    refine W_reg ?_
    simp [go_sem, ty3]
    first | refine h7 _ ?_ | refine ⟨by omega, h7 _ ?_⟩ | refine ⟨by omega, by omega, h7 _ ?_⟩ | (repeat (refine ⟨by first | omega | grind, ?_⟩)); refine h7 _ ?_
    clear h7 K7
    refine W_ret ?_
    simp [go_sem]

set_option maxRecDepth 100000 in
set_option maxHeartbeats 4000000 in
theorem pc_laws_eqHart (a : GHart) (b : GHart) (hx : a.regs.length ≤ 17592186043904) : PC Try.prog 52 [(true, eHart a), (true, eHart b)] [(false, [.bool (decide (a = b))])] := by
  refine PC_of (n := 21) Try.func52 rfl rfl rfl rfl (by simp) ?_
  refine W_seqK fun K1 h1 => ?_
  refine W_reg ?_
  simp [go_sem, ty4, ty26]
  first | refine h1 _ ?_ | refine ⟨by omega, h1 _ ?_⟩ | refine ⟨by omega, by omega, h1 _ ?_⟩ | (repeat (refine ⟨by first | omega | grind, ?_⟩)); refine h1 _ ?_
  clear h1 K1
  refine W_seqK fun K2 h2 => ?_
  refine W_seqK fun K3 h3 => ?_
  refine W_reg ?_
  simp [go_sem, ty3, ty4, ty24, ty26]
  refine callG_pc (fun hG => pc_laws_eqIntS a.regs b.regs (by omega)) (by first | (simp; done) | (simp [inR_iff]; done) | (simp [inR_iff]; grind) | grind) (fun hG => by simp [go_sem]) rfl rfl (by first | exact Or.inl rfl | exact Or.inr rfl) ?_
  simp [go_sem, ty4]
  first | refine h3 _ ?_ | refine ⟨by omega, h3 _ ?_⟩ | refine ⟨by omega, by omega, h3 _ ?_⟩ | (repeat (refine ⟨by first | omega | grind, ?_⟩)); refine h3 _ ?_
  clear h3 K3
  refine W_cond rfl (fun hb4 => ?_) fun hb4 => ?_
  · simp at hb4
    refine W_seqK fun K5 h5 => ?_
    refine W_reg ?_
    simp [go_sem, ty4]
    first | refine h5 _ ?_ | refine ⟨by omega, h5 _ ?_⟩ | refine ⟨by omega, by omega, h5 _ ?_⟩ | (repeat (refine ⟨by first | omega | grind, ?_⟩)); refine h5 _ ?_
    clear h5 K5
    refine W_ret ?_
    simp [go_sem, GHart.ext_iff, hb4]
  · simp at hb4
    refine W_skip ?_
    first | refine h2 _ ?_ | refine ⟨by omega, h2 _ ?_⟩ | refine ⟨by omega, by omega, h2 _ ?_⟩ | (repeat (refine ⟨by first | omega | grind, ?_⟩)); refine h2 _ ?_
    clear h2 K2
    refine W_seqK fun K6 h6 => ?_
    refine W_seqK fun K7 h7 => ?_
    refine W_reg ?_
    simp [go_sem, ty3, ty4, ty26]
    first | refine h7 _ ?_ | refine ⟨by omega, h7 _ ?_⟩ | refine ⟨by omega, by omega, h7 _ ?_⟩ | (repeat (refine ⟨by first | omega | grind, ?_⟩)); refine h7 _ ?_
    clear h7 K7
    refine W_cond rfl (fun hb8 => ?_) fun hb8 => ?_
    · simp at hb8
      refine W_seqK fun K9 h9 => ?_
      refine W_reg ?_
      simp [go_sem, ty4]
      first | refine h9 _ ?_ | refine ⟨by omega, h9 _ ?_⟩ | refine ⟨by omega, by omega, h9 _ ?_⟩ | (repeat (refine ⟨by first | omega | grind, ?_⟩)); refine h9 _ ?_
      clear h9 K9
      refine W_ret ?_
      simp [go_sem, GHart.ext_iff, hb4, hb8]
    · simp at hb8
      refine W_skip ?_
      first | refine h6 _ ?_ | refine ⟨by omega, h6 _ ?_⟩ | refine ⟨by omega, by omega, h6 _ ?_⟩ | (repeat (refine ⟨by first | omega | grind, ?_⟩)); refine h6 _ ?_
      clear h6 K6
      refine W_seqK fun K10 h10 => ?_
      refine W_seqK fun K11 h11 => ?_
      refine W_reg ?_
      simp [go_sem, ty3, ty4, ty26]
      first | refine h11 _ ?_ | refine ⟨by omega, h11 _ ?_⟩ | refine ⟨by omega, by omega, h11 _ ?_⟩ | (repeat (refine ⟨by first | omega | grind, ?_⟩)); refine h11 _ ?_
      clear h11 K11
      refine W_cond rfl (fun hb12 => ?_) fun hb12 => ?_
      · simp at hb12
        refine W_seqK fun K13 h13 => ?_
        refine W_reg ?_
        simp [go_sem, ty4]
        first | refine h13 _ ?_ | refine ⟨by omega, h13 _ ?_⟩ | refine ⟨by omega, by omega, h13 _ ?_⟩ | (repeat (refine ⟨by first | omega | grind, ?_⟩)); refine h13 _ ?_
        clear h13 K13
        refine W_ret ?_
        simp [go_sem, GHart.ext_iff, hb4, hb8, hb12]
      · simp at hb12
        refine W_skip ?_
        first | refine h10 _ ?_ | refine ⟨by omega, h10 _ ?_⟩ | refine ⟨by omega, by omega, h10 _ ?_⟩ | (repeat (refine ⟨by first | omega | grind, ?_⟩)); refine h10 _ ?_
        clear h10 K10
        refine W_seqK fun K14 h14 => ?_
        refine W_reg ?_
        simp [go_sem, ty4]
        first | refine h14 _ ?_ | refine ⟨by omega, h14 _ ?_⟩ | refine ⟨by omega, by omega, h14 _ ?_⟩ | (repeat (refine ⟨by first | omega | grind, ?_⟩)); refine h14 _ ?_
        clear h14 K14
        refine W_ret ?_
        simp [go_sem, GHart.ext_iff, hb4, hb8, hb12]

set_option maxRecDepth 100000 in
set_option maxHeartbeats 4000000 in
theorem pc_impl_isCell (x : Int)  : PC Try.prog 88 [(false, [.int .i64 x])] [(false, [.bool (inR x 0 23)])] := by
  refine PC_of (n := 5) Try.func88 rfl rfl rfl rfl (by simp) ?_
  refine W_seqK fun K1 h1 => ?_
  refine W_reg ?_
  simp [go_sem, ty4]
  first | refine h1 _ ?_ | refine ⟨by omega, h1 _ ?_⟩ | refine ⟨by omega, by omega, h1 _ ?_⟩ | (repeat (refine ⟨by first | omega | grind, ?_⟩)); refine h1 _ ?_
  clear h1 K1
  refine W_seqK fun K2 h2 => ?_
  refine W_reg ?_
  simp [go_sem, ty3, ty4]
  refine callG_pc (fun hG => pc_impl_from x 0 23) (by first | (simp; done) | (simp [inR_iff]; done) | (simp [inR_iff]; grind) | grind) (fun hG => by simp [go_sem]) rfl rfl (by first | exact Or.inl rfl | exact Or.inr rfl) ?_
  simp [go_sem, ty4]
  first | refine h2 _ ?_ | refine ⟨by omega, h2 _ ?_⟩ | refine ⟨by omega, by omega, h2 _ ?_⟩ | (repeat (refine ⟨by first | omega | grind, ?_⟩)); refine h2 _ ?_
  clear h2 K2
  refine W_ret ?_
  simp [go_sem]

set_option maxRecDepth 100000 in
set_option maxHeartbeats 4000000 in
theorem pc_impl_isWord (x : Int)  : PC Try.prog 89 [(false, [.int .i64 x])] [(false, [.bool (inR x 0 65535)])] := by
  refine PC_of (n := 5) Try.func89 rfl rfl rfl rfl (by simp) ?_
  refine W_seqK fun K1 h1 => ?_
  refine W_reg ?_
  simp [go_sem, ty4]
  first | refine h1 _ ?_ | refine ⟨by omega, h1 _ ?_⟩ | refine ⟨by omega, by omega, h1 _ ?_⟩ | (repeat (refine ⟨by first | omega | grind, ?_⟩)); refine h1 _ ?_
  clear h1 K1
  refine W_seqK fun K2 h2 => ?_
  refine W_reg ?_
  simp [go_sem, ty3, ty4]
  refine callG_pc (fun hG => pc_impl_from x 0 65535) (by first | (simp; done) | (simp [inR_iff]; done) | (simp [inR_iff]; grind) | grind) (fun hG => by simp [go_sem]) rfl rfl (by first | exact Or.inl rfl | exact Or.inr rfl) ?_
  simp [go_sem, ty4]
  first | refine h2 _ ?_ | refine ⟨by omega, h2 _ ?_⟩ | refine ⟨by omega, by omega, h2 _ ?_⟩ | (repeat (refine ⟨by first | omega | grind, ?_⟩)); refine h2 _ ?_
  clear h2 K2
  refine W_ret ?_
  simp [go_sem]
end Go.Tw
