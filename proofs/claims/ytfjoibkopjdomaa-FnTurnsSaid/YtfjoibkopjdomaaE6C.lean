/- Walks of functions: spec.l19Meets, spec.Apart -/
import Derived.Test.YtfjoibkopjdomaaE6A
set_option linter.unusedSimpArgs false
set_option linter.unusedVariables false
set_option linter.unnecessarySimpa false
namespace Go.Tw
open Go.Proofs

set_option maxRecDepth 100000 in
set_option maxHeartbeats 4000000 in
theorem pc_spec_l19Meets (xs : List Int) (ys : List Int) (hx : xs.length ≤ 1048576) (hy : ys.length ≤ 1048576) : PC Try.prog 105 [(false, [.sl 1 (enc eI xs)]), (false, [.sl 1 (enc eI ys)])] [(false, [.bool (meetsB xs ys)])] := by
  refine PC_of (n := 28) Try.func105 rfl rfl rfl rfl (by simp) ?_
  refine W_seqK fun K1 h1 => ?_
  refine W_reg ?_
  simp [go_sem, ty4]
  first | refine h1 _ ?_ | refine ⟨by omega, h1 _ ?_⟩ | refine ⟨by omega, by omega, h1 _ ?_⟩ | (repeat (refine ⟨by first | omega | grind, ?_⟩)); refine h1 _ ?_
  clear h1 K1
  refine W_seqK fun K2 h2 => ?_
  refine W_seqK fun K3 h3 => ?_
  refine W_reg ?_
  simp [go_sem, ty3]
  first | refine h3 _ ?_ | refine ⟨by omega, h3 _ ?_⟩ | refine ⟨by omega, by omega, h3 _ ?_⟩ | (repeat (refine ⟨by first | omega | grind, ?_⟩)); refine h3 _ ?_
  clear h3 K3
  refine W_block ?_
  refine W_loopI (α := Nat) (fun i => ({ env := [(0, true, .l (.ref 0 [] 1 0 (xs).length)), (1, true, .l (.ref 1 [] 1 0 (ys).length)), (5, true, .l (.t (.int .i64 (i))))], box := [], row := [(0, ⟨.ro, 1, enc eI xs⟩), (1, ⟨.ro, 1, enc eI ys⟩)], nxt := 60, sav := [] } : St)) (fun i => i ≤ xs.length ∧ ∀ k, (h1 : k < xs.length) → k < i → xs[k] ∉ ys) (fun i => xs.length - i) 0 ?_ ?_ ?_
  · exact Sub.of_neat [0, 1, 5] [0, 1] [] 60 (by decide) (by simp [go_sem])
  · exact ⟨Nat.zero_le _, fun k _ h => absurd h (Nat.not_lt_zero _)⟩
  rintro i hinv
  obtain ⟨hi, hall⟩ := hinv
  refine W_seqK fun K5 h5 => ?_
  refine W_seqK fun K6 h6 => ?_
  refine W_reg ?_
  simp [go_sem, ty3, ty4, ty24]
  first | refine h6 _ ?_ | refine ⟨by omega, h6 _ ?_⟩ | refine ⟨by omega, by omega, h6 _ ?_⟩ | (repeat (refine ⟨by first | omega | grind, ?_⟩)); refine h6 _ ?_
  clear h6 K6
  refine W_cond rfl (fun hb7 => ?_) fun hb7 => ?_
  · have hlt : i < xs.length := by simpa using hb7
    clear hb7
    refine W_skip ?_
    first | refine h5 _ ?_ | refine ⟨by omega, h5 _ ?_⟩ | refine ⟨by omega, by omega, h5 _ ?_⟩ | (repeat (refine ⟨by first | omega | grind, ?_⟩)); refine h5 _ ?_
    clear h5 K5
    refine W_seqK fun K8 h8 => ?_
    refine W_block ?_
    refine W_seqK fun K9 h9 => ?_
    refine W_reg ?_
    simp [go_sem, ty3]
    first | refine h9 _ ?_ | refine ⟨by omega, h9 _ ?_⟩ | refine ⟨by omega, by omega, h9 _ ?_⟩ | (repeat (refine ⟨by first | omega | grind, ?_⟩)); refine h9 _ ?_
    clear h9 K9
    refine W_block ?_
    refine W_loopI (α := Nat) (fun j => ({ env := [(0, true, .l (.ref 0 [] 1 0 (xs).length)), (1, true, .l (.ref 1 [] 1 0 (ys).length)), (5, true, .l (.t (.int .i64 (i)))), (6, true, .l (.t (.int .i64 (j))))], box := [], row := [(0, ⟨.ro, 1, enc eI xs⟩), (1, ⟨.ro, 1, enc eI ys⟩)], nxt := 60, sav := [] } : St)) (fun j => j ≤ ys.length ∧ ∀ k, (h1 : k < ys.length) → k < j → ¬ xs[i] = ys[k]) (fun j => ys.length - j) 0 ?_ ?_ ?_
    · exact Sub.of_neat [0, 1, 5, 6] [0, 1] [] 60 (by decide) (by simp [go_sem])
    · exact ⟨Nat.zero_le _, fun k _ h => absurd h (Nat.not_lt_zero _)⟩
    rintro j hinv
    obtain ⟨hj, hal2⟩ := hinv
    refine W_seqK fun K11 h11 => ?_
    refine W_seqK fun K12 h12 => ?_
    refine W_reg ?_
    simp [go_sem, ty3, ty4, ty24]
    first | refine h12 _ ?_ | refine ⟨by omega, h12 _ ?_⟩ | refine ⟨by omega, by omega, h12 _ ?_⟩ | (repeat (refine ⟨by first | omega | grind, ?_⟩)); refine h12 _ ?_
    clear h12 K12
    refine W_cond rfl (fun hb13 => ?_) fun hb13 => ?_
    · have hlt2 : j < ys.length := by simpa using hb13
      clear hb13
      refine W_skip ?_
      first | refine h11 _ ?_ | refine ⟨by omega, h11 _ ?_⟩ | refine ⟨by omega, by omega, h11 _ ?_⟩ | (repeat (refine ⟨by first | omega | grind, ?_⟩)); refine h11 _ ?_
      clear h11 K11
      refine W_seqK fun K14 h14 => ?_
      refine W_block ?_
      refine W_seqK fun K15 h15 => ?_
      refine W_drawT true mixed (by decide +kernel) ?_
      simp [go_sem, ty3, ty4, ty24, hlt, hlt2]
      first | refine h15 _ ?_ | refine ⟨by omega, h15 _ ?_⟩ | refine ⟨by omega, by omega, h15 _ ?_⟩ | (repeat (refine ⟨by first | omega | grind, ?_⟩)); refine h15 _ ?_
      clear h15 K15
      refine W_cond rfl (fun hb16 => ?_) fun hb16 => ?_
      · have q : meetsB xs ys = true := meetsB_at hlt hlt2 (by simpa [hlt, hlt2] using hb16)
        clear hb16
        refine W_seqK fun K17 h17 => ?_
        refine W_reg ?_
        simp [go_sem, ty4]
        first | refine h17 _ ?_ | refine ⟨by omega, h17 _ ?_⟩ | refine ⟨by omega, by omega, h17 _ ?_⟩ | (repeat (refine ⟨by first | omega | grind, ?_⟩)); refine h17 _ ?_
        clear h17 K17
        refine W_ret ?_
        simp [go_sem, q]
      · have hne : ¬ xs[i] = ys[j] := by simpa [hlt, hlt2] using hb16
        clear hb16
        refine W_skip ?_
        first | refine h14 _ ?_ | refine ⟨by omega, h14 _ ?_⟩ | refine ⟨by omega, by omega, h14 _ ?_⟩ | (repeat (refine ⟨by first | omega | grind, ?_⟩)); refine h14 _ ?_
        clear h14 K14
        refine W_reg ?_
        simp [go_sem, ty3]
        refine ⟨j + 1, ?_, ?_, ?_⟩
        · exact Sub.of_neat [0, 1, 5, 6] [0, 1] [] 60 (by decide) (by simp [go_sem, wrap_succ (show j < 9223372036854775807 by omega)])
        · refine ⟨hlt2, fun k h1 hk => ?_⟩
          rcases Nat.lt_succ_iff_lt_or_eq.1 hk with hk | rfl
          · exact hal2 k h1 hk
          · exact hne
        · omega
    · obtain rfl : j = ys.length := by simp at hb13; omega
      clear hb13
      refine W_exit ?_
      simp [go_sem]
      first | refine h8 _ ?_ | refine ⟨by omega, h8 _ ?_⟩ | refine ⟨by omega, by omega, h8 _ ?_⟩ | (repeat (refine ⟨by first | omega | grind, ?_⟩)); refine h8 _ ?_
      clear h11 K11 h8 K8
      refine W_reg ?_
      simp [go_sem, ty3]
      refine ⟨i + 1, ?_, ?_, ?_⟩
      · exact Sub.of_neat [0, 1, 5] [0, 1] [] 60 (by decide) (by simp [go_sem, wrap_succ (show i < 9223372036854775807 by omega)])
      · refine ⟨hlt, fun k h1 hk => ?_⟩
        rcases Nat.lt_succ_iff_lt_or_eq.1 hk with hk | rfl
        · exact hall k h1 hk
        · intro hm; obtain ⟨m, hm1, hm2⟩ := List.getElem_of_mem hm; exact hal2 m hm1 (by omega) hm2.symm
      · omega
  · obtain rfl : i = xs.length := by simp at hb7; omega
    have q : meetsB xs ys = false := meetsB_all fun k h => hall k h h
    clear hb7
    refine W_exit ?_
    simp [go_sem]
    first | refine h2 _ ?_ | refine ⟨by omega, h2 _ ?_⟩ | refine ⟨by omega, by omega, h2 _ ?_⟩ | (repeat (refine ⟨by first | omega | grind, ?_⟩)); refine h2 _ ?_
    clear h5 K5 h2 K2
    refine W_seqK fun K18 h18 => ?_
    refine W_reg ?_
    simp [go_sem, ty4]
    first | refine h18 _ ?_ | refine ⟨by omega, h18 _ ?_⟩ | refine ⟨by omega, by omega, h18 _ ?_⟩ | (repeat (refine ⟨by first | omega | grind, ?_⟩)); refine h18 _ ?_
    clear h18 K18
    refine W_ret ?_
    simp [go_sem, q]

set_option maxRecDepth 100000 in
set_option maxHeartbeats 4000000 in
theorem pc_spec_Apart (a : GEvent) (b : GEvent)  : PC Try.prog 34 [(true, eEvent a), (true, eEvent b)] [(false, [.bool (apartE a b)])] := by
  have hw := writesOf_len b
  have hr := readsOf_len b
  have hwa := writesOf_len a
  have hra := readsOf_len a
  refine PC_of (n := 34) Try.func34 rfl rfl rfl rfl (by simp) ?_
  refine W_seqK fun K1 h1 => ?_
  refine W_reg ?_
  simp [go_sem, ty4, ty45]
  first | refine h1 _ ?_ | refine ⟨by omega, h1 _ ?_⟩ | refine ⟨by omega, by omega, h1 _ ?_⟩ | (repeat (refine ⟨by first | omega | grind, ?_⟩)); refine h1 _ ?_
  clear h1 K1
  refine W_seqK fun K2 h2 => ?_
  rcases apart_cases a b with q | ⟨q, q1⟩ | ⟨q, q1, q2⟩ | ⟨q, q1, q2⟩
  · refine W_drawO true [0, 1, 2, 3, 4, 5, 6, 8, 7, 9, 10, 11, 12, 13, 14, 16, 15, 17, 18, 19, 20, 21, 22, 24, 23, 25, 26, 27, 28, 29] mixed (by decide +kernel) ?_
    simp (config := {maxSteps := 10000000}) [go_sem, ty3, ty4, ty24, ty45, q]
    first | refine callG_false (.l (.nil)) ?_ | refine callG_pc (fun hG => pc_spec_WritesOf a) (by first | (simp; done) | (simp [inR_iff]; done) | (simp [inR_iff]; grind) | grind) (fun hG => by simp [go_sem]) rfl rfl (by first | exact Or.inl rfl | exact Or.inr rfl) ?_
    simp (config := {maxSteps := 10000000}) [go_sem, ty3, ty24, ty45, q]
    first | refine callG_false (.l (.nil)) ?_ | refine callG_pc (fun hG => pc_spec_ReadsOf b) (by first | (simp; done) | (simp [inR_iff]; done) | (simp [inR_iff]; grind) | grind) (fun hG => by simp [go_sem]) rfl rfl (by first | exact Or.inl rfl | exact Or.inr rfl) ?_
    simp (config := {maxSteps := 10000000}) [go_sem, ty3, ty4, ty24, q]
    first | refine callG_false (.l (.t (.bool false))) ?_ | refine callG_pc (fun hG => pc_spec_l19Meets (writesOf a) (readsOf b) (by omega) (by omega)) (by first | (simp; done) | (simp [inR_iff]; done) | (simp [inR_iff]; grind) | grind) (fun hG => by simp [go_sem]) rfl rfl (by first | exact Or.inl rfl | exact Or.inr rfl) ?_
    simp (config := {maxSteps := 10000000}) [go_sem, ty3, ty4, ty24, ty45, q]
    first | refine callG_false (.l (.nil)) ?_ | refine callG_pc (fun hG => pc_spec_WritesOf b) (by first | (simp; done) | (simp [inR_iff]; done) | (simp [inR_iff]; grind) | grind) (fun hG => by simp [go_sem]) rfl rfl (by first | exact Or.inl rfl | exact Or.inr rfl) ?_
    simp (config := {maxSteps := 10000000}) [go_sem, ty3, ty24, ty45, q]
    first | refine callG_false (.l (.nil)) ?_ | refine callG_pc (fun hG => pc_spec_ReadsOf a) (by first | (simp; done) | (simp [inR_iff]; done) | (simp [inR_iff]; grind) | grind) (fun hG => by simp [go_sem]) rfl rfl (by first | exact Or.inl rfl | exact Or.inr rfl) ?_
    simp (config := {maxSteps := 10000000}) [go_sem, ty3, ty4, ty24, q]
    first | refine callG_false (.l (.t (.bool false))) ?_ | refine callG_pc (fun hG => pc_spec_l19Meets (writesOf b) (readsOf a) (by omega) (by omega)) (by first | (simp; done) | (simp [inR_iff]; done) | (simp [inR_iff]; grind) | grind) (fun hG => by simp [go_sem]) rfl rfl (by first | exact Or.inl rfl | exact Or.inr rfl) ?_
    simp (config := {maxSteps := 10000000}) [go_sem, ty3, ty4, ty24, ty45, q]
    first | refine callG_false (.l (.nil)) ?_ | refine callG_pc (fun hG => pc_spec_WritesOf a) (by first | (simp; done) | (simp [inR_iff]; done) | (simp [inR_iff]; grind) | grind) (fun hG => by simp [go_sem]) rfl rfl (by first | exact Or.inl rfl | exact Or.inr rfl) ?_
    simp (config := {maxSteps := 10000000}) [go_sem, ty3, ty24, ty45, q]
    first | refine callG_false (.l (.nil)) ?_ | refine callG_pc (fun hG => pc_spec_WritesOf b) (by first | (simp; done) | (simp [inR_iff]; done) | (simp [inR_iff]; grind) | grind) (fun hG => by simp [go_sem]) rfl rfl (by first | exact Or.inl rfl | exact Or.inr rfl) ?_
    simp (config := {maxSteps := 10000000}) [go_sem, ty3, ty4, ty24, q]
    first | refine callG_false (.l (.t (.bool false))) ?_ | refine callG_pc (fun hG => pc_spec_l19Meets (writesOf a) (writesOf b) (by omega) (by omega)) (by first | (simp; done) | (simp [inR_iff]; done) | (simp [inR_iff]; grind) | grind) (fun hG => by simp [go_sem]) rfl rfl (by first | exact Or.inl rfl | exact Or.inr rfl) ?_
    simp (config := {maxSteps := 10000000}) [go_sem, ty4, q]
    first | refine h2 _ ?_ | refine ⟨by omega, h2 _ ?_⟩ | refine ⟨by omega, by omega, h2 _ ?_⟩ | (repeat (refine ⟨by first | omega | grind, ?_⟩)); refine h2 _ ?_
    clear h2 K2
    refine W_ret ?_
    simp [go_sem, apartE, q]
  · refine W_drawO true [0, 1, 2, 3, 4, 5, 6, 8, 7, 9, 10, 11, 12, 13, 14, 16, 15, 17, 18, 19, 20, 21, 22, 24, 23, 25, 26, 27, 28, 29] mixed (by decide +kernel) ?_
    have qn : (a.who != b.who) = true := by simpa using q
    simp (config := {maxSteps := 10000000}) [go_sem, ty3, ty4, ty24, ty45, qn, q1]
    first | refine callG_false (.l (.nil)) ?_ | refine callG_pc (fun hG => pc_spec_WritesOf a) (by first | (simp; done) | (simp [inR_iff]; done) | (simp [inR_iff]; grind) | grind) (fun hG => by simp [go_sem]) rfl rfl (by first | exact Or.inl rfl | exact Or.inr rfl) ?_
    simp (config := {maxSteps := 10000000}) [go_sem, ty3, ty24, ty45, qn, q1]
    first | refine callG_false (.l (.nil)) ?_ | refine callG_pc (fun hG => pc_spec_ReadsOf b) (by first | (simp; done) | (simp [inR_iff]; done) | (simp [inR_iff]; grind) | grind) (fun hG => by simp [go_sem]) rfl rfl (by first | exact Or.inl rfl | exact Or.inr rfl) ?_
    simp (config := {maxSteps := 10000000}) [go_sem, ty3, ty4, ty24, qn, q1]
    first | refine callG_false (.l (.t (.bool false))) ?_ | refine callG_pc (fun hG => pc_spec_l19Meets (writesOf a) (readsOf b) (by omega) (by omega)) (by first | (simp; done) | (simp [inR_iff]; done) | (simp [inR_iff]; grind) | grind) (fun hG => by simp [go_sem]) rfl rfl (by first | exact Or.inl rfl | exact Or.inr rfl) ?_
    simp (config := {maxSteps := 10000000}) [go_sem, ty3, ty4, ty24, ty45, qn, q1]
    first | refine callG_false (.l (.nil)) ?_ | refine callG_pc (fun hG => pc_spec_WritesOf b) (by first | (simp; done) | (simp [inR_iff]; done) | (simp [inR_iff]; grind) | grind) (fun hG => by simp [go_sem]) rfl rfl (by first | exact Or.inl rfl | exact Or.inr rfl) ?_
    simp (config := {maxSteps := 10000000}) [go_sem, ty3, ty24, ty45, qn, q1]
    first | refine callG_false (.l (.nil)) ?_ | refine callG_pc (fun hG => pc_spec_ReadsOf a) (by first | (simp; done) | (simp [inR_iff]; done) | (simp [inR_iff]; grind) | grind) (fun hG => by simp [go_sem]) rfl rfl (by first | exact Or.inl rfl | exact Or.inr rfl) ?_
    simp (config := {maxSteps := 10000000}) [go_sem, ty3, ty4, ty24, qn, q1]
    first | refine callG_false (.l (.t (.bool false))) ?_ | refine callG_pc (fun hG => pc_spec_l19Meets (writesOf b) (readsOf a) (by omega) (by omega)) (by first | (simp; done) | (simp [inR_iff]; done) | (simp [inR_iff]; grind) | grind) (fun hG => by simp [go_sem]) rfl rfl (by first | exact Or.inl rfl | exact Or.inr rfl) ?_
    simp (config := {maxSteps := 10000000}) [go_sem, ty3, ty4, ty24, ty45, qn, q1]
    first | refine callG_false (.l (.nil)) ?_ | refine callG_pc (fun hG => pc_spec_WritesOf a) (by first | (simp; done) | (simp [inR_iff]; done) | (simp [inR_iff]; grind) | grind) (fun hG => by simp [go_sem]) rfl rfl (by first | exact Or.inl rfl | exact Or.inr rfl) ?_
    simp (config := {maxSteps := 10000000}) [go_sem, ty3, ty24, ty45, qn, q1]
    first | refine callG_false (.l (.nil)) ?_ | refine callG_pc (fun hG => pc_spec_WritesOf b) (by first | (simp; done) | (simp [inR_iff]; done) | (simp [inR_iff]; grind) | grind) (fun hG => by simp [go_sem]) rfl rfl (by first | exact Or.inl rfl | exact Or.inr rfl) ?_
    simp (config := {maxSteps := 10000000}) [go_sem, ty3, ty4, ty24, qn, q1]
    first | refine callG_false (.l (.t (.bool false))) ?_ | refine callG_pc (fun hG => pc_spec_l19Meets (writesOf a) (writesOf b) (by omega) (by omega)) (by first | (simp; done) | (simp [inR_iff]; done) | (simp [inR_iff]; grind) | grind) (fun hG => by simp [go_sem]) rfl rfl (by first | exact Or.inl rfl | exact Or.inr rfl) ?_
    simp (config := {maxSteps := 10000000}) [go_sem, ty4, qn, q1]
    first | refine h2 _ ?_ | refine ⟨by omega, h2 _ ?_⟩ | refine ⟨by omega, by omega, h2 _ ?_⟩ | (repeat (refine ⟨by first | omega | grind, ?_⟩)); refine h2 _ ?_
    clear h2 K2
    refine W_ret ?_
    simp [go_sem, apartE, q, q1]
  · refine W_drawO true [0, 1, 2, 3, 4, 5, 6, 8, 7, 9, 10, 11, 12, 13, 14, 16, 15, 17, 18, 19, 20, 21, 22, 24, 23, 25, 26, 27, 28, 29] mixed (by decide +kernel) ?_
    have qn : (a.who != b.who) = true := by simpa using q
    simp (config := {maxSteps := 10000000}) [go_sem, ty3, ty4, ty24, ty45, qn, q1, q2]
    first | refine callG_false (.l (.nil)) ?_ | refine callG_pc (fun hG => pc_spec_WritesOf a) (by first | (simp; done) | (simp [inR_iff]; done) | (simp [inR_iff]; grind) | grind) (fun hG => by simp [go_sem]) rfl rfl (by first | exact Or.inl rfl | exact Or.inr rfl) ?_
    simp (config := {maxSteps := 10000000}) [go_sem, ty3, ty24, ty45, qn, q1, q2]
    first | refine callG_false (.l (.nil)) ?_ | refine callG_pc (fun hG => pc_spec_ReadsOf b) (by first | (simp; done) | (simp [inR_iff]; done) | (simp [inR_iff]; grind) | grind) (fun hG => by simp [go_sem]) rfl rfl (by first | exact Or.inl rfl | exact Or.inr rfl) ?_
    simp (config := {maxSteps := 10000000}) [go_sem, ty3, ty4, ty24, qn, q1, q2]
    first | refine callG_false (.l (.t (.bool false))) ?_ | refine callG_pc (fun hG => pc_spec_l19Meets (writesOf a) (readsOf b) (by omega) (by omega)) (by first | (simp; done) | (simp [inR_iff]; done) | (simp [inR_iff]; grind) | grind) (fun hG => by simp [go_sem]) rfl rfl (by first | exact Or.inl rfl | exact Or.inr rfl) ?_
    simp (config := {maxSteps := 10000000}) [go_sem, ty3, ty4, ty24, ty45, qn, q1, q2]
    first | refine callG_false (.l (.nil)) ?_ | refine callG_pc (fun hG => pc_spec_WritesOf b) (by first | (simp; done) | (simp [inR_iff]; done) | (simp [inR_iff]; grind) | grind) (fun hG => by simp [go_sem]) rfl rfl (by first | exact Or.inl rfl | exact Or.inr rfl) ?_
    simp (config := {maxSteps := 10000000}) [go_sem, ty3, ty24, ty45, qn, q1, q2]
    first | refine callG_false (.l (.nil)) ?_ | refine callG_pc (fun hG => pc_spec_ReadsOf a) (by first | (simp; done) | (simp [inR_iff]; done) | (simp [inR_iff]; grind) | grind) (fun hG => by simp [go_sem]) rfl rfl (by first | exact Or.inl rfl | exact Or.inr rfl) ?_
    simp (config := {maxSteps := 10000000}) [go_sem, ty3, ty4, ty24, qn, q1, q2]
    first | refine callG_false (.l (.t (.bool false))) ?_ | refine callG_pc (fun hG => pc_spec_l19Meets (writesOf b) (readsOf a) (by omega) (by omega)) (by first | (simp; done) | (simp [inR_iff]; done) | (simp [inR_iff]; grind) | grind) (fun hG => by simp [go_sem]) rfl rfl (by first | exact Or.inl rfl | exact Or.inr rfl) ?_
    simp (config := {maxSteps := 10000000}) [go_sem, ty3, ty4, ty24, ty45, qn, q1, q2]
    first | refine callG_false (.l (.nil)) ?_ | refine callG_pc (fun hG => pc_spec_WritesOf a) (by first | (simp; done) | (simp [inR_iff]; done) | (simp [inR_iff]; grind) | grind) (fun hG => by simp [go_sem]) rfl rfl (by first | exact Or.inl rfl | exact Or.inr rfl) ?_
    simp (config := {maxSteps := 10000000}) [go_sem, ty3, ty24, ty45, qn, q1, q2]
    first | refine callG_false (.l (.nil)) ?_ | refine callG_pc (fun hG => pc_spec_WritesOf b) (by first | (simp; done) | (simp [inR_iff]; done) | (simp [inR_iff]; grind) | grind) (fun hG => by simp [go_sem]) rfl rfl (by first | exact Or.inl rfl | exact Or.inr rfl) ?_
    simp (config := {maxSteps := 10000000}) [go_sem, ty3, ty4, ty24, qn, q1, q2]
    first | refine callG_false (.l (.t (.bool false))) ?_ | refine callG_pc (fun hG => pc_spec_l19Meets (writesOf a) (writesOf b) (by omega) (by omega)) (by first | (simp; done) | (simp [inR_iff]; done) | (simp [inR_iff]; grind) | grind) (fun hG => by simp [go_sem]) rfl rfl (by first | exact Or.inl rfl | exact Or.inr rfl) ?_
    simp (config := {maxSteps := 10000000}) [go_sem, ty4, qn, q1, q2]
    first | refine h2 _ ?_ | refine ⟨by omega, h2 _ ?_⟩ | refine ⟨by omega, by omega, h2 _ ?_⟩ | (repeat (refine ⟨by first | omega | grind, ?_⟩)); refine h2 _ ?_
    clear h2 K2
    refine W_ret ?_
    simp [go_sem, apartE, q, q1, q2]
  · refine W_drawO true [0, 1, 2, 3, 4, 5, 6, 8, 7, 9, 10, 11, 12, 13, 14, 16, 15, 17, 18, 19, 20, 21, 22, 24, 23, 25, 26, 27, 28, 29] mixed (by decide +kernel) ?_
    have qn : (a.who != b.who) = true := by simpa using q
    simp (config := {maxSteps := 10000000}) [go_sem, ty3, ty4, ty24, ty45, qn, q1, q2]
    first | refine callG_false (.l (.nil)) ?_ | refine callG_pc (fun hG => pc_spec_WritesOf a) (by first | (simp; done) | (simp [inR_iff]; done) | (simp [inR_iff]; grind) | grind) (fun hG => by simp [go_sem]) rfl rfl (by first | exact Or.inl rfl | exact Or.inr rfl) ?_
    simp (config := {maxSteps := 10000000}) [go_sem, ty3, ty24, ty45, qn, q1, q2]
    first | refine callG_false (.l (.nil)) ?_ | refine callG_pc (fun hG => pc_spec_ReadsOf b) (by first | (simp; done) | (simp [inR_iff]; done) | (simp [inR_iff]; grind) | grind) (fun hG => by simp [go_sem]) rfl rfl (by first | exact Or.inl rfl | exact Or.inr rfl) ?_
    simp (config := {maxSteps := 10000000}) [go_sem, ty3, ty4, ty24, qn, q1, q2]
    first | refine callG_false (.l (.t (.bool false))) ?_ | refine callG_pc (fun hG => pc_spec_l19Meets (writesOf a) (readsOf b) (by omega) (by omega)) (by first | (simp; done) | (simp [inR_iff]; done) | (simp [inR_iff]; grind) | grind) (fun hG => by simp [go_sem]) rfl rfl (by first | exact Or.inl rfl | exact Or.inr rfl) ?_
    simp (config := {maxSteps := 10000000}) [go_sem, ty3, ty4, ty24, ty45, qn, q1, q2]
    first | refine callG_false (.l (.nil)) ?_ | refine callG_pc (fun hG => pc_spec_WritesOf b) (by first | (simp; done) | (simp [inR_iff]; done) | (simp [inR_iff]; grind) | grind) (fun hG => by simp [go_sem]) rfl rfl (by first | exact Or.inl rfl | exact Or.inr rfl) ?_
    simp (config := {maxSteps := 10000000}) [go_sem, ty3, ty24, ty45, qn, q1, q2]
    first | refine callG_false (.l (.nil)) ?_ | refine callG_pc (fun hG => pc_spec_ReadsOf a) (by first | (simp; done) | (simp [inR_iff]; done) | (simp [inR_iff]; grind) | grind) (fun hG => by simp [go_sem]) rfl rfl (by first | exact Or.inl rfl | exact Or.inr rfl) ?_
    simp (config := {maxSteps := 10000000}) [go_sem, ty3, ty4, ty24, qn, q1, q2]
    first | refine callG_false (.l (.t (.bool false))) ?_ | refine callG_pc (fun hG => pc_spec_l19Meets (writesOf b) (readsOf a) (by omega) (by omega)) (by first | (simp; done) | (simp [inR_iff]; done) | (simp [inR_iff]; grind) | grind) (fun hG => by simp [go_sem]) rfl rfl (by first | exact Or.inl rfl | exact Or.inr rfl) ?_
    simp (config := {maxSteps := 10000000}) [go_sem, ty3, ty4, ty24, ty45, qn, q1, q2]
    first | refine callG_false (.l (.nil)) ?_ | refine callG_pc (fun hG => pc_spec_WritesOf a) (by first | (simp; done) | (simp [inR_iff]; done) | (simp [inR_iff]; grind) | grind) (fun hG => by simp [go_sem]) rfl rfl (by first | exact Or.inl rfl | exact Or.inr rfl) ?_
    simp (config := {maxSteps := 10000000}) [go_sem, ty3, ty24, ty45, qn, q1, q2]
    first | refine callG_false (.l (.nil)) ?_ | refine callG_pc (fun hG => pc_spec_WritesOf b) (by first | (simp; done) | (simp [inR_iff]; done) | (simp [inR_iff]; grind) | grind) (fun hG => by simp [go_sem]) rfl rfl (by first | exact Or.inl rfl | exact Or.inr rfl) ?_
    simp (config := {maxSteps := 10000000}) [go_sem, ty3, ty4, ty24, qn, q1, q2]
    first | refine callG_false (.l (.t (.bool false))) ?_ | refine callG_pc (fun hG => pc_spec_l19Meets (writesOf a) (writesOf b) (by omega) (by omega)) (by first | (simp; done) | (simp [inR_iff]; done) | (simp [inR_iff]; grind) | grind) (fun hG => by simp [go_sem]) rfl rfl (by first | exact Or.inl rfl | exact Or.inr rfl) ?_
    simp (config := {maxSteps := 10000000}) [go_sem, ty4, qn, q1, q2]
    first | refine h2 _ ?_ | refine ⟨by omega, h2 _ ?_⟩ | refine ⟨by omega, by omega, h2 _ ?_⟩ | (repeat (refine ⟨by first | omega | grind, ?_⟩)); refine h2 _ ?_
    clear h2 K2
    refine W_ret ?_
    simp [go_sem, apartE, q, q1, q2]
end Go.Tw
