/- Walks of functions: spec.l10Copy, spec.l11Copy, impl.copyBlocks, impl.CacheAdd, spec.CacheAdd -/
import Derived.Test.YtfjoibkopjdomaaE6E
import Derived.Test.YtfjoibkopjdomaaE6L
set_option linter.unusedSimpArgs false
set_option linter.unusedVariables false
set_option linter.unnecessarySimpa false
namespace Go.Tw
open Go.Proofs

set_option maxRecDepth 100000 in
set_option maxHeartbeats 4000000 in
theorem pc_spec_l10Copy (b : GBlock) (hx : b.list.length ≤ 1048576) : PC Try.prog 115 [(true, eBlock b)] [(true, eBlock b)] := by
  refine PC_of (n := 10) Try.func115 rfl rfl rfl rfl (by simp) ?_
  refine W_seqK fun K1 h1 => ?_
  refine W_reg ?_
  simp [go_sem, ty62]
  first | refine h1 _ ?_ | refine ⟨by omega, h1 _ ?_⟩ | refine ⟨by omega, by omega, h1 _ ?_⟩ | (repeat (refine ⟨by first | omega | grind, ?_⟩)); refine h1 _ ?_
  clear h1 K1
  refine W_seqK fun K2 h2 => ?_
  refine W_drawS true (.op 0 (.op 3 (.op 4 (.fork 1 (.op 2 (.op 5 (.op 6 (.op 7 .nil)))) 2 (.fork 1 (.op 5 (.op 6 (.op 7 .nil))) 5 (.op 1 (.op 6 (.op 7 .nil)))))))) mixed (by decide +kernel) rfl ?_
  simp (config := {maxSteps := 10000000}) [go_sem, ty60, ty62, ty69]
  refine ⟨?_, ?_⟩
  · simp (config := {maxSteps := 10000000}) [go_sem, ty3, ty60, ty62, ty69, fw62]
    first | refine h2 _ ?_ | refine ⟨by omega, h2 _ ?_⟩ | refine ⟨by omega, by omega, h2 _ ?_⟩ | (repeat (refine ⟨by first | omega | grind, ?_⟩)); refine h2 _ ?_
    clear h2 K2
    refine W_ret ?_
    simp [go_sem, ty62]
  · try simp (config := {maxSteps := 10000000}) [go_sem, ty3, ty60, ty62, ty69, fw62]
    try (apply And.intro)
    all_goals
      first | refine h2 _ ?_ | refine ⟨by omega, h2 _ ?_⟩ | refine ⟨by omega, by omega, h2 _ ?_⟩ | (repeat (refine ⟨by first | omega | grind, ?_⟩)); refine h2 _ ?_
      clear h2 K2
      refine W_ret ?_
      simp [go_sem, ty62]

set_option maxRecDepth 100000 in
set_option maxHeartbeats 4000000 in
theorem pc_spec_l11Copy (xs : List GBlock) (hx : xs.length ≤ 1048576) (hq : ∀ a ∈ xs, a.small) : PC Try.prog 116 [(false, [.sl 2 (enc eBlock xs)])] [(false, [.sl 2 (enc eBlock xs)])] := by
  refine PC_of (n := 21) Try.func116 rfl rfl rfl rfl (by simp) ?_
  refine W_seqK fun K1 h1 => ?_
  refine W_reg ?_
  simp [go_sem, ty56, ty62]
  first | refine h1 _ ?_ | refine ⟨by omega, h1 _ ?_⟩ | refine ⟨by omega, by omega, h1 _ ?_⟩ | (repeat (refine ⟨by first | omega | grind, ?_⟩)); refine h1 _ ?_
  clear h1 K1
  refine W_seqK fun K2 h2 => ?_
  refine W_reg ?_
  simp [go_sem, ty56, ty62]
  first | refine h2 _ ?_ | refine ⟨by omega, h2 _ ?_⟩ | refine ⟨by omega, by omega, h2 _ ?_⟩ | (repeat (refine ⟨by first | omega | grind, ?_⟩)); refine h2 _ ?_
  clear h2 K2
  refine W_seqK fun K3 h3 => ?_
  refine W_seqK fun K4 h4 => ?_
  refine W_reg ?_
  simp [go_sem, ty3]
  first | refine h4 _ ?_ | refine ⟨by omega, h4 _ ?_⟩ | refine ⟨by omega, by omega, h4 _ ?_⟩ | (repeat (refine ⟨by first | omega | grind, ?_⟩)); refine h4 _ ?_
  clear h4 K4
  refine W_block ?_
  refine W_loopI (α := Nat) (fun i => ({ env := [(3, true, .l (.ref 40 [] 2 0 (i))), (0, true, .l (.ref 0 [] 2 0 (xs.length))), (4, true, .l (.t (.int .i64 (i))))], box := [], row := [(40, ⟨.own, 2, enc eBlock (xs.take i)⟩), (0, ⟨.ro, 2, enc eBlock xs⟩)], nxt := 41, sav := [] } : St)) (fun i => i ≤ xs.length) (fun i => xs.length - i) 0 ?_ ?_ ?_
  · exact (Sub.nilRow (t := 3) (nm := 40) (z := 2) (by rfl) (by rfl)).trans (Sub.of_neat [3, 0, 4] [40, 0] [] 41 (by decide) (by simp [go_sem]))
  · exact Nat.zero_le _
  rintro i hinv
  refine W_seqK fun K6 h6 => ?_
  refine W_seqK fun K7 h7 => ?_
  refine W_reg ?_
  simp [go_sem, ty3, ty4, ty56, ty62]
  first | refine h7 _ ?_ | refine ⟨by omega, h7 _ ?_⟩ | refine ⟨by omega, by omega, h7 _ ?_⟩ | (repeat (refine ⟨by first | omega | grind, ?_⟩)); refine h7 _ ?_
  clear h7 K7
  refine W_cond rfl (fun hb8 => ?_) fun hb8 => ?_
  · have hlt : i < xs.length := by simpa using hb8
    have hmin : min i xs.length = i := by omega
    have htk := List.take_append_getElem hlt
    clear hb8
    refine W_skip ?_
    first | refine h6 _ ?_ | refine ⟨by omega, h6 _ ?_⟩ | refine ⟨by omega, by omega, h6 _ ?_⟩ | (repeat (refine ⟨by first | omega | grind, ?_⟩)); refine h6 _ ?_
    clear h6 K6
    refine W_seqK fun K9 h9 => ?_
    refine W_block ?_
    refine W_reg ?_
    simp [go_sem, ty3, ty56, ty62, hlt, hmin]
    refine callG_pc (fun hG => pc_spec_l10Copy xs[i] (by have := hq _ (List.getElem_mem hlt); unfold GBlock.small at this; omega)) (by first | (simp; done) | (simp [inR_iff]; done) | (simp [inR_iff]; grind) | grind) (fun hG => by simp [go_sem, hlt, hmin]) rfl rfl (by first | exact Or.inl rfl | exact Or.inr rfl) ?_
    simp [go_sem, ty56, ty62, hlt, hmin]
    first | refine h9 _ ?_ | refine ⟨by omega, h9 _ ?_⟩ | refine ⟨by omega, by omega, h9 _ ?_⟩ | (repeat (refine ⟨by first | omega | grind, ?_⟩)); refine h9 _ ?_
    clear h9 K9
    refine W_reg ?_
    simp [go_sem, ty3, hlt, hmin]
    refine ⟨i + 1, ?_, ?_, ?_⟩
    · exact (Sub.swp_row 44 40 rfl).trans (Sub.of_neat [3, 0, 4] [40, 0] [] 41 (by decide) (by simp [go_sem, wrap_succ (show i < 9223372036854775807 by omega), hlt, hmin, htk]))
    · exact hlt
    · omega
  · obtain rfl : i = xs.length := by simp at hb8; omega
    clear hb8
    refine W_exit ?_
    simp [go_sem]
    first | refine h3 _ ?_ | refine ⟨by omega, h3 _ ?_⟩ | refine ⟨by omega, by omega, h3 _ ?_⟩ | (repeat (refine ⟨by first | omega | grind, ?_⟩)); refine h3 _ ?_
    clear h6 K6 h3 K3
    refine W_seqK fun K10 h10 => ?_
    refine W_reg ?_
    simp [go_sem, ty56, ty62]
    first | refine h10 _ ?_ | refine ⟨by omega, h10 _ ?_⟩ | refine ⟨by omega, by omega, h10 _ ?_⟩ | (repeat (refine ⟨by first | omega | grind, ?_⟩)); refine h10 _ ?_
    clear h10 K10
    refine W_ret ?_
    simp [go_sem]

set_option maxRecDepth 100000 in
set_option maxHeartbeats 4000000 in
theorem pc_impl_copyBlocks (xs : List GBlock) (hx : xs.length ≤ 1048576) (hq : ∀ a ∈ xs, a.small) : PC Try.prog 108 [(false, [.sl 2 (enc eBlock xs)])] [(false, [.sl 2 (enc eBlock xs)])] := by
  refine PC_of (n := 24) Try.func108 rfl rfl rfl rfl (by simp) ?_
  refine W_seqK fun K1 h1 => ?_
  refine W_reg ?_
  simp [go_sem, ty56, ty62]
  first | refine h1 _ ?_ | refine ⟨by omega, h1 _ ?_⟩ | refine ⟨by omega, by omega, h1 _ ?_⟩ | (repeat (refine ⟨by first | omega | grind, ?_⟩)); refine h1 _ ?_
  clear h1 K1
  refine W_seqK fun K2 h2 => ?_
  refine W_reg ?_
  simp [go_sem, ty56, ty62]
  first | refine h2 _ ?_ | refine ⟨by omega, h2 _ ?_⟩ | refine ⟨by omega, by omega, h2 _ ?_⟩ | (repeat (refine ⟨by first | omega | grind, ?_⟩)); refine h2 _ ?_
  clear h2 K2
  refine W_seqK fun K3 h3 => ?_
  refine W_seqK fun K4 h4 => ?_
  refine W_reg ?_
  simp [go_sem, ty3, ty56, ty62]
  first | refine h4 _ ?_ | refine ⟨by omega, h4 _ ?_⟩ | refine ⟨by omega, by omega, h4 _ ?_⟩ | (repeat (refine ⟨by first | omega | grind, ?_⟩)); refine h4 _ ?_
  clear h4 K4
  refine W_block ?_
  refine W_loopI (α := Nat) (fun i => ({ env := [(3, true, .l (.ref 40 [] 2 0 (i))), (7, true, .l (.ref 0 [] 2 0 (xs.length))), (8, true, .l (.t (.int .i64 (xs.length)))), (9, true, .l (.t (.int .i64 (i))))], box := [], row := [(40, ⟨.own, 2, enc eBlock (xs.take i)⟩), (0, ⟨.ro, 2, enc eBlock xs⟩)], nxt := 41, sav := [] } : St)) (fun i => i ≤ xs.length) (fun i => xs.length - i) 0 ?_ ?_ ?_
  · exact (Sub.nilRow (t := 3) (nm := 40) (z := 2) (by rfl) (by rfl)).trans (Sub.of_neat [3, 7, 8, 9] [40, 0] [] 41 (by decide) (by simp [go_sem]))
  · exact Nat.zero_le _
  rintro i hinv
  refine W_seqK fun K6 h6 => ?_
  refine W_reg ?_
  simp [go_sem, ty3]
  first | refine h6 _ ?_ | refine ⟨by omega, h6 _ ?_⟩ | refine ⟨by omega, by omega, h6 _ ?_⟩ | (repeat (refine ⟨by first | omega | grind, ?_⟩)); refine h6 _ ?_
  clear h6 K6
  refine W_seqK fun K7 h7 => ?_
  refine W_cond rfl (fun hb8 => ?_) fun hb8 => ?_
  · have hlt : i < xs.length := by simpa using hb8
    have hmin : min i xs.length = i := by omega
    have htk := List.take_append_getElem hlt
    clear hb8
    refine W_skip ?_
    first | refine h7 _ ?_ | refine ⟨by omega, h7 _ ?_⟩ | refine ⟨by omega, by omega, h7 _ ?_⟩ | (repeat (refine ⟨by first | omega | grind, ?_⟩)); refine h7 _ ?_
    clear h7 K7
    refine W_seqK fun K9 h9 => ?_
    refine W_block ?_
    refine W_seqK fun K10 h10 => ?_
    refine W_reg ?_
    simp [go_sem, ty56, ty62, hlt, hmin]
    first | refine h10 _ ?_ | refine ⟨by omega, h10 _ ?_⟩ | refine ⟨by omega, by omega, h10 _ ?_⟩ | (repeat (refine ⟨by first | omega | grind, ?_⟩)); refine h10 _ ?_
    clear h10 K10
    refine W_drawS true (.op 0 (.op 1 (.op 3 (.fork 2 (.op 4 (.op 5 (.op 6 (.op 7 (.op 8 (.op 9 .nil)))))) 4 (.fork 2 (.op 5 (.op 6 (.op 7 (.op 8 (.op 9 .nil))))) 5 (.op 2 (.op 6 (.op 7 (.op 8 (.op 9 .nil)))))))))) mixed (by decide +kernel) rfl ?_
    simp (config := {maxSteps := 10000000}) [go_sem, ty56, ty62, hlt, hmin]
    refine ⟨?_, ?_⟩
    · try simp (config := {maxSteps := 10000000}) [go_sem, ty3, ty60, ty69, hlt, hmin]
      refine callG_pc (fun hG => pc_slices_Clone_impl_Ins_impl_Ins xs[i].list (by have := hq _ (List.getElem_mem hlt); unfold GBlock.small at this; omega)) (by first | (simp; done) | (simp [inR_iff]; done) | (simp [inR_iff]; grind) | grind) (fun hG => by simp [go_sem, hlt, hmin]) rfl rfl (by first | exact Or.inl rfl | exact Or.inr rfl) ?_
      simp (config := {maxSteps := 10000000}) [go_sem, ty56, ty62, fw62, hlt, hmin]
      first | refine h9 _ ?_ | refine ⟨by omega, h9 _ ?_⟩ | refine ⟨by omega, by omega, h9 _ ?_⟩ | (repeat (refine ⟨by first | omega | grind, ?_⟩)); refine h9 _ ?_
      clear h9 K9
      refine W_reg ?_
      simp [go_sem, ty3, hlt, hmin]
      refine ⟨i + 1, ?_, ?_, ?_⟩
      · exact (Sub.swp_row 45 40 rfl).trans (Sub.of_neat [3, 7, 8, 9] [40, 0] [] 41 (by decide) (by simp [go_sem, wrap_succ (show i < 9223372036854775807 by omega), hlt, hmin, htk]))
      · exact hlt
      · omega
    · try simp (config := {maxSteps := 10000000}) [go_sem, ty60, ty69, hlt, hmin]
      refine ⟨?_, ?_⟩
      · try simp (config := {maxSteps := 10000000}) [go_sem, ty3, ty60, ty69, hlt, hmin]
        refine callG_pc (fun hG => pc_slices_Clone_impl_Ins_impl_Ins xs[i].list (by have := hq _ (List.getElem_mem hlt); unfold GBlock.small at this; omega)) (by first | (simp; done) | (simp [inR_iff]; done) | (simp [inR_iff]; grind) | grind) (fun hG => by simp [go_sem, hlt, hmin]) rfl rfl (by first | exact Or.inl rfl | exact Or.inr rfl) ?_
        simp (config := {maxSteps := 10000000}) [go_sem, ty56, ty62, fw62, hlt, hmin]
        first | refine h9 _ ?_ | refine ⟨by omega, h9 _ ?_⟩ | refine ⟨by omega, by omega, h9 _ ?_⟩ | (repeat (refine ⟨by first | omega | grind, ?_⟩)); refine h9 _ ?_
        clear h9 K9
        refine W_reg ?_
        simp [go_sem, ty3, hlt, hmin]
        refine ⟨i + 1, ?_, ?_, ?_⟩
        · exact (Sub.swp_row 45 40 rfl).trans (Sub.of_neat [3, 7, 8, 9] [40, 0] [] 41 (by decide) (by simp [go_sem, wrap_succ (show i < 9223372036854775807 by omega), hlt, hmin, htk]))
        · exact hlt
        · omega
      · try simp (config := {maxSteps := 10000000}) [go_sem, ty60, ty69, hlt, hmin]
        refine callG_pc (fun hG => pc_slices_Clone_impl_Ins_impl_Ins xs[i].list (by have := hq _ (List.getElem_mem hlt); unfold GBlock.small at this; omega)) (by first | (simp; done) | (simp [inR_iff]; done) | (simp [inR_iff]; grind) | grind) (fun hG => by simp [go_sem, hlt, hmin]) rfl rfl (by first | exact Or.inl rfl | exact Or.inr rfl) ?_
        simp (config := {maxSteps := 10000000}) [go_sem, ty3, ty56, ty62, fw62, hlt, hmin]
        first | refine h9 _ ?_ | refine ⟨by omega, h9 _ ?_⟩ | refine ⟨by omega, by omega, h9 _ ?_⟩ | (repeat (refine ⟨by first | omega | grind, ?_⟩)); refine h9 _ ?_
        clear h9 K9
        refine W_reg ?_
        simp [go_sem, ty3, hlt, hmin]
        refine ⟨i + 1, ?_, ?_, ?_⟩
        · exact (Sub.swp_row 45 40 rfl).trans (Sub.of_neat [3, 7, 8, 9] [40, 0] [] 41 (by decide) (by simp [go_sem, wrap_succ (show i < 9223372036854775807 by omega), hlt, hmin, htk]))
        · exact hlt
        · omega
  · obtain rfl : i = xs.length := by simp at hb8; omega
    clear hb8
    refine W_exit ?_
    simp [go_sem]
    first | refine h3 _ ?_ | refine ⟨by omega, h3 _ ?_⟩ | refine ⟨by omega, by omega, h3 _ ?_⟩ | (repeat (refine ⟨by first | omega | grind, ?_⟩)); refine h3 _ ?_
    clear h7 K7 h3 K3
    refine W_seqK fun K11 h11 => ?_
    refine W_reg ?_
    simp [go_sem, ty56, ty62]
    first | refine h11 _ ?_ | refine ⟨by omega, h11 _ ?_⟩ | refine ⟨by omega, by omega, h11 _ ?_⟩ | (repeat (refine ⟨by first | omega | grind, ?_⟩)); refine h11 _ ?_
    clear h11 K11
    refine W_ret ?_
    simp [go_sem]

set_option maxRecDepth 100000 in
set_option maxHeartbeats 4000000 in
theorem pc_impl_CacheAdd (xs : List GBlock) (b : GBlock) (hx : xs.length ≤ 1048576) (hq : ∀ a ∈ xs, a.small) (hb : b.small) : PC Try.prog 45 [(false, [.sl 2 (enc eBlock xs)]), (true, eBlock b)] [(false, [.sl 2 (enc eBlock (cacheAdd xs b))])] := by
  have hb1 := hb
  unfold GBlock.small at hb1
  refine PC_of (n := 26) Try.func45 rfl rfl rfl rfl (by simp) ?_
  refine W_seqK fun K1 h1 => ?_
  refine W_reg ?_
  simp [go_sem, ty56, ty62]
  first | refine h1 _ ?_ | refine ⟨by omega, h1 _ ?_⟩ | refine ⟨by omega, by omega, h1 _ ?_⟩ | (repeat (refine ⟨by first | omega | grind, ?_⟩)); refine h1 _ ?_
  clear h1 K1
  refine W_seqK fun K2 h2 => ?_
  refine W_reg ?_
  simp [go_sem, ty56, ty62]
  refine callG_pc (fun hG => pc_impl_copyBlocks xs (by first | assumption | omega) (by first | assumption | omega)) (by first | (simp; done) | (simp [inR_iff]; done) | (simp [inR_iff]; grind) | grind) (fun hG => by simp [go_sem]) rfl rfl (by first | exact Or.inl rfl | exact Or.inr rfl) ?_
  simp [go_sem, ty56, ty62]
  first | refine h2 _ ?_ | refine ⟨by omega, h2 _ ?_⟩ | refine ⟨by omega, by omega, h2 _ ?_⟩ | (repeat (refine ⟨by first | omega | grind, ?_⟩)); refine h2 _ ?_
  clear h2 K2
  refine W_seqK fun K3 h3 => ?_
  refine W_seqK fun K4 h4 => ?_
  refine W_reg ?_
  simp [go_sem, ty4, ty62]
  refine callG_pc (fun hG => pc_impl_BlockOk b (by first | assumption | omega)) (by first | (simp; done) | (simp [inR_iff]; done) | (simp [inR_iff]; grind) | grind) (fun hG => by simp [go_sem]) rfl rfl (by first | exact Or.inl rfl | exact Or.inr rfl) ?_
  simp [go_sem, ty4]
  first | refine h4 _ ?_ | refine ⟨by omega, h4 _ ?_⟩ | refine ⟨by omega, by omega, h4 _ ?_⟩ | (repeat (refine ⟨by first | omega | grind, ?_⟩)); refine h4 _ ?_
  clear h4 K4
  refine W_cond rfl (fun hb5 => ?_) fun hb5 => ?_
  · have q : cacheAdd xs b = xs := cacheAdd_no (by simpa using hb5)
    clear hb5
    refine W_seqK fun K6 h6 => ?_
    refine W_reg ?_
    simp [go_sem, ty56, ty62]
    first | refine h6 _ ?_ | refine ⟨by omega, h6 _ ?_⟩ | refine ⟨by omega, by omega, h6 _ ?_⟩ | (repeat (refine ⟨by first | omega | grind, ?_⟩)); refine h6 _ ?_
    clear h6 K6
    refine W_ret ?_
    simp [go_sem, q]
  · have qb : blockOk b = true := by simpa using hb5
    clear hb5
    refine W_skip ?_
    first | refine h3 _ ?_ | refine ⟨by omega, h3 _ ?_⟩ | refine ⟨by omega, by omega, h3 _ ?_⟩ | (repeat (refine ⟨by first | omega | grind, ?_⟩)); refine h3 _ ?_
    clear h3 K3
    refine W_seqK fun K7 h7 => ?_
    refine W_seqK fun K8 h8 => ?_
    refine W_reg ?_
    simp [go_sem, ty3, ty4, ty56, ty62]
    first | refine h8 _ ?_ | refine ⟨by omega, h8 _ ?_⟩ | refine ⟨by omega, by omega, h8 _ ?_⟩ | (repeat (refine ⟨by first | omega | grind, ?_⟩)); refine h8 _ ?_
    clear h8 K8
    refine W_cond rfl (fun hb9 => ?_) fun hb9 => ?_
    · have q5 : 5 ≤ xs.length := by simp at hb9; omega
      have q := cacheAdd_full qb q5
      clear hb9
      refine W_reg ?_
      simp [go_sem, ty56, ty62, q5]
      first | refine h7 _ ?_ | refine ⟨by omega, h7 _ ?_⟩ | refine ⟨by omega, by omega, h7 _ ?_⟩ | (repeat (refine ⟨by first | omega | grind, ?_⟩)); refine h7 _ ?_
      clear h7 K7
      refine W_seqK fun K10 h10 => ?_
      refine W_drawS true (.op 0 (.op 1 (.op 3 (.fork 2 (.op 4 (.op 5 (.op 6 (.op 7 (.op 8 (.op 9 .nil)))))) 4 (.fork 2 (.op 5 (.op 6 (.op 7 (.op 8 (.op 9 .nil))))) 5 (.op 2 (.op 6 (.op 7 (.op 8 (.op 9 .nil)))))))))) mixed (by decide +kernel) rfl ?_
      simp (config := {maxSteps := 10000000}) [go_sem, ty56, ty62, q5]
      refine ⟨?_, ?_⟩
      · try simp (config := {maxSteps := 10000000}) [go_sem, ty3, ty60, ty69, q5]
        refine callG_pc (fun hG => pc_slices_Clone_impl_Ins_impl_Ins b.list (by first | assumption | omega)) (by first | (simp; done) | (simp [inR_iff]; done) | (simp [inR_iff]; grind) | grind) (fun hG => by simp [go_sem, q5]) rfl rfl (by first | exact Or.inl rfl | exact Or.inr rfl) ?_
        simp (config := {maxSteps := 10000000}) [go_sem, ty56, ty62, fw62, q5]
        first | refine h10 _ ?_ | refine ⟨by omega, h10 _ ?_⟩ | refine ⟨by omega, by omega, h10 _ ?_⟩ | (repeat (refine ⟨by first | omega | grind, ?_⟩)); refine h10 _ ?_
        clear h10 K10
        refine W_ret ?_
        simp [go_sem, q]
      · try simp (config := {maxSteps := 10000000}) [go_sem, ty60, ty69, fw62, q5]
        refine ⟨?_, ?_⟩
        · try simp (config := {maxSteps := 10000000}) [go_sem, ty3, ty60, ty69, fw62, q5]
          refine callG_pc (fun hG => pc_slices_Clone_impl_Ins_impl_Ins b.list (by first | assumption | omega)) (by first | (simp; done) | (simp [inR_iff]; done) | (simp [inR_iff]; grind) | grind) (fun hG => by simp [go_sem, q5]) rfl rfl (by first | exact Or.inl rfl | exact Or.inr rfl) ?_
          simp (config := {maxSteps := 10000000}) [go_sem, ty56, ty62, fw62, q5]
          first | refine h10 _ ?_ | refine ⟨by omega, h10 _ ?_⟩ | refine ⟨by omega, by omega, h10 _ ?_⟩ | (repeat (refine ⟨by first | omega | grind, ?_⟩)); refine h10 _ ?_
          clear h10 K10
          refine W_ret ?_
          simp [go_sem, q]
        · try simp (config := {maxSteps := 10000000}) [go_sem, ty60, ty69, fw62, q5]
          refine callG_pc (fun hG => pc_slices_Clone_impl_Ins_impl_Ins b.list (by first | assumption | omega)) (by first | (simp; done) | (simp [inR_iff]; done) | (simp [inR_iff]; grind) | grind) (fun hG => by simp [go_sem, q5]) rfl rfl (by first | exact Or.inl rfl | exact Or.inr rfl) ?_
          simp (config := {maxSteps := 10000000}) [go_sem, ty3, ty56, ty62, fw62, q5]
          first | refine h10 _ ?_ | refine ⟨by omega, h10 _ ?_⟩ | refine ⟨by omega, by omega, h10 _ ?_⟩ | (repeat (refine ⟨by first | omega | grind, ?_⟩)); refine h10 _ ?_
          clear h10 K10
          refine W_ret ?_
          simp [go_sem, q]
    · have q5 : ¬ 5 ≤ xs.length := by simp at hb9; omega
      have q := cacheAdd_room qb q5
      clear hb9
      refine W_skip ?_
      first | refine h7 _ ?_ | refine ⟨by omega, h7 _ ?_⟩ | refine ⟨by omega, by omega, h7 _ ?_⟩ | (repeat (refine ⟨by first | omega | grind, ?_⟩)); refine h7 _ ?_
      clear h7 K7
      refine W_seqK fun K11 h11 => ?_
      refine W_drawS true (.op 0 (.op 1 (.op 3 (.fork 2 (.op 4 (.op 5 (.op 6 (.op 7 (.op 8 (.op 9 .nil)))))) 4 (.fork 2 (.op 5 (.op 6 (.op 7 (.op 8 (.op 9 .nil))))) 5 (.op 2 (.op 6 (.op 7 (.op 8 (.op 9 .nil)))))))))) mixed (by decide +kernel) rfl ?_
      simp (config := {maxSteps := 10000000}) [go_sem, ty56, ty62, q5]
      refine ⟨?_, ?_⟩
      · try simp (config := {maxSteps := 10000000}) [go_sem, ty3, ty60, ty69, q5]
        refine callG_pc (fun hG => pc_slices_Clone_impl_Ins_impl_Ins b.list (by first | assumption | omega)) (by first | (simp; done) | (simp [inR_iff]; done) | (simp [inR_iff]; grind) | grind) (fun hG => by simp [go_sem, q5]) rfl rfl (by first | exact Or.inl rfl | exact Or.inr rfl) ?_
        simp (config := {maxSteps := 10000000}) [go_sem, ty56, ty62, fw62, q5]
        first | refine h11 _ ?_ | refine ⟨by omega, h11 _ ?_⟩ | refine ⟨by omega, by omega, h11 _ ?_⟩ | (repeat (refine ⟨by first | omega | grind, ?_⟩)); refine h11 _ ?_
        clear h11 K11
        refine W_ret ?_
        simp [go_sem, q]
      · try simp (config := {maxSteps := 10000000}) [go_sem, ty60, ty69, fw62, q5]
        refine ⟨?_, ?_⟩
        · try simp (config := {maxSteps := 10000000}) [go_sem, ty3, ty60, ty69, fw62, q5]
          refine callG_pc (fun hG => pc_slices_Clone_impl_Ins_impl_Ins b.list (by first | assumption | omega)) (by first | (simp; done) | (simp [inR_iff]; done) | (simp [inR_iff]; grind) | grind) (fun hG => by simp [go_sem, q5]) rfl rfl (by first | exact Or.inl rfl | exact Or.inr rfl) ?_
          simp (config := {maxSteps := 10000000}) [go_sem, ty56, ty62, fw62, q5]
          first | refine h11 _ ?_ | refine ⟨by omega, h11 _ ?_⟩ | refine ⟨by omega, by omega, h11 _ ?_⟩ | (repeat (refine ⟨by first | omega | grind, ?_⟩)); refine h11 _ ?_
          clear h11 K11
          refine W_ret ?_
          simp [go_sem, q]
        · try simp (config := {maxSteps := 10000000}) [go_sem, ty60, ty69, fw62, q5]
          refine callG_pc (fun hG => pc_slices_Clone_impl_Ins_impl_Ins b.list (by first | assumption | omega)) (by first | (simp; done) | (simp [inR_iff]; done) | (simp [inR_iff]; grind) | grind) (fun hG => by simp [go_sem, q5]) rfl rfl (by first | exact Or.inl rfl | exact Or.inr rfl) ?_
          simp (config := {maxSteps := 10000000}) [go_sem, ty3, ty56, ty62, fw62, q5]
          first | refine h11 _ ?_ | refine ⟨by omega, h11 _ ?_⟩ | refine ⟨by omega, by omega, h11 _ ?_⟩ | (repeat (refine ⟨by first | omega | grind, ?_⟩)); refine h11 _ ?_
          clear h11 K11
          refine W_ret ?_
          simp [go_sem, q]

set_option maxRecDepth 100000 in
set_option maxHeartbeats 4000000 in
theorem pc_spec_CacheAdd (xs : List GBlock) (b : GBlock) (hx : xs.length ≤ 1048576) (hq : ∀ a ∈ xs, a.small) (hb : b.small) : PC Try.prog 48 [(false, [.sl 2 (enc eBlock xs)]), (true, eBlock b)] [(false, [.sl 2 (enc eBlock (cacheAdd xs b))])] := by
  have hb1 := hb
  unfold GBlock.small at hb1
  refine PC_of (n := 24) Try.func48 rfl rfl rfl rfl (by simp) ?_
  refine W_seqK fun K1 h1 => ?_
  refine W_reg ?_
  simp [go_sem, ty56, ty62]
  first | refine h1 _ ?_ | refine ⟨by omega, h1 _ ?_⟩ | refine ⟨by omega, by omega, h1 _ ?_⟩ | (repeat (refine ⟨by first | omega | grind, ?_⟩)); refine h1 _ ?_
  clear h1 K1
  refine W_seqK fun K2 h2 => ?_
  refine W_reg ?_
  simp [go_sem, ty56, ty62]
  refine callG_pc (fun hG => pc_spec_l11Copy xs (by first | assumption | omega) (by first | assumption | omega)) (by first | (simp; done) | (simp [inR_iff]; done) | (simp [inR_iff]; grind) | grind) (fun hG => by simp [go_sem]) rfl rfl (by first | exact Or.inl rfl | exact Or.inr rfl) ?_
  simp [go_sem, ty56, ty62]
  first | refine h2 _ ?_ | refine ⟨by omega, h2 _ ?_⟩ | refine ⟨by omega, by omega, h2 _ ?_⟩ | (repeat (refine ⟨by first | omega | grind, ?_⟩)); refine h2 _ ?_
  clear h2 K2
  refine W_seqK fun K3 h3 => ?_
  refine W_seqK fun K4 h4 => ?_
  refine W_reg ?_
  simp [go_sem, ty4, ty62]
  refine callG_pc (fun hG => pc_spec_BlockOk b (by first | assumption | omega)) (by first | (simp; done) | (simp [inR_iff]; done) | (simp [inR_iff]; grind) | grind) (fun hG => by simp [go_sem]) rfl rfl (by first | exact Or.inl rfl | exact Or.inr rfl) ?_
  simp [go_sem, ty4]
  first | refine h4 _ ?_ | refine ⟨by omega, h4 _ ?_⟩ | refine ⟨by omega, by omega, h4 _ ?_⟩ | (repeat (refine ⟨by first | omega | grind, ?_⟩)); refine h4 _ ?_
  clear h4 K4
  refine W_cond rfl (fun hb5 => ?_) fun hb5 => ?_
  · have q : cacheAdd xs b = xs := cacheAdd_no (by simpa using hb5)
    clear hb5
    refine W_seqK fun K6 h6 => ?_
    refine W_reg ?_
    simp [go_sem, ty56, ty62]
    first | refine h6 _ ?_ | refine ⟨by omega, h6 _ ?_⟩ | refine ⟨by omega, by omega, h6 _ ?_⟩ | (repeat (refine ⟨by first | omega | grind, ?_⟩)); refine h6 _ ?_
    clear h6 K6
    refine W_ret ?_
    simp [go_sem, q]
  · have qb : blockOk b = true := by simpa using hb5
    clear hb5
    refine W_skip ?_
    first | refine h3 _ ?_ | refine ⟨by omega, h3 _ ?_⟩ | refine ⟨by omega, by omega, h3 _ ?_⟩ | (repeat (refine ⟨by first | omega | grind, ?_⟩)); refine h3 _ ?_
    clear h3 K3
    refine W_seqK fun K7 h7 => ?_
    refine W_seqK fun K8 h8 => ?_
    refine W_reg ?_
    simp [go_sem, ty3, ty4, ty56, ty62]
    first | refine h8 _ ?_ | refine ⟨by omega, h8 _ ?_⟩ | refine ⟨by omega, by omega, h8 _ ?_⟩ | (repeat (refine ⟨by first | omega | grind, ?_⟩)); refine h8 _ ?_
    clear h8 K8
    refine W_cond rfl (fun hb9 => ?_) fun hb9 => ?_
    · have q5 : 5 ≤ xs.length := by simp at hb9; omega
      have q := cacheAdd_full qb q5
      clear hb9
      refine W_reg ?_
      simp [go_sem, ty56, ty62, q5]
      first | refine h7 _ ?_ | refine ⟨by omega, h7 _ ?_⟩ | refine ⟨by omega, by omega, h7 _ ?_⟩ | (repeat (refine ⟨by first | omega | grind, ?_⟩)); refine h7 _ ?_
      clear h7 K7
      refine W_seqK fun K10 h10 => ?_
      refine W_reg ?_
      simp [go_sem, ty56, ty62, q5]
      refine callG_pc (fun hG => pc_spec_l10Copy b (by first | assumption | omega)) (by first | (simp; done) | (simp [inR_iff]; done) | (simp [inR_iff]; grind) | grind) (fun hG => by simp [go_sem, q5]) rfl rfl (by first | exact Or.inl rfl | exact Or.inr rfl) ?_
      simp [go_sem, ty56, ty62, q5]
      first | refine h10 _ ?_ | refine ⟨by omega, h10 _ ?_⟩ | refine ⟨by omega, by omega, h10 _ ?_⟩ | (repeat (refine ⟨by first | omega | grind, ?_⟩)); refine h10 _ ?_
      clear h10 K10
      refine W_ret ?_
      simp [go_sem, q]
    · have q5 : ¬ 5 ≤ xs.length := by simp at hb9; omega
      have q := cacheAdd_room qb q5
      clear hb9
      refine W_skip ?_
      first | refine h7 _ ?_ | refine ⟨by omega, h7 _ ?_⟩ | refine ⟨by omega, by omega, h7 _ ?_⟩ | (repeat (refine ⟨by first | omega | grind, ?_⟩)); refine h7 _ ?_
      clear h7 K7
      refine W_seqK fun K11 h11 => ?_
      refine W_reg ?_
      simp [go_sem, ty56, ty62, q5]
      refine callG_pc (fun hG => pc_spec_l10Copy b (by first | assumption | omega)) (by first | (simp; done) | (simp [inR_iff]; done) | (simp [inR_iff]; grind) | grind) (fun hG => by simp [go_sem, q5]) rfl rfl (by first | exact Or.inl rfl | exact Or.inr rfl) ?_
      simp [go_sem, ty56, ty62, q5]
      first | refine h11 _ ?_ | refine ⟨by omega, h11 _ ?_⟩ | refine ⟨by omega, by omega, h11 _ ?_⟩ | (repeat (refine ⟨by first | omega | grind, ?_⟩)); refine h11 _ ?_
      clear h11 K11
      refine W_ret ?_
      simp [go_sem, q]
end Go.Tw
