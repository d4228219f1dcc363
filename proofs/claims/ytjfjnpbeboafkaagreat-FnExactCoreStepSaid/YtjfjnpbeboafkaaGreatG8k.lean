/- Walks of functions: spec.l10Copy, impl.copyBlocks, spec.l11Copy, impl.CacheAdd, spec.CacheAdd, impl.copyCore, spec.l12Copy -/
import Derived.Test.YtjfjnpbeboafkaaGreatG8b
import Derived.Test.YtjfjnpbeboafkaaGreatBaseG
set_option linter.unusedSimpArgs false
set_option linter.unusedVariables false
set_option linter.unnecessarySimpa false
namespace Go.Tw
open Go.Proofs

set_option maxRecDepth 100000 in
set_option maxHeartbeats 4000000 in
theorem pc_spec_l10Copy (b : GBlock) (hx : b.list.length ≤ 1048576) : PC Tryz.prog 86 [(true, eBlock b)] [(true, eBlock b)] := by
  refine PC_of (n := 10) Tryz.func86 rfl rfl rfl rfl (by simp) ?_
  refine W_seqK fun K1 h1 => ?_
  refine W_reg ?_
  simp [go_sem, ty74]
  repeat refine tk ?_
  refine h1 _ ?_
  clear h1 K1
  refine W_seqK fun K2 h2 => ?_
  refine W_drawS true (.op 0 (.op 3 (.op 4 (.fork 1 (.op 2 (.op 5 (.op 6 (.op 7 .nil)))) 2 (.fork 1 (.op 5 (.op 6 (.op 7 .nil))) 5 (.op 1 (.op 6 (.op 7 .nil)))))))) mixed (by decide +kernel) rfl ?_
  simp (config := {maxSteps := 10000000}) [go_sem, ty68, ty72, ty74]
  refine ⟨?_, ?_⟩
  · try simp (config := {maxSteps := 10000000}) [go_sem, ty3, ty68, ty72, ty74, fw74]
    repeat refine tk ?_
    refine h2 _ ?_
    clear h2 K2
    refine W_ret ?_
    simp [go_sem, ty74]
  · try simp (config := {maxSteps := 10000000}) [go_sem, ty3, ty68, ty72, ty74, fw74]
    try (apply And.intro)
    all_goals
      repeat refine tk ?_
      refine h2 _ ?_
      clear h2 K2
      refine W_ret ?_
      simp [go_sem, ty74]

set_option maxRecDepth 100000 in
set_option maxHeartbeats 4000000 in
theorem pc_impl_copyBlocks (xs : List GBlock) (hx : xs.length ≤ 1048576) (hq : ∀ a ∈ xs, a.small) : PC Tryz.prog 105 [(false, [.sl 2 (enc eBlock xs)])] [(false, [.sl 2 (enc eBlock xs)])] := by
  refine PC_of (n := 24) Tryz.func105 rfl rfl rfl rfl (by simp) ?_
  refine W_seqK fun K1 h1 => ?_
  refine W_reg ?_
  simp [go_sem, ty37, ty74]
  repeat refine tk ?_
  refine h1 _ ?_
  clear h1 K1
  refine W_seqK fun K2 h2 => ?_
  refine W_reg ?_
  simp [go_sem, ty37, ty74]
  repeat refine tk ?_
  refine h2 _ ?_
  clear h2 K2
  refine W_seqK fun K3 h3 => ?_
  refine W_seqK fun K4 h4 => ?_
  refine W_reg ?_
  simp [go_sem, ty3, ty37, ty74]
  repeat refine tk ?_
  refine h4 _ ?_
  clear h4 K4
  refine W_block ?_
  refine W_loopI (α := Nat) (fun i => ({ env := [(3, true, .l (.ref 40 [] 2 0 (i))), (7, true, .l (.ref 0 [] 2 0 (xs.length))), (8, true, .l (.t (.int .i64 (xs.length)))), (9, true, .l (.t (.int .i64 (i))))], box := [], row := [(40, ⟨.own, 2, enc eBlock (xs.take i)⟩), (0, ⟨.ro, 2, enc eBlock xs⟩)], nxt := 41, sav := [] } : St)) (fun i => i ≤ xs.length) (fun i => xs.length - i) 0 ?_ ?_ ?_
  · exact (Sub.nilRow (t := 3) (nm := 40) (z := 2) (by rfl) (by rfl)).trans (Sub.of_neat [3, 7, 8, 9] [40, 0] [] 41 (by decide) (by simp [go_sem]))
  · exact Nat.zero_le _
  rintro i hinv
  refine W_seqK fun K6 h6 => ?_
  refine W_reg ?_
  simp [go_sem, ty3]
  repeat refine tk ?_
  refine h6 _ ?_
  clear h6 K6
  refine W_seqK fun K7 h7 => ?_
  refine W_cond rfl (fun hb8 => ?_) fun hb8 => ?_
  · have hlt : i < xs.length := by simpa using hb8
    have hmin : min i xs.length = i := by omega
    have htk := List.take_append_getElem hlt
    clear hb8
    refine W_skip ?_
    repeat refine tk ?_
    refine h7 _ ?_
    clear h7 K7
    refine W_seqK fun K9 h9 => ?_
    refine W_block ?_
    refine W_seqK fun K10 h10 => ?_
    refine W_reg ?_
    simp [go_sem, ty37, ty74, hlt, hmin]
    repeat refine tk ?_
    refine h10 _ ?_
    clear h10 K10
    refine W_drawS true (.op 0 (.op 1 (.op 3 (.fork 2 (.op 4 (.op 5 (.op 6 (.op 7 (.op 8 (.op 9 .nil)))))) 4 (.fork 2 (.op 5 (.op 6 (.op 7 (.op 8 (.op 9 .nil))))) 5 (.op 2 (.op 6 (.op 7 (.op 8 (.op 9 .nil)))))))))) mixed (by decide +kernel) rfl ?_
    simp (config := {maxSteps := 10000000}) [go_sem, ty37, ty74, hlt, hmin]
    refine ⟨?_, ?_⟩
    · try simp (config := {maxSteps := 10000000}) [go_sem, ty3, ty68, ty72, hlt, hmin]
      refine callA (fun hG => pc_slices_Clone_impl_Ins_impl_Ins xs[i].list (by have := hq _ (List.getElem_mem hlt); unfold GBlock.small at this; omega)) (fun hG => by simp [go_sem, hlt, hmin]) rfl rfl ?_
      try simp (config := {maxSteps := 10000000}) [go_sem, ty37, ty74, fw74, hlt, hmin]
      repeat refine tk ?_
      refine h9 _ ?_
      clear h9 K9
      refine W_reg ?_
      simp [go_sem, ty3, hlt, hmin]
      refine ⟨i + 1, ?_, ?_, ?_⟩
      · exact (Sub.swp_row 45 40 rfl).trans (Sub.of_neat [3, 7, 8, 9] [40, 0] [] 41 (by decide) (by simp [go_sem, wrap_succ (show i < 9223372036854775807 by omega), hlt, hmin, htk]))
      · exact hlt
      · omega
    · try simp (config := {maxSteps := 10000000}) [go_sem, ty68, ty72, hlt, hmin]
      refine ⟨?_, ?_⟩
      · try simp (config := {maxSteps := 10000000}) [go_sem, ty3, ty68, ty72, hlt, hmin]
        refine callA (fun hG => pc_slices_Clone_impl_Ins_impl_Ins xs[i].list (by have := hq _ (List.getElem_mem hlt); unfold GBlock.small at this; omega)) (fun hG => by simp [go_sem, hlt, hmin]) rfl rfl ?_
        try simp (config := {maxSteps := 10000000}) [go_sem, ty37, ty74, fw74, hlt, hmin]
        repeat refine tk ?_
        refine h9 _ ?_
        clear h9 K9
        refine W_reg ?_
        simp [go_sem, ty3, hlt, hmin]
        refine ⟨i + 1, ?_, ?_, ?_⟩
        · exact (Sub.swp_row 45 40 rfl).trans (Sub.of_neat [3, 7, 8, 9] [40, 0] [] 41 (by decide) (by simp [go_sem, wrap_succ (show i < 9223372036854775807 by omega), hlt, hmin, htk]))
        · exact hlt
        · omega
      · try simp (config := {maxSteps := 10000000}) [go_sem, ty68, ty72, hlt, hmin]
        refine callA (fun hG => pc_slices_Clone_impl_Ins_impl_Ins xs[i].list (by have := hq _ (List.getElem_mem hlt); unfold GBlock.small at this; omega)) (fun hG => by simp [go_sem, hlt, hmin]) rfl rfl ?_
        try simp (config := {maxSteps := 10000000}) [go_sem, ty3, ty37, ty74, fw74, hlt, hmin]
        repeat refine tk ?_
        refine h9 _ ?_
        clear h9 K9
        refine W_reg ?_
        simp [go_sem, ty3, hlt, hmin]
        refine ⟨i + 1, ?_, ?_, ?_⟩
        · exact (Sub.swp_row 45 40 rfl).trans (Sub.of_neat [3, 7, 8, 9] [40, 0] [] 41 (by decide) (by simp [go_sem, wrap_succ (show i < 9223372036854775807 by omega), hlt, hmin, htk]))
        · exact hlt
        · omega
  · obtain rfl : i = xs.length := by simp at hb8; omega
    clear hb8
    refine W_exit ?_
    simp [go_sem]
    repeat refine tk ?_
    refine h3 _ ?_
    clear h7 K7 h3 K3
    refine W_seqK fun K11 h11 => ?_
    refine W_reg ?_
    simp [go_sem, ty37, ty74]
    repeat refine tk ?_
    refine h11 _ ?_
    clear h11 K11
    refine W_ret ?_
    simp [go_sem]

set_option maxRecDepth 100000 in
set_option maxHeartbeats 4000000 in
theorem pc_spec_l11Copy (xs : List GBlock) (hx : xs.length ≤ 1048576) (hq : ∀ a ∈ xs, a.small) : PC Tryz.prog 79 [(false, [.sl 2 (enc eBlock xs)])] [(false, [.sl 2 (enc eBlock xs)])] := by
  refine PC_of (n := 21) Tryz.func79 rfl rfl rfl rfl (by simp) ?_
  refine W_seqK fun K1 h1 => ?_
  refine W_reg ?_
  simp [go_sem, ty37, ty74]
  repeat refine tk ?_
  refine h1 _ ?_
  clear h1 K1
  refine W_seqK fun K2 h2 => ?_
  refine W_reg ?_
  simp [go_sem, ty37, ty74]
  repeat refine tk ?_
  refine h2 _ ?_
  clear h2 K2
  refine W_seqK fun K3 h3 => ?_
  refine W_seqK fun K4 h4 => ?_
  refine W_reg ?_
  simp [go_sem, ty3]
  repeat refine tk ?_
  refine h4 _ ?_
  clear h4 K4
  refine W_block ?_
  refine W_loopI (α := Nat) (fun i => ({ env := [(3, true, .l (.ref 40 [] 2 0 (i))), (0, true, .l (.ref 0 [] 2 0 (xs.length))), (4, true, .l (.t (.int .i64 (i))))], box := [], row := [(40, ⟨.own, 2, enc eBlock (xs.take i)⟩), (0, ⟨.ro, 2, enc eBlock xs⟩)], nxt := 41, sav := [] } : St)) (fun i => i ≤ xs.length) (fun i => xs.length - i) 0 ?_ ?_ ?_
  · exact (Sub.nilRow (t := 3) (nm := 40) (z := 2) (by rfl) (by rfl)).trans (Sub.of_neat [3, 0, 4] [40, 0] [] 41 (by decide) (by simp [go_sem]))
  · exact Nat.zero_le _
  rintro i hinv
  refine W_seqK fun K6 h6 => ?_
  refine W_seqK fun K7 h7 => ?_
  refine W_reg ?_
  simp [go_sem, ty3, ty4, ty37, ty74]
  repeat refine tk ?_
  refine h7 _ ?_
  clear h7 K7
  refine W_cond rfl (fun hb8 => ?_) fun hb8 => ?_
  · have hlt : i < xs.length := by simpa using hb8
    have hmin : min i xs.length = i := by omega
    have htk := List.take_append_getElem hlt
    clear hb8
    refine W_skip ?_
    repeat refine tk ?_
    refine h6 _ ?_
    clear h6 K6
    refine W_seqK fun K9 h9 => ?_
    refine W_block ?_
    refine W_reg ?_
    simp [go_sem, ty3, ty37, ty74, hlt, hmin]
    refine callA (fun hG => pc_spec_l10Copy xs[i] (by have := hq _ (List.getElem_mem hlt); unfold GBlock.small at this; omega)) (fun hG => by simp [go_sem, hlt, hmin]) rfl rfl ?_
    simp [go_sem, ty37, ty74, hlt, hmin]
    repeat refine tk ?_
    refine h9 _ ?_
    clear h9 K9
    refine W_reg ?_
    simp [go_sem, ty3, hlt, hmin]
    refine ⟨i + 1, ?_, ?_, ?_⟩
    · exact (Sub.swp_row 44 40 rfl).trans (Sub.of_neat [3, 0, 4] [40, 0] [] 41 (by decide) (by simp [go_sem, wrap_succ (show i < 9223372036854775807 by omega), hlt, hmin, htk]))
    · exact hlt
    · omega
  · obtain rfl : i = xs.length := by simp at hb8; omega
    clear hb8
    refine W_exit ?_
    simp [go_sem]
    repeat refine tk ?_
    refine h3 _ ?_
    clear h6 K6 h3 K3
    refine W_seqK fun K10 h10 => ?_
    refine W_reg ?_
    simp [go_sem, ty37, ty74]
    repeat refine tk ?_
    refine h10 _ ?_
    clear h10 K10
    refine W_ret ?_
    simp [go_sem]

set_option maxRecDepth 100000 in
set_option maxHeartbeats 4000000 in
theorem pc_impl_CacheAdd (xs : List GBlock) (b : GBlock) (hx : xs.length ≤ 1048576) (hq : ∀ a ∈ xs, a.small) (hb : b.small) : PC Tryz.prog 46 [(false, [.sl 2 (enc eBlock xs)]), (true, eBlock b)] [(false, [.sl 2 (enc eBlock (cacheAdd xs b))])] := by
  have hb1 := hb
  unfold GBlock.small at hb1
  refine PC_of (n := 26) Tryz.func46 rfl rfl rfl rfl (by simp) ?_
  refine W_seqK fun K1 h1 => ?_
  refine W_reg ?_
  simp [go_sem, ty37, ty74]
  repeat refine tk ?_
  refine h1 _ ?_
  clear h1 K1
  refine W_seqK fun K2 h2 => ?_
  refine W_reg ?_
  simp [go_sem, ty37, ty74]
  refine callA (fun hG => pc_impl_copyBlocks xs (by first | assumption | omega) (by first | assumption | omega)) (fun hG => by simp [go_sem]) rfl rfl ?_
  simp [go_sem, ty37, ty74]
  repeat refine tk ?_
  refine h2 _ ?_
  clear h2 K2
  refine W_seqK fun K3 h3 => ?_
  refine W_seqK fun K4 h4 => ?_
  refine W_reg ?_
  simp [go_sem, ty4, ty74]
  refine callA (fun hG => pc_impl_BlockOk b (by first | assumption | omega)) (fun hG => by simp [go_sem]) rfl rfl ?_
  simp [go_sem, ty4]
  repeat refine tk ?_
  refine h4 _ ?_
  clear h4 K4
  refine W_cond rfl (fun hb5 => ?_) fun hb5 => ?_
  · have q : cacheAdd xs b = xs := cacheAdd_no (by simpa using hb5)
    clear hb5
    refine W_seqK fun K6 h6 => ?_
    refine W_reg ?_
    simp [go_sem, ty37, ty74]
    repeat refine tk ?_
    refine h6 _ ?_
    clear h6 K6
    refine W_ret ?_
    simp [go_sem, q]
  · have qb : blockOk b = true := by simpa using hb5
    clear hb5
    refine W_skip ?_
    repeat refine tk ?_
    refine h3 _ ?_
    clear h3 K3
    refine W_seqK fun K7 h7 => ?_
    refine W_seqK fun K8 h8 => ?_
    refine W_reg ?_
    simp [go_sem, ty3, ty4, ty37, ty74]
    repeat refine tk ?_
    refine h8 _ ?_
    clear h8 K8
    refine W_cond rfl (fun hb9 => ?_) fun hb9 => ?_
    · have q5 : 5 ≤ xs.length := by simp at hb9; omega
      have q := cacheAdd_full qb q5
      clear hb9
      refine W_reg ?_
      simp [go_sem, ty37, ty74, q5]
      repeat refine tk ?_
      refine h7 _ ?_
      clear h7 K7
      refine W_seqK fun K10 h10 => ?_
      refine W_drawS true (.op 0 (.op 1 (.op 3 (.fork 2 (.op 4 (.op 5 (.op 6 (.op 7 (.op 8 (.op 9 .nil)))))) 4 (.fork 2 (.op 5 (.op 6 (.op 7 (.op 8 (.op 9 .nil))))) 5 (.op 2 (.op 6 (.op 7 (.op 8 (.op 9 .nil)))))))))) mixed (by decide +kernel) rfl ?_
      simp (config := {maxSteps := 10000000}) [go_sem, ty37, ty74, q5]
      refine ⟨?_, ?_⟩
      · try simp (config := {maxSteps := 10000000}) [go_sem, ty3, ty68, ty72, q5]
        refine callA (fun hG => pc_slices_Clone_impl_Ins_impl_Ins b.list (by first | assumption | omega)) (fun hG => by simp [go_sem, q5]) rfl rfl ?_
        try simp (config := {maxSteps := 10000000}) [go_sem, ty37, ty74, fw74, q5]
        repeat refine tk ?_
        refine h10 _ ?_
        clear h10 K10
        refine W_ret ?_
        simp [go_sem, q]
      · try simp (config := {maxSteps := 10000000}) [go_sem, ty68, ty72, fw74, q5]
        refine ⟨?_, ?_⟩
        · try simp (config := {maxSteps := 10000000}) [go_sem, ty3, ty68, ty72, fw74, q5]
          refine callA (fun hG => pc_slices_Clone_impl_Ins_impl_Ins b.list (by first | assumption | omega)) (fun hG => by simp [go_sem, q5]) rfl rfl ?_
          try simp (config := {maxSteps := 10000000}) [go_sem, ty37, ty74, fw74, q5]
          repeat refine tk ?_
          refine h10 _ ?_
          clear h10 K10
          refine W_ret ?_
          simp [go_sem, q]
        · try simp (config := {maxSteps := 10000000}) [go_sem, ty68, ty72, fw74, q5]
          refine callA (fun hG => pc_slices_Clone_impl_Ins_impl_Ins b.list (by first | assumption | omega)) (fun hG => by simp [go_sem, q5]) rfl rfl ?_
          try simp (config := {maxSteps := 10000000}) [go_sem, ty3, ty37, ty74, fw74, q5]
          repeat refine tk ?_
          refine h10 _ ?_
          clear h10 K10
          refine W_ret ?_
          simp [go_sem, q]
    · have q5 : ¬ 5 ≤ xs.length := by simp at hb9; omega
      have q := cacheAdd_room qb q5
      clear hb9
      refine W_skip ?_
      repeat refine tk ?_
      refine h7 _ ?_
      clear h7 K7
      refine W_seqK fun K11 h11 => ?_
      refine W_drawS true (.op 0 (.op 1 (.op 3 (.fork 2 (.op 4 (.op 5 (.op 6 (.op 7 (.op 8 (.op 9 .nil)))))) 4 (.fork 2 (.op 5 (.op 6 (.op 7 (.op 8 (.op 9 .nil))))) 5 (.op 2 (.op 6 (.op 7 (.op 8 (.op 9 .nil)))))))))) mixed (by decide +kernel) rfl ?_
      simp (config := {maxSteps := 10000000}) [go_sem, ty37, ty74, q5]
      refine ⟨?_, ?_⟩
      · try simp (config := {maxSteps := 10000000}) [go_sem, ty3, ty68, ty72, q5]
        refine callA (fun hG => pc_slices_Clone_impl_Ins_impl_Ins b.list (by first | assumption | omega)) (fun hG => by simp [go_sem, q5]) rfl rfl ?_
        try simp (config := {maxSteps := 10000000}) [go_sem, ty37, ty74, fw74, q5]
        repeat refine tk ?_
        refine h11 _ ?_
        clear h11 K11
        refine W_ret ?_
        simp [go_sem, q]
      · try simp (config := {maxSteps := 10000000}) [go_sem, ty68, ty72, fw74, q5]
        refine ⟨?_, ?_⟩
        · try simp (config := {maxSteps := 10000000}) [go_sem, ty3, ty68, ty72, fw74, q5]
          refine callA (fun hG => pc_slices_Clone_impl_Ins_impl_Ins b.list (by first | assumption | omega)) (fun hG => by simp [go_sem, q5]) rfl rfl ?_
          try simp (config := {maxSteps := 10000000}) [go_sem, ty37, ty74, fw74, q5]
          repeat refine tk ?_
          refine h11 _ ?_
          clear h11 K11
          refine W_ret ?_
          simp [go_sem, q]
        · try simp (config := {maxSteps := 10000000}) [go_sem, ty68, ty72, fw74, q5]
          refine callA (fun hG => pc_slices_Clone_impl_Ins_impl_Ins b.list (by first | assumption | omega)) (fun hG => by simp [go_sem, q5]) rfl rfl ?_
          try simp (config := {maxSteps := 10000000}) [go_sem, ty3, ty37, ty74, fw74, q5]
          repeat refine tk ?_
          refine h11 _ ?_
          clear h11 K11
          refine W_ret ?_
          simp [go_sem, q]

set_option maxRecDepth 100000 in
set_option maxHeartbeats 4000000 in
theorem pc_spec_CacheAdd (xs : List GBlock) (b : GBlock) (hx : xs.length ≤ 1048576) (hq : ∀ a ∈ xs, a.small) (hb : b.small) : PC Tryz.prog 27 [(false, [.sl 2 (enc eBlock xs)]), (true, eBlock b)] [(false, [.sl 2 (enc eBlock (cacheAdd xs b))])] := by
  have hb1 := hb
  unfold GBlock.small at hb1
  refine PC_of (n := 24) Tryz.func27 rfl rfl rfl rfl (by simp) ?_
  refine W_seqK fun K1 h1 => ?_
  refine W_reg ?_
  simp [go_sem, ty37, ty74]
  repeat refine tk ?_
  refine h1 _ ?_
  clear h1 K1
  refine W_seqK fun K2 h2 => ?_
  refine W_reg ?_
  simp [go_sem, ty37, ty74]
  refine callA (fun hG => pc_spec_l11Copy xs (by first | assumption | omega) (by first | assumption | omega)) (fun hG => by simp [go_sem]) rfl rfl ?_
  simp [go_sem, ty37, ty74]
  repeat refine tk ?_
  refine h2 _ ?_
  clear h2 K2
  refine W_seqK fun K3 h3 => ?_
  refine W_seqK fun K4 h4 => ?_
  refine W_reg ?_
  simp [go_sem, ty4, ty74]
  refine callA (fun hG => pc_spec_BlockOk b (by first | assumption | omega)) (fun hG => by simp [go_sem]) rfl rfl ?_
  simp [go_sem, ty4]
  repeat refine tk ?_
  refine h4 _ ?_
  clear h4 K4
  refine W_cond rfl (fun hb5 => ?_) fun hb5 => ?_
  · have q : cacheAdd xs b = xs := cacheAdd_no (by simpa using hb5)
    clear hb5
    refine W_seqK fun K6 h6 => ?_
    refine W_reg ?_
    simp [go_sem, ty37, ty74]
    repeat refine tk ?_
    refine h6 _ ?_
    clear h6 K6
    refine W_ret ?_
    simp [go_sem, q]
  · have qb : blockOk b = true := by simpa using hb5
    clear hb5
    refine W_skip ?_
    repeat refine tk ?_
    refine h3 _ ?_
    clear h3 K3
    refine W_seqK fun K7 h7 => ?_
    refine W_seqK fun K8 h8 => ?_
    refine W_reg ?_
    simp [go_sem, ty3, ty4, ty37, ty74]
    repeat refine tk ?_
    refine h8 _ ?_
    clear h8 K8
    refine W_cond rfl (fun hb9 => ?_) fun hb9 => ?_
    · have q5 : 5 ≤ xs.length := by simp at hb9; omega
      have q := cacheAdd_full qb q5
      clear hb9
      refine W_reg ?_
      simp [go_sem, ty37, ty74, q5]
      repeat refine tk ?_
      refine h7 _ ?_
      clear h7 K7
      refine W_seqK fun K10 h10 => ?_
      refine W_reg ?_
      simp [go_sem, ty37, ty74, q5]
      refine callA (fun hG => pc_spec_l10Copy b (by first | assumption | omega)) (fun hG => by simp [go_sem, q5]) rfl rfl ?_
      simp [go_sem, ty37, ty74, q5]
      repeat refine tk ?_
      refine h10 _ ?_
      clear h10 K10
      refine W_ret ?_
      simp [go_sem, q]
    · have q5 : ¬ 5 ≤ xs.length := by simp at hb9; omega
      have q := cacheAdd_room qb q5
      clear hb9
      refine W_skip ?_
      repeat refine tk ?_
      refine h7 _ ?_
      clear h7 K7
      refine W_seqK fun K11 h11 => ?_
      refine W_reg ?_
      simp [go_sem, ty37, ty74, q5]
      refine callA (fun hG => pc_spec_l10Copy b (by first | assumption | omega)) (fun hG => by simp [go_sem, q5]) rfl rfl ?_
      simp [go_sem, ty37, ty74, q5]
      repeat refine tk ?_
      refine h11 _ ?_
      clear h11 K11
      refine W_ret ?_
      simp [go_sem, q]

set_option maxRecDepth 100000 in
set_option maxHeartbeats 4000000 in
theorem pc_impl_copyCore (c : GCore) (hs : c.small) : PC Tryz.prog 42 [(true, eCore c)] [(true, eCore c)] := by
  have hs1 := hs
  unfold GCore.small GHart.small at hs1
  obtain ⟨q0, q1, q2⟩ := hs1
  refine PC_of (n := 10) Tryz.func42 rfl rfl rfl rfl (by simp) ?_
  refine W_seqK fun K1 h1 => ?_
  refine W_reg ?_
  simp [go_sem, ty39]
  repeat refine tk ?_
  refine h1 _ ?_
  clear h1 K1
  refine W_seqK fun K2 h2 => ?_
  refine W_drawO true [0, 1, 3, 4, 2, 5, 6, 7] mixed (by decide +kernel) ?_
  simp [go_sem, ty36, ty37, ty39, ty74]
  refine callA (fun hG => pc_impl_copyHart c.hart (by first | assumption | omega)) (fun hG => by simp [go_sem]) rfl rfl ?_
  simp [go_sem, ty37, ty74]
  refine callA (fun hG => pc_impl_copyBlocks c.cache (by first | assumption | omega) (by first | assumption | omega)) (fun hG => by simp [go_sem]) rfl rfl ?_
  simp [go_sem, ty39, fw39]
  repeat refine tk ?_
  refine h2 _ ?_
  clear h2 K2
  refine W_ret ?_
  simp [go_sem, ty39]

set_option maxRecDepth 100000 in
set_option maxHeartbeats 4000000 in
theorem pc_spec_l12Copy (c : GCore) (hs : c.small) : PC Tryz.prog 23 [(true, eCore c)] [(true, eCore c)] := by
  have hs1 := hs
  unfold GCore.small GHart.small at hs1
  obtain ⟨q0, q1, q2⟩ := hs1
  refine PC_of (n := 10) Tryz.func23 rfl rfl rfl rfl (by simp) ?_
  refine W_seqK fun K1 h1 => ?_
  refine W_reg ?_
  simp [go_sem, ty39]
  repeat refine tk ?_
  refine h1 _ ?_
  clear h1 K1
  refine W_seqK fun K2 h2 => ?_
  refine W_drawO true [0, 1, 3, 4, 2, 5, 6, 7] mixed (by decide +kernel) ?_
  simp [go_sem, ty36, ty37, ty39, ty74]
  refine callA (fun hG => pc_spec_l9Copy c.hart (by first | assumption | omega)) (fun hG => by simp [go_sem]) rfl rfl ?_
  simp [go_sem, ty37, ty74]
  refine callA (fun hG => pc_spec_l11Copy c.cache (by first | assumption | omega) (by first | assumption | omega)) (fun hG => by simp [go_sem]) rfl rfl ?_
  simp [go_sem, ty39, fw39]
  repeat refine tk ?_
  refine h2 _ ?_
  clear h2 K2
  refine W_ret ?_
  simp [go_sem, ty39]
end Go.Tw
