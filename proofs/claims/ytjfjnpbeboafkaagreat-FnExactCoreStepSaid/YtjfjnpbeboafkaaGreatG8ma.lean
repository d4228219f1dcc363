/- Walks of functions: laws.markIntS, laws.heldIntS, laws.markBoolS, laws.heldBoolS, laws.markInsS, laws.heldInsS, laws.markWaitS, laws.heldWaitS, laws.markReceiverS, laws.heldReceiverS -/
import Derived.Test.YtjfjnpbeboafkaaGreatR8Ty
import Derived.Test.YtjfjnpbeboafkaaGreatBaseG
set_option linter.unusedSimpArgs false
set_option linter.unusedVariables false
set_option linter.unnecessarySimpa false
namespace Go.Tw
open Go.Proofs

set_option maxRecDepth 100000 in
set_option maxHeartbeats 4000000 in
theorem mc_laws_markIntS (xs : List Int) (k : Int) (hx : xs.length ≤ 17592186043904) : MC1 Tryz.prog 132 1 (enc eI xs) (enc eI (marks k xs.length)) [.int .i64 k] [.int .i64 (markE k xs.length)] := by
  refine MC1_of (n := 19) Tryz.func132 rfl rfl rfl rfl (by simp) fun a0 => ?_
  refine W_seqK fun K1 h1 => ?_
  refine W_reg ?_
  simp [go_sem, ty3]
  repeat refine tk ?_
  refine h1 _ ?_
  clear h1 K1
  refine W_seqK fun K2 h2 => ?_
  refine W_seqK fun K3 h3 => ?_
  refine W_reg ?_
  simp [go_sem, ty3]
  repeat refine tk ?_
  refine h3 _ ?_
  clear h3 K3
  refine W_block ?_
  refine W_loopI (α := Nat) (fun i => { env := [(0, true, .l (.ref 0 [] 1 0 xs.length)), (1, true, .l (.t (.int .i64 (markE k i)))), (5, true, .l (.t (.int .i64 i)))], box := [], row := [(0, ⟨.own, 1, enc eI (marks k i ++ xs.drop i)⟩)], nxt := 1, sav := [([(0, true, .l (.ref 0 [] 1 0 xs.length))], a0)] }) (fun i => i ≤ xs.length) (fun i => xs.length - i) 0 ?_ ?_ ?_
  · exact Sub.of_to [0, 1, 5] 1 (by decide) (by simp [go_sem, marks, markE])
  · exact Nat.zero_le _
  rintro i hinv
  refine W_seqK fun K5 h5 => ?_
  refine W_seqK fun K6 h6 => ?_
  refine W_reg ?_
  simp [go_sem, ty3, ty4, ty22]
  repeat refine tk ?_
  refine h6 _ ?_
  clear h6 K6
  refine W_cond rfl (fun hb7 => ?_) fun hb7 => ?_
  · have hlt : i < xs.length := by simpa using hb7
    have hm := marks_length k i
    clear hb7
    refine W_skip ?_
    repeat refine tk ?_
    refine h5 _ ?_
    clear h5 K5
    refine W_seqK fun K8 h8 => ?_
    refine W_block ?_
    refine W_seqK fun K9 h9 => ?_
    refine W_reg ?_
    simp [go_sem, ty3, ty22, hlt, hm]
    repeat refine tk ?_
    refine h9 _ ?_
    clear h9 K9
    refine W_reg ?_
    simp [go_sem, ty3]
    repeat refine tk ?_
    refine h8 _ ?_
    clear h8 K8
    refine W_reg ?_
    simp [go_sem, ty3]
    refine ⟨i + 1, ?_, ?_, ?_⟩
    · exact Sub.of_to [0, 1, 5] 1 (by decide) (by simp [go_sem, wrap_succ (show i < 9223372036854775807 by omega), marks_step2 k xs i hlt, markE])
    · exact hlt
    · omega
  · obtain rfl : i = xs.length := by simp at hb7; omega
    clear hb7
    have hm := marks_length k xs.length
    refine W_exit ?_
    simp [go_sem]
    repeat refine tk ?_
    refine h2 _ ?_
    clear h5 K5 h2 K2
    refine W_seqK fun K10 h10 => ?_
    refine W_reg ?_
    simp [go_sem, ty3]
    repeat refine tk ?_
    refine h10 _ ?_
    clear h10 K10
    refine W_ret ?_
    simp [go_sem]

set_option maxRecDepth 100000 in
set_option maxHeartbeats 4000000 in
theorem pc_laws_heldIntS (n : Nat) (k : Int) (hx : n ≤ 17592186043904) : PC Tryz.prog 137 [(false, [.sl 1 (enc eI (marks k n))]), (false, [.int .i64 k])] [(false, [.int .i64 (markE k n)])] := by
  have hl := marks_length k n
  refine PC_of (n := 21) Tryz.func137 rfl rfl rfl rfl (by simp) ?_
  refine W_seqK fun K1 h1 => ?_
  refine W_reg ?_
  simp [go_sem, ty3]
  repeat refine tk ?_
  refine h1 _ ?_
  clear h1 K1
  refine W_seqK fun K2 h2 => ?_
  refine W_seqK fun K3 h3 => ?_
  refine W_reg ?_
  simp [go_sem, ty3]
  repeat refine tk ?_
  refine h3 _ ?_
  clear h3 K3
  refine W_block ?_
  refine W_loopI (α := Nat) (fun i => ({ env := [(0, true, .l (.ref 0 [] 1 0 (n))), (1, true, .l (.t (.int .i64 (markE k i)))), (5, true, .l (.t (.int .i64 (i))))], box := [], row := [(0, ⟨.ro, 1, enc eI (marks k n)⟩)], nxt := 2, sav := [] } : St)) (fun i => i ≤ n) (fun i => n - i) 0 ?_ ?_ ?_
  · exact Sub.of_neat [0, 1, 5] [0] [] 2 (by decide) (by simp [go_sem, markE])
  · exact Nat.zero_le _
  rintro i hinv
  refine W_seqK fun K5 h5 => ?_
  refine W_seqK fun K6 h6 => ?_
  refine W_reg ?_
  simp [go_sem, ty3, ty4, ty22]
  repeat refine tk ?_
  refine h6 _ ?_
  clear h6 K6
  refine W_cond rfl (fun hb7 => ?_) fun hb7 => ?_
  · have hlt : i < n := by simpa using hb7
    have hm := marks_get k n i hlt
    have hm2 : (marks k n)[i]'(by omega) = markE k i := by rw [List.getElem?_eq_getElem (by omega)] at hm; simpa using hm
    clear hb7
    refine W_skip ?_
    repeat refine tk ?_
    refine h5 _ ?_
    clear h5 K5
    refine W_seqK fun K8 h8 => ?_
    refine W_block ?_
    refine W_seqK fun K9 h9 => ?_
    refine W_seqK fun K10 h10 => ?_
    refine W_reg ?_
    simp [go_sem, ty3, ty4, ty22, hlt, hl, hm, hm2]
    repeat refine tk ?_
    refine h10 _ ?_
    clear h10 K10
    refine W_cond rfl (fun hb11 => by first | (simp at hb11; done) | (simp at hb11; omega)) fun hb11 => ?_
    clear hb11
    refine W_skip ?_
    repeat refine tk ?_
    refine h9 _ ?_
    clear h9 K9
    refine W_reg ?_
    simp [go_sem, ty3]
    repeat refine tk ?_
    refine h8 _ ?_
    clear h8 K8
    refine W_reg ?_
    simp [go_sem, ty3]
    refine ⟨i + 1, ?_, ?_, ?_⟩
    · exact Sub.of_neat [0, 1, 5] [0] [] 2 (by decide) (by simp [go_sem, wrap_succ (show i < 9223372036854775807 by omega), markE])
    · exact hlt
    · omega
  · obtain rfl : i = n := by simp at hb7; omega
    clear hb7
    refine W_exit ?_
    simp [go_sem]
    repeat refine tk ?_
    refine h2 _ ?_
    clear h5 K5 h2 K2
    refine W_seqK fun K12 h12 => ?_
    refine W_reg ?_
    simp [go_sem, ty3]
    repeat refine tk ?_
    refine h12 _ ?_
    clear h12 K12
    refine W_ret ?_
    simp [go_sem]

set_option maxRecDepth 100000 in
set_option maxHeartbeats 4000000 in
theorem mc_laws_markBoolS (xs : List Bool) (k : Int) (hx : xs.length ≤ 1048576) : MC1 Tryz.prog 134 1 (enc eB xs) (enc eB ((List.range xs.length).map (mB k))) [.int .i64 k] [.int .i64 (markE k xs.length)] := by
  refine MC1_of (n := 21) Tryz.func134 rfl rfl rfl rfl (by simp) fun a0 => ?_
  refine W_seqK fun K1 h1 => ?_
  refine W_reg ?_
  simp [go_sem, ty3]
  repeat refine tk ?_
  refine h1 _ ?_
  clear h1 K1
  refine W_seqK fun K2 h2 => ?_
  refine W_seqK fun K3 h3 => ?_
  refine W_reg ?_
  simp [go_sem, ty3]
  repeat refine tk ?_
  refine h3 _ ?_
  clear h3 K3
  refine W_block ?_
  refine W_loopI (α := Nat) (fun i => { env := [(0, true, .l (.ref 0 [] 1 0 xs.length)), (1, true, .l (.t (.int .i64 (markE k i)))), (5, true, .l (.t (.int .i64 i)))], box := [], row := [(0, ⟨.own, 1, enc eB (upto (mB k) xs i)⟩)], nxt := 1, sav := [([(0, true, .l (.ref 0 [] 1 0 xs.length))], a0)] }) (fun i => i ≤ xs.length) (fun i => xs.length - i) 0 ?_ ?_ ?_
  · exact Sub.of_to [0, 1, 5] 1 (by decide) (by simp [go_sem, upto_zero, markE])
  · exact Nat.zero_le _
  rintro i hinv
  have hu := upto_len (mB k) xs i hinv
  refine W_seqK fun K5 h5 => ?_
  refine W_seqK fun K6 h6 => ?_
  refine W_reg ?_
  simp [go_sem, ty3, ty4, ty113]
  repeat refine tk ?_
  refine h6 _ ?_
  clear h6 K6
  refine W_cond rfl (fun hb7 => ?_) fun hb7 => ?_
  · have hlt : i < xs.length := by simpa using hb7
    have hg := upto_get (mB k) xs hlt
    have hf : mB k i = ((markE k i).tmod 3 == 0) := rfl
    clear hb7
    refine W_skip ?_
    repeat refine tk ?_
    refine h5 _ ?_
    clear h5 K5
    refine W_seqK fun K8 h8 => ?_
    refine W_block ?_
    refine W_seqK fun K9 h9 => ?_
    refine W_reg ?_
    simp [go_sem, ty3, ty4, ty113, hlt, hu, hg, markE_succ]
    repeat refine tk ?_
    refine h9 _ ?_
    clear h9 K9
    refine W_reg ?_
    simp [go_sem, ty3, hlt, hu, hg, markE_succ]
    repeat refine tk ?_
    refine h8 _ ?_
    clear h8 K8
    refine W_reg ?_
    simp [go_sem, ty3, hlt, hu, hg, markE_succ]
    refine ⟨i + 1, ?_, ?_, ?_⟩
    · exact Sub.of_to [0, 1, 5] 1 (by decide) (by simp [go_sem, wrap_succ (show i < 9223372036854775807 by omega), upto_step hlt hf])
    · exact hlt
    · omega
  · obtain rfl : i = xs.length := by simp at hb7; omega
    clear hb7
    have hfu := upto_full (mB k) xs
    refine W_exit ?_
    simp [go_sem]
    repeat refine tk ?_
    refine h2 _ ?_
    clear h5 K5 h2 K2
    refine W_seqK fun K10 h10 => ?_
    refine W_reg ?_
    simp [go_sem, ty3]
    repeat refine tk ?_
    refine h10 _ ?_
    clear h10 K10
    refine W_ret ?_
    simp [go_sem, hfu, hu]

set_option maxRecDepth 100000 in
set_option maxHeartbeats 4000000 in
theorem pc_laws_heldBoolS (n : Nat) (k : Int) (hx : n ≤ 1048576) : PC Tryz.prog 139 [(false, [.sl 1 (enc eB ((List.range n).map (mB k)))]), (false, [.int .i64 k])] [(false, [.int .i64 (markE k n)])] := by
  have hl : ((List.range n).map (mB k)).length = n := by simp
  refine PC_of (n := 23) Tryz.func139 rfl rfl rfl rfl (by simp) ?_
  refine W_seqK fun K1 h1 => ?_
  refine W_reg ?_
  simp [go_sem, ty3]
  repeat refine tk ?_
  refine h1 _ ?_
  clear h1 K1
  refine W_seqK fun K2 h2 => ?_
  refine W_seqK fun K3 h3 => ?_
  refine W_reg ?_
  simp [go_sem, ty3]
  repeat refine tk ?_
  refine h3 _ ?_
  clear h3 K3
  refine W_block ?_
  refine W_loopI (α := Nat) (fun i => ({ env := [(0, true, .l (.ref 0 [] 1 0 (n))), (1, true, .l (.t (.int .i64 (markE k i)))), (5, true, .l (.t (.int .i64 (i))))], box := [], row := [(0, ⟨.ro, 1, enc eB ((List.range n).map (mB k))⟩)], nxt := 2, sav := [] } : St)) (fun i => i ≤ n) (fun i => n - i) 0 ?_ ?_ ?_
  · exact Sub.of_neat [0, 1, 5] [0] [] 2 (by decide) (by simp [go_sem, markE])
  · exact Nat.zero_le _
  rintro i hinv
  refine W_seqK fun K5 h5 => ?_
  refine W_seqK fun K6 h6 => ?_
  refine W_reg ?_
  simp [go_sem, ty3, ty4, ty113]
  repeat refine tk ?_
  refine h6 _ ?_
  clear h6 K6
  refine W_cond rfl (fun hb7 => ?_) fun hb7 => ?_
  · have hlt : i < n := by simpa using hb7
    have hf : mB k i = ((markE k i).tmod 3 == 0) := rfl
    clear hb7
    refine W_skip ?_
    repeat refine tk ?_
    refine h5 _ ?_
    clear h5 K5
    refine W_seqK fun K8 h8 => ?_
    refine W_block ?_
    refine W_seqK fun K9 h9 => ?_
    refine W_seqK fun K10 h10 => ?_
    refine W_reg ?_
    simp [go_sem, ty3, ty4, ty113, hlt, hl, hf, markE_succ]
    repeat refine tk ?_
    refine h10 _ ?_
    clear h10 K10
    refine W_cond rfl (fun hb11 => by first | (simp at hb11; done) | (simp at hb11; omega)) fun hb11 => ?_
    clear hb11
    refine W_skip ?_
    repeat refine tk ?_
    refine h9 _ ?_
    clear h9 K9
    refine W_reg ?_
    simp [go_sem, ty3, hlt, hl, hf, markE_succ]
    repeat refine tk ?_
    refine h8 _ ?_
    clear h8 K8
    refine W_reg ?_
    simp [go_sem, ty3, hlt, hl, hf, markE_succ]
    refine ⟨i + 1, ?_, ?_, ?_⟩
    · exact Sub.of_neat [0, 1, 5] [0] [] 2 (by decide) (by simp [go_sem, wrap_succ (show i < 9223372036854775807 by omega)])
    · exact hlt
    · omega
  · obtain rfl : i = n := by simp at hb7; omega
    clear hb7
    refine W_exit ?_
    simp [go_sem]
    repeat refine tk ?_
    refine h2 _ ?_
    clear h5 K5 h2 K2
    refine W_seqK fun K12 h12 => ?_
    refine W_reg ?_
    simp [go_sem, ty3]
    repeat refine tk ?_
    refine h12 _ ?_
    clear h12 K12
    refine W_ret ?_
    simp [go_sem]

set_option maxRecDepth 100000 in
set_option maxHeartbeats 4000000 in
theorem mc_laws_markInsS (xs : List GIns) (k : Int) (hx : xs.length ≤ 1048576) : MC1 Tryz.prog 133 5 (enc eIns xs) (enc eIns ((List.range xs.length).map (mIns k))) [.int .i64 k] [.int .i64 (markE k (5 * xs.length))] := by
  refine MC1_of (n := 48) Tryz.func133 rfl rfl rfl rfl (by simp) fun a0 => ?_
  refine W_seqK fun K1 h1 => ?_
  refine W_reg ?_
  simp [go_sem, ty3]
  repeat refine tk ?_
  refine h1 _ ?_
  clear h1 K1
  refine W_seqK fun K2 h2 => ?_
  refine W_seqK fun K3 h3 => ?_
  refine W_reg ?_
  simp [go_sem, ty3]
  repeat refine tk ?_
  refine h3 _ ?_
  clear h3 K3
  refine W_block ?_
  refine W_loopI (α := Nat) (fun i => { env := [(0, true, .l (.ref 0 [] 5 0 xs.length)), (1, true, .l (.t (.int .i64 (markE k (5 * i))))), (5, true, .l (.t (.int .i64 i)))], box := [], row := [(0, ⟨.own, 5, enc eIns (upto (mIns k) xs i)⟩)], nxt := 1, sav := [([(0, true, .l (.ref 0 [] 5 0 xs.length))], a0)] }) (fun i => i ≤ xs.length) (fun i => xs.length - i) 0 ?_ ?_ ?_
  · exact Sub.of_to [0, 1, 5] 1 (by decide) (by simp [go_sem, upto_zero, markE])
  · exact Nat.zero_le _
  rintro i hinv
  have hu := upto_len (mIns k) xs i hinv
  refine W_seqK fun K5 h5 => ?_
  refine W_seqK fun K6 h6 => ?_
  refine W_reg ?_
  simp [go_sem, ty3, ty4, ty68, ty72]
  repeat refine tk ?_
  refine h6 _ ?_
  clear h6 K6
  refine W_cond rfl (fun hb7 => ?_) fun hb7 => ?_
  · have hlt : i < xs.length := by simpa using hb7
    have hg := upto_get (mIns k) xs hlt
    have hf : mIns k i = ⟨markE k (5 * i), markE k (5 * i + 1), markE k (5 * i + 2), markE k (5 * i + 3), markE k (5 * i + 4)⟩ := rfl
    clear hb7
    refine W_skip ?_
    repeat refine tk ?_
    refine h5 _ ?_
    clear h5 K5
    refine W_seqK fun K8 h8 => ?_
    refine W_block ?_
    refine W_seqK fun K9 h9 => ?_
    refine W_reg ?_
    simp [go_sem, ty3, ty68, ty72, hlt, hu, hg, markE_succ, mB_def]
    repeat refine tk ?_
    refine h9 _ ?_
    clear h9 K9
    refine W_seqK fun K10 h10 => ?_
    refine W_reg ?_
    simp [go_sem, ty3, hlt, hu, hg, markE_succ, mB_def]
    repeat refine tk ?_
    refine h10 _ ?_
    clear h10 K10
    refine W_seqK fun K11 h11 => ?_
    refine W_reg ?_
    simp [go_sem, ty3, ty68, ty72, hlt, hu, hg, markE_succ, mB_def]
    repeat refine tk ?_
    refine h11 _ ?_
    clear h11 K11
    refine W_seqK fun K12 h12 => ?_
    refine W_reg ?_
    simp [go_sem, ty3, hlt, hu, hg, markE_succ, mB_def]
    repeat refine tk ?_
    refine h12 _ ?_
    clear h12 K12
    refine W_seqK fun K13 h13 => ?_
    refine W_reg ?_
    simp [go_sem, ty3, ty68, ty72, hlt, hu, hg, markE_succ, mB_def]
    repeat refine tk ?_
    refine h13 _ ?_
    clear h13 K13
    refine W_seqK fun K14 h14 => ?_
    refine W_reg ?_
    simp [go_sem, ty3, hlt, hu, hg, markE_succ, mB_def]
    repeat refine tk ?_
    refine h14 _ ?_
    clear h14 K14
    refine W_seqK fun K15 h15 => ?_
    refine W_reg ?_
    simp [go_sem, ty3, ty68, ty72, hlt, hu, hg, markE_succ, mB_def]
    repeat refine tk ?_
    refine h15 _ ?_
    clear h15 K15
    refine W_seqK fun K16 h16 => ?_
    refine W_reg ?_
    simp [go_sem, ty3, hlt, hu, hg, markE_succ, mB_def]
    repeat refine tk ?_
    refine h16 _ ?_
    clear h16 K16
    refine W_seqK fun K17 h17 => ?_
    refine W_reg ?_
    simp [go_sem, ty3, ty68, ty72, hlt, hu, hg, markE_succ, mB_def]
    repeat refine tk ?_
    refine h17 _ ?_
    clear h17 K17
    refine W_reg ?_
    simp [go_sem, ty3, hlt, hu, hg, markE_succ, mB_def]
    repeat refine tk ?_
    refine h8 _ ?_
    clear h8 K8
    refine W_reg ?_
    simp [go_sem, ty3, hlt, hu, hg, markE_succ, mB_def]
    refine ⟨i + 1, ?_, ?_, ?_⟩
    · exact Sub.of_to [0, 1, 5] 1 (by decide) (by simp [go_sem, wrap_succ (show i < 9223372036854775807 by omega), markE_succ, mB_def, upto_step hlt hf, show 5 * (i + 1) = 5 * i + 5 from rfl])
    · exact hlt
    · omega
  · obtain rfl : i = xs.length := by simp at hb7; omega
    clear hb7
    have hfu := upto_full (mIns k) xs
    refine W_exit ?_
    simp [go_sem]
    repeat refine tk ?_
    refine h2 _ ?_
    clear h5 K5 h2 K2
    refine W_seqK fun K18 h18 => ?_
    refine W_reg ?_
    simp [go_sem, ty3]
    repeat refine tk ?_
    refine h18 _ ?_
    clear h18 K18
    refine W_ret ?_
    simp [go_sem, hfu, hu]

set_option maxRecDepth 100000 in
set_option maxHeartbeats 4000000 in
theorem pc_laws_heldInsS (n : Nat) (k : Int) (hx : n ≤ 1048576) : PC Tryz.prog 138 [(false, [.sl 5 (enc eIns ((List.range n).map (mIns k)))]), (false, [.int .i64 k])] [(false, [.int .i64 (markE k (5 * n))])] := by
  have hl : ((List.range n).map (mIns k)).length = n := by simp
  refine PC_of (n := 58) Tryz.func138 rfl rfl rfl rfl (by simp) ?_
  refine W_seqK fun K1 h1 => ?_
  refine W_reg ?_
  simp [go_sem, ty3]
  repeat refine tk ?_
  refine h1 _ ?_
  clear h1 K1
  refine W_seqK fun K2 h2 => ?_
  refine W_seqK fun K3 h3 => ?_
  refine W_reg ?_
  simp [go_sem, ty3]
  repeat refine tk ?_
  refine h3 _ ?_
  clear h3 K3
  refine W_block ?_
  refine W_loopI (α := Nat) (fun i => ({ env := [(0, true, .l (.ref 0 [] 5 0 (n))), (1, true, .l (.t (.int .i64 (markE k (5 * i))))), (5, true, .l (.t (.int .i64 (i))))], box := [], row := [(0, ⟨.ro, 5, enc eIns ((List.range n).map (mIns k))⟩)], nxt := 2, sav := [] } : St)) (fun i => i ≤ n) (fun i => n - i) 0 ?_ ?_ ?_
  · exact Sub.of_neat [0, 1, 5] [0] [] 2 (by decide) (by simp [go_sem, markE])
  · exact Nat.zero_le _
  rintro i hinv
  refine W_seqK fun K5 h5 => ?_
  refine W_seqK fun K6 h6 => ?_
  refine W_reg ?_
  simp [go_sem, ty3, ty4, ty68, ty72]
  repeat refine tk ?_
  refine h6 _ ?_
  clear h6 K6
  refine W_cond rfl (fun hb7 => ?_) fun hb7 => ?_
  · have hlt : i < n := by simpa using hb7
    have hf : mIns k i = ⟨markE k (5 * i), markE k (5 * i + 1), markE k (5 * i + 2), markE k (5 * i + 3), markE k (5 * i + 4)⟩ := rfl
    clear hb7
    refine W_skip ?_
    repeat refine tk ?_
    refine h5 _ ?_
    clear h5 K5
    refine W_seqK fun K8 h8 => ?_
    refine W_block ?_
    refine W_seqK fun K9 h9 => ?_
    refine W_seqK fun K10 h10 => ?_
    refine W_reg ?_
    simp [go_sem, ty3, ty4, ty68, ty72, hlt, hl, hf, markE_succ, mB_def]
    repeat refine tk ?_
    refine h10 _ ?_
    clear h10 K10
    refine W_cond rfl (fun hb11 => by first | (simp at hb11; done) | (simp at hb11; omega)) fun hb11 => ?_
    clear hb11
    refine W_skip ?_
    repeat refine tk ?_
    refine h9 _ ?_
    clear h9 K9
    refine W_seqK fun K12 h12 => ?_
    refine W_reg ?_
    simp [go_sem, ty3, hlt, hl, hf, markE_succ, mB_def]
    repeat refine tk ?_
    refine h12 _ ?_
    clear h12 K12
    refine W_seqK fun K13 h13 => ?_
    refine W_seqK fun K14 h14 => ?_
    refine W_reg ?_
    simp [go_sem, ty3, ty4, ty68, ty72, hlt, hl, hf, markE_succ, mB_def]
    repeat refine tk ?_
    refine h14 _ ?_
    clear h14 K14
    refine W_cond rfl (fun hb15 => by first | (simp at hb15; done) | (simp at hb15; omega)) fun hb15 => ?_
    clear hb15
    refine W_skip ?_
    repeat refine tk ?_
    refine h13 _ ?_
    clear h13 K13
    refine W_seqK fun K16 h16 => ?_
    refine W_reg ?_
    simp [go_sem, ty3, hlt, hl, hf, markE_succ, mB_def]
    repeat refine tk ?_
    refine h16 _ ?_
    clear h16 K16
    refine W_seqK fun K17 h17 => ?_
    refine W_seqK fun K18 h18 => ?_
    refine W_reg ?_
    simp [go_sem, ty3, ty4, ty68, ty72, hlt, hl, hf, markE_succ, mB_def]
    repeat refine tk ?_
    refine h18 _ ?_
    clear h18 K18
    refine W_cond rfl (fun hb19 => by first | (simp at hb19; done) | (simp at hb19; omega)) fun hb19 => ?_
    clear hb19
    refine W_skip ?_
    repeat refine tk ?_
    refine h17 _ ?_
    clear h17 K17
    refine W_seqK fun K20 h20 => ?_
    refine W_reg ?_
    simp [go_sem, ty3, hlt, hl, hf, markE_succ, mB_def]
    repeat refine tk ?_
    refine h20 _ ?_
    clear h20 K20
    refine W_seqK fun K21 h21 => ?_
    refine W_seqK fun K22 h22 => ?_
    refine W_reg ?_
    simp [go_sem, ty3, ty4, ty68, ty72, hlt, hl, hf, markE_succ, mB_def]
    repeat refine tk ?_
    refine h22 _ ?_
    clear h22 K22
    refine W_cond rfl (fun hb23 => by first | (simp at hb23; done) | (simp at hb23; omega)) fun hb23 => ?_
    clear hb23
    refine W_skip ?_
    repeat refine tk ?_
    refine h21 _ ?_
    clear h21 K21
    refine W_seqK fun K24 h24 => ?_
    refine W_reg ?_
    simp [go_sem, ty3, hlt, hl, hf, markE_succ, mB_def]
    repeat refine tk ?_
    refine h24 _ ?_
    clear h24 K24
    refine W_seqK fun K25 h25 => ?_
    refine W_seqK fun K26 h26 => ?_
    refine W_reg ?_
    simp [go_sem, ty3, ty4, ty68, ty72, hlt, hl, hf, markE_succ, mB_def]
    repeat refine tk ?_
    refine h26 _ ?_
    clear h26 K26
    refine W_cond rfl (fun hb27 => by first | (simp at hb27; done) | (simp at hb27; omega)) fun hb27 => ?_
    clear hb27
    refine W_skip ?_
    repeat refine tk ?_
    refine h25 _ ?_
    clear h25 K25
    refine W_reg ?_
    simp [go_sem, ty3, hlt, hl, hf, markE_succ, mB_def]
    repeat refine tk ?_
    refine h8 _ ?_
    clear h8 K8
    refine W_reg ?_
    simp [go_sem, ty3, hlt, hl, hf, markE_succ, mB_def]
    refine ⟨i + 1, ?_, ?_, ?_⟩
    · exact Sub.of_neat [0, 1, 5] [0] [] 2 (by decide) (by simp [go_sem, wrap_succ (show i < 9223372036854775807 by omega), markE_succ, mB_def, show 5 * (i + 1) = 5 * i + 5 from rfl])
    · exact hlt
    · omega
  · obtain rfl : i = n := by simp at hb7; omega
    clear hb7
    refine W_exit ?_
    simp [go_sem]
    repeat refine tk ?_
    refine h2 _ ?_
    clear h5 K5 h2 K2
    refine W_seqK fun K28 h28 => ?_
    refine W_reg ?_
    simp [go_sem, ty3]
    repeat refine tk ?_
    refine h28 _ ?_
    clear h28 K28
    refine W_ret ?_
    simp [go_sem]

set_option maxRecDepth 100000 in
set_option maxHeartbeats 4000000 in
theorem mc_laws_markWaitS (xs : List GWait) (k : Int) (hx : xs.length ≤ 1048576) : MC1 Tryz.prog 135 2 (enc eWait xs) (enc eWait ((List.range xs.length).map (mWait k))) [.int .i64 k] [.int .i64 (markE k (2 * xs.length))] := by
  refine MC1_of (n := 29) Tryz.func135 rfl rfl rfl rfl (by simp) fun a0 => ?_
  refine W_seqK fun K1 h1 => ?_
  refine W_reg ?_
  simp [go_sem, ty3]
  repeat refine tk ?_
  refine h1 _ ?_
  clear h1 K1
  refine W_seqK fun K2 h2 => ?_
  refine W_seqK fun K3 h3 => ?_
  refine W_reg ?_
  simp [go_sem, ty3]
  repeat refine tk ?_
  refine h3 _ ?_
  clear h3 K3
  refine W_block ?_
  refine W_loopI (α := Nat) (fun i => { env := [(0, true, .l (.ref 0 [] 2 0 xs.length)), (1, true, .l (.t (.int .i64 (markE k (2 * i))))), (5, true, .l (.t (.int .i64 i)))], box := [], row := [(0, ⟨.own, 2, enc eWait (upto (mWait k) xs i)⟩)], nxt := 1, sav := [([(0, true, .l (.ref 0 [] 2 0 xs.length))], a0)] }) (fun i => i ≤ xs.length) (fun i => xs.length - i) 0 ?_ ?_ ?_
  · exact Sub.of_to [0, 1, 5] 1 (by decide) (by simp [go_sem, upto_zero, markE])
  · exact Nat.zero_le _
  rintro i hinv
  have hu := upto_len (mWait k) xs i hinv
  refine W_seqK fun K5 h5 => ?_
  refine W_seqK fun K6 h6 => ?_
  refine W_reg ?_
  simp [go_sem, ty3, ty4, ty129, ty130]
  repeat refine tk ?_
  refine h6 _ ?_
  clear h6 K6
  refine W_cond rfl (fun hb7 => ?_) fun hb7 => ?_
  · have hlt : i < xs.length := by simpa using hb7
    have hg := upto_get (mWait k) xs hlt
    have hf : mWait k i = ⟨markE k (2 * i), mB k (2 * i + 1)⟩ := rfl
    clear hb7
    refine W_skip ?_
    repeat refine tk ?_
    refine h5 _ ?_
    clear h5 K5
    refine W_seqK fun K8 h8 => ?_
    refine W_block ?_
    refine W_seqK fun K9 h9 => ?_
    refine W_reg ?_
    simp [go_sem, ty3, ty129, ty130, hlt, hu, hg, markE_succ, mB_def]
    repeat refine tk ?_
    refine h9 _ ?_
    clear h9 K9
    refine W_seqK fun K10 h10 => ?_
    refine W_reg ?_
    simp [go_sem, ty3, hlt, hu, hg, markE_succ, mB_def]
    repeat refine tk ?_
    refine h10 _ ?_
    clear h10 K10
    refine W_seqK fun K11 h11 => ?_
    refine W_reg ?_
    simp [go_sem, ty3, ty4, ty129, ty130, hlt, hu, hg, markE_succ, mB_def]
    repeat refine tk ?_
    refine h11 _ ?_
    clear h11 K11
    refine W_reg ?_
    simp [go_sem, ty3, hlt, hu, hg, markE_succ, mB_def]
    repeat refine tk ?_
    refine h8 _ ?_
    clear h8 K8
    refine W_reg ?_
    simp [go_sem, ty3, hlt, hu, hg, markE_succ, mB_def]
    refine ⟨i + 1, ?_, ?_, ?_⟩
    · exact Sub.of_to [0, 1, 5] 1 (by decide) (by simp [go_sem, wrap_succ (show i < 9223372036854775807 by omega), markE_succ, mB_def, upto_step hlt hf, show 2 * (i + 1) = 2 * i + 2 from rfl])
    · exact hlt
    · omega
  · obtain rfl : i = xs.length := by simp at hb7; omega
    clear hb7
    have hfu := upto_full (mWait k) xs
    refine W_exit ?_
    simp [go_sem]
    repeat refine tk ?_
    refine h2 _ ?_
    clear h5 K5 h2 K2
    refine W_seqK fun K12 h12 => ?_
    refine W_reg ?_
    simp [go_sem, ty3]
    repeat refine tk ?_
    refine h12 _ ?_
    clear h12 K12
    refine W_ret ?_
    simp [go_sem, hfu, hu]

set_option maxRecDepth 100000 in
set_option maxHeartbeats 4000000 in
theorem pc_laws_heldWaitS (n : Nat) (k : Int) (hx : n ≤ 1048576) : PC Tryz.prog 140 [(false, [.sl 2 (enc eWait ((List.range n).map (mWait k)))]), (false, [.int .i64 k])] [(false, [.int .i64 (markE k (2 * n))])] := by
  have hl : ((List.range n).map (mWait k)).length = n := by simp
  refine PC_of (n := 33) Tryz.func140 rfl rfl rfl rfl (by simp) ?_
  refine W_seqK fun K1 h1 => ?_
  refine W_reg ?_
  simp [go_sem, ty3]
  repeat refine tk ?_
  refine h1 _ ?_
  clear h1 K1
  refine W_seqK fun K2 h2 => ?_
  refine W_seqK fun K3 h3 => ?_
  refine W_reg ?_
  simp [go_sem, ty3]
  repeat refine tk ?_
  refine h3 _ ?_
  clear h3 K3
  refine W_block ?_
  refine W_loopI (α := Nat) (fun i => ({ env := [(0, true, .l (.ref 0 [] 2 0 (n))), (1, true, .l (.t (.int .i64 (markE k (2 * i))))), (5, true, .l (.t (.int .i64 (i))))], box := [], row := [(0, ⟨.ro, 2, enc eWait ((List.range n).map (mWait k))⟩)], nxt := 2, sav := [] } : St)) (fun i => i ≤ n) (fun i => n - i) 0 ?_ ?_ ?_
  · exact Sub.of_neat [0, 1, 5] [0] [] 2 (by decide) (by simp [go_sem, markE])
  · exact Nat.zero_le _
  rintro i hinv
  refine W_seqK fun K5 h5 => ?_
  refine W_seqK fun K6 h6 => ?_
  refine W_reg ?_
  simp [go_sem, ty3, ty4, ty129, ty130]
  repeat refine tk ?_
  refine h6 _ ?_
  clear h6 K6
  refine W_cond rfl (fun hb7 => ?_) fun hb7 => ?_
  · have hlt : i < n := by simpa using hb7
    have hf : mWait k i = ⟨markE k (2 * i), mB k (2 * i + 1)⟩ := rfl
    clear hb7
    refine W_skip ?_
    repeat refine tk ?_
    refine h5 _ ?_
    clear h5 K5
    refine W_seqK fun K8 h8 => ?_
    refine W_block ?_
    refine W_seqK fun K9 h9 => ?_
    refine W_seqK fun K10 h10 => ?_
    refine W_reg ?_
    simp [go_sem, ty3, ty4, ty129, ty130, hlt, hl, hf, markE_succ, mB_def]
    repeat refine tk ?_
    refine h10 _ ?_
    clear h10 K10
    refine W_cond rfl (fun hb11 => by first | (simp at hb11; done) | (simp at hb11; omega)) fun hb11 => ?_
    clear hb11
    refine W_skip ?_
    repeat refine tk ?_
    refine h9 _ ?_
    clear h9 K9
    refine W_seqK fun K12 h12 => ?_
    refine W_reg ?_
    simp [go_sem, ty3, hlt, hl, hf, markE_succ, mB_def]
    repeat refine tk ?_
    refine h12 _ ?_
    clear h12 K12
    refine W_seqK fun K13 h13 => ?_
    refine W_seqK fun K14 h14 => ?_
    refine W_reg ?_
    simp [go_sem, ty3, ty4, ty129, ty130, hlt, hl, hf, markE_succ, mB_def]
    repeat refine tk ?_
    refine h14 _ ?_
    clear h14 K14
    refine W_cond rfl (fun hb15 => by first | (simp at hb15; done) | (simp at hb15; omega)) fun hb15 => ?_
    clear hb15
    refine W_skip ?_
    repeat refine tk ?_
    refine h13 _ ?_
    clear h13 K13
    refine W_reg ?_
    simp [go_sem, ty3, hlt, hl, hf, markE_succ, mB_def]
    repeat refine tk ?_
    refine h8 _ ?_
    clear h8 K8
    refine W_reg ?_
    simp [go_sem, ty3, hlt, hl, hf, markE_succ, mB_def]
    refine ⟨i + 1, ?_, ?_, ?_⟩
    · exact Sub.of_neat [0, 1, 5] [0] [] 2 (by decide) (by simp [go_sem, wrap_succ (show i < 9223372036854775807 by omega), markE_succ, mB_def, show 2 * (i + 1) = 2 * i + 2 from rfl])
    · exact hlt
    · omega
  · obtain rfl : i = n := by simp at hb7; omega
    clear hb7
    refine W_exit ?_
    simp [go_sem]
    repeat refine tk ?_
    refine h2 _ ?_
    clear h5 K5 h2 K2
    refine W_seqK fun K16 h16 => ?_
    refine W_reg ?_
    simp [go_sem, ty3]
    repeat refine tk ?_
    refine h16 _ ?_
    clear h16 K16
    refine W_ret ?_
    simp [go_sem]

set_option maxRecDepth 100000 in
set_option maxHeartbeats 4000000 in
theorem mc_laws_markReceiverS (xs : List GReceiver) (k : Int) (hx : xs.length ≤ 1048576) : MC1 Tryz.prog 63 1 (enc eReceiver xs) (enc eReceiver ((List.range xs.length).map (mReceiver k))) [.int .i64 k] [.int .i64 (markE k (xs.length))] := by
  refine MC1_of (n := 20) Tryz.func63 rfl rfl rfl rfl (by simp) fun a0 => ?_
  refine W_seqK fun K1 h1 => ?_
  refine W_reg ?_
  simp [go_sem, ty3]
  repeat refine tk ?_
  refine h1 _ ?_
  clear h1 K1
  refine W_seqK fun K2 h2 => ?_
  refine W_seqK fun K3 h3 => ?_
  refine W_reg ?_
  simp [go_sem, ty3]
  repeat refine tk ?_
  refine h3 _ ?_
  clear h3 K3
  refine W_block ?_
  refine W_loopI (α := Nat) (fun i => { env := [(0, true, .l (.ref 0 [] 1 0 xs.length)), (1, true, .l (.t (.int .i64 (markE k (1 * i))))), (5, true, .l (.t (.int .i64 i)))], box := [], row := [(0, ⟨.own, 1, enc eReceiver (upto (mReceiver k) xs i)⟩)], nxt := 1, sav := [([(0, true, .l (.ref 0 [] 1 0 xs.length))], a0)] }) (fun i => i ≤ xs.length) (fun i => xs.length - i) 0 ?_ ?_ ?_
  · exact Sub.of_to [0, 1, 5] 1 (by decide) (by simp [go_sem, upto_zero, markE])
  · exact Nat.zero_le _
  rintro i hinv
  have hu := upto_len (mReceiver k) xs i hinv
  refine W_seqK fun K5 h5 => ?_
  refine W_seqK fun K6 h6 => ?_
  refine W_reg ?_
  simp [go_sem, ty3, ty4, ty43, ty153]
  repeat refine tk ?_
  refine h6 _ ?_
  clear h6 K6
  refine W_cond rfl (fun hb7 => ?_) fun hb7 => ?_
  · have hlt : i < xs.length := by simpa using hb7
    have hg := upto_get (mReceiver k) xs hlt
    have hf : mReceiver k i = ⟨markE k (i)⟩ := rfl
    clear hb7
    refine W_skip ?_
    repeat refine tk ?_
    refine h5 _ ?_
    clear h5 K5
    refine W_seqK fun K8 h8 => ?_
    refine W_block ?_
    refine W_seqK fun K9 h9 => ?_
    refine W_reg ?_
    simp [go_sem, ty3, ty43, ty153, hlt, hu, hg, markE_succ, mB_def]
    repeat refine tk ?_
    refine h9 _ ?_
    clear h9 K9
    refine W_reg ?_
    simp [go_sem, ty3, hlt, hu, hg, markE_succ, mB_def]
    repeat refine tk ?_
    refine h8 _ ?_
    clear h8 K8
    refine W_reg ?_
    simp [go_sem, ty3, hlt, hu, hg, markE_succ, mB_def]
    refine ⟨i + 1, ?_, ?_, ?_⟩
    · exact Sub.of_to [0, 1, 5] 1 (by decide) (by simp [go_sem, wrap_succ (show i < 9223372036854775807 by omega), markE_succ, mB_def, upto_step hlt hf, hf])
    · exact hlt
    · omega
  · obtain rfl : i = xs.length := by simp at hb7; omega
    clear hb7
    have hfu := upto_full (mReceiver k) xs
    refine W_exit ?_
    simp [go_sem]
    repeat refine tk ?_
    refine h2 _ ?_
    clear h5 K5 h2 K2
    refine W_seqK fun K10 h10 => ?_
    refine W_reg ?_
    simp [go_sem, ty3]
    repeat refine tk ?_
    refine h10 _ ?_
    clear h10 K10
    refine W_ret ?_
    simp [go_sem, hfu, hu]

set_option maxRecDepth 100000 in
set_option maxHeartbeats 4000000 in
theorem pc_laws_heldReceiverS (n : Nat) (k : Int) (hx : n ≤ 1048576) : PC Tryz.prog 69 [(false, [.sl 1 (enc eReceiver ((List.range n).map (mReceiver k)))]), (false, [.int .i64 k])] [(false, [.int .i64 (markE k (n))])] := by
  have hl : ((List.range n).map (mReceiver k)).length = n := by simp
  refine PC_of (n := 22) Tryz.func69 rfl rfl rfl rfl (by simp) ?_
  refine W_seqK fun K1 h1 => ?_
  refine W_reg ?_
  simp [go_sem, ty3]
  repeat refine tk ?_
  refine h1 _ ?_
  clear h1 K1
  refine W_seqK fun K2 h2 => ?_
  refine W_seqK fun K3 h3 => ?_
  refine W_reg ?_
  simp [go_sem, ty3]
  repeat refine tk ?_
  refine h3 _ ?_
  clear h3 K3
  refine W_block ?_
  refine W_loopI (α := Nat) (fun i => ({ env := [(0, true, .l (.ref 0 [] 1 0 (n))), (1, true, .l (.t (.int .i64 (markE k (i))))), (5, true, .l (.t (.int .i64 (i))))], box := [], row := [(0, ⟨.ro, 1, enc eReceiver ((List.range n).map (mReceiver k))⟩)], nxt := 2, sav := [] } : St)) (fun i => i ≤ n) (fun i => n - i) 0 ?_ ?_ ?_
  · exact Sub.of_neat [0, 1, 5] [0] [] 2 (by decide) (by simp [go_sem, markE])
  · exact Nat.zero_le _
  rintro i hinv
  refine W_seqK fun K5 h5 => ?_
  refine W_seqK fun K6 h6 => ?_
  refine W_reg ?_
  simp [go_sem, ty3, ty4, ty43, ty153]
  repeat refine tk ?_
  refine h6 _ ?_
  clear h6 K6
  refine W_cond rfl (fun hb7 => ?_) fun hb7 => ?_
  · have hlt : i < n := by simpa using hb7
    have hf : mReceiver k i = ⟨markE k (i)⟩ := rfl
    clear hb7
    refine W_skip ?_
    repeat refine tk ?_
    refine h5 _ ?_
    clear h5 K5
    refine W_seqK fun K8 h8 => ?_
    refine W_block ?_
    refine W_seqK fun K9 h9 => ?_
    refine W_seqK fun K10 h10 => ?_
    refine W_reg ?_
    simp [go_sem, ty3, ty4, ty43, ty153, hlt, hl, hf, markE_succ, mB_def]
    repeat refine tk ?_
    refine h10 _ ?_
    clear h10 K10
    refine W_cond rfl (fun hb11 => by first | (simp at hb11; done) | (simp at hb11; omega)) fun hb11 => ?_
    clear hb11
    refine W_skip ?_
    repeat refine tk ?_
    refine h9 _ ?_
    clear h9 K9
    refine W_reg ?_
    simp [go_sem, ty3, hlt, hl, hf, markE_succ, mB_def]
    repeat refine tk ?_
    refine h8 _ ?_
    clear h8 K8
    refine W_reg ?_
    simp [go_sem, ty3, hlt, hl, hf, markE_succ, mB_def]
    refine ⟨i + 1, ?_, ?_, ?_⟩
    · exact Sub.of_neat [0, 1, 5] [0] [] 2 (by decide) (by simp [go_sem, wrap_succ (show i < 9223372036854775807 by omega), markE_succ, mB_def, hf])
    · exact hlt
    · omega
  · obtain rfl : i = n := by simp at hb7; omega
    clear hb7
    refine W_exit ?_
    simp [go_sem]
    repeat refine tk ?_
    refine h2 _ ?_
    clear h5 K5 h2 K2
    refine W_seqK fun K12 h12 => ?_
    refine W_reg ?_
    simp [go_sem, ty3]
    repeat refine tk ?_
    refine h12 _ ?_
    clear h12 K12
    refine W_ret ?_
    simp [go_sem]
end Go.Tw
