/- Walks of functions: laws.markIntS, laws.heldIntS, laws.markBoolS, laws.markWaitS, laws.markReceiverS, laws.markMsgS, laws.markFrameS -/
import Derived.Test.YtafocmjoejchbaaGreatZTy
set_option linter.unusedSimpArgs false
set_option linter.unusedVariables false
set_option linter.unnecessarySimpa false
namespace Go.Tw
open Go.Proofs

set_option maxRecDepth 100000 in
set_option maxHeartbeats 4000000 in
theorem mc_laws_markIntS (xs : List Int) (k : Int) (hx : xs.length ≤ 17592186043904) : MC1 Tryz.prog 20 1 (enc eI xs) (enc eI (marks k xs.length)) [.int .i64 k] [.int .i64 (markE k xs.length)] := by
  refine MC1_of (n := 19) Tryz.func20 rfl rfl rfl rfl (by simp) fun a0 => ?_
  refine W_seqK fun K1 h1 => ?_
  refine W_reg ?_
  simp [go_sem, ty3]
  first | refine h1 _ ?_ | refine ⟨by omega, h1 _ ?_⟩ | refine ⟨by omega, by omega, h1 _ ?_⟩ | (repeat (refine ⟨by first | omega | grind, ?_⟩)); refine h1 _ ?_
  clear h1 K1
  refine W_seqK fun K2 h2 => ?_
  refine W_seqK fun K3 h3 => ?_
  refine W_reg ?_
  simp [go_sem, ty3]
  first | refine h3 _ ?_ | refine ⟨by omega, h3 _ ?_⟩ | refine ⟨by omega, by omega, h3 _ ?_⟩ | (repeat (refine ⟨by first | omega | grind, ?_⟩)); refine h3 _ ?_
  clear h3 K3
  refine W_block ?_
  refine W_loopI (α := Nat) (fun i => { env := [(0, true, .l (.ref 0 [] 1 0 xs.length)), (1, true, .l (.t (.int .i64 (markE k i)))), (5, true, .l (.t (.int .i64 i)))], box := [], row := [(0, ⟨.own, 1, enc eI (marks k i ++ xs.drop i)⟩)], nxt := 1, sav := [([(0, true, .l (.ref 0 [] 1 0 xs.length))], a0)] }) (fun i => i ≤ xs.length) (fun i => xs.length - i) 0 ?_ ?_ ?_
  · exact Sub.of_to [0, 1, 5] 1 (by decide) (by simp [go_sem, marks, markE])
  · exact Nat.zero_le _
  rintro i hinv
  refine W_seqK fun K5 h5 => ?_
  refine W_seqK fun K6 h6 => ?_
  refine W_reg ?_
  simp [go_sem, ty3, ty4, ty22]
  first | refine h6 _ ?_ | refine ⟨by omega, h6 _ ?_⟩ | refine ⟨by omega, by omega, h6 _ ?_⟩ | (repeat (refine ⟨by first | omega | grind, ?_⟩)); refine h6 _ ?_
  clear h6 K6
  refine W_cond rfl (fun hb7 => ?_) fun hb7 => ?_
  · have hlt : i < xs.length := by simpa using hb7
    have hm := marks_length k i
    clear hb7
    refine W_skip ?_
    first | refine h5 _ ?_ | refine ⟨by omega, h5 _ ?_⟩ | refine ⟨by omega, by omega, h5 _ ?_⟩ | (repeat (refine ⟨by first | omega | grind, ?_⟩)); refine h5 _ ?_
    clear h5 K5
    refine W_seqK fun K8 h8 => ?_
    refine W_block ?_
    refine W_seqK fun K9 h9 => ?_
    refine W_reg ?_
    simp [go_sem, ty3, ty22, hlt, hm]
    first | refine h9 _ ?_ | refine ⟨by omega, h9 _ ?_⟩ | refine ⟨by omega, by omega, h9 _ ?_⟩ | (repeat (refine ⟨by first | omega | grind, ?_⟩)); refine h9 _ ?_
    clear h9 K9
    refine W_reg ?_
    simp [go_sem, ty3]
    first | refine h8 _ ?_ | refine ⟨by omega, h8 _ ?_⟩ | refine ⟨by omega, by omega, h8 _ ?_⟩ | (repeat (refine ⟨by first | omega | grind, ?_⟩)); refine h8 _ ?_
    clear h8 K8
    refine W_reg ?_
    simp [go_sem, ty3]
    refine ⟨i + 1, ?_, ?_, ?_⟩
    · exact Sub.of_to [0, 1, 5] 1 (by decide) (by simp [go_sem, wrap_succ (show i < 9223372036854775807 by omega), marks_step2 k xs i hlt, markE])
    · exact hlt
    · omega
  · obtain rfl : i = xs.length := by simp at hb7; omega
    clear hb7
    have hm := marks_length k xs.length
    refine W_exit ?_
    simp [go_sem]
    first | refine h2 _ ?_ | refine ⟨by omega, h2 _ ?_⟩ | refine ⟨by omega, by omega, h2 _ ?_⟩ | (repeat (refine ⟨by first | omega | grind, ?_⟩)); refine h2 _ ?_
    clear h5 K5 h2 K2
    refine W_seqK fun K10 h10 => ?_
    refine W_reg ?_
    simp [go_sem, ty3]
    first | refine h10 _ ?_ | refine ⟨by omega, h10 _ ?_⟩ | refine ⟨by omega, by omega, h10 _ ?_⟩ | (repeat (refine ⟨by first | omega | grind, ?_⟩)); refine h10 _ ?_
    clear h10 K10
    refine W_ret ?_
    simp [go_sem]

set_option maxRecDepth 100000 in
set_option maxHeartbeats 4000000 in
theorem pc_laws_heldIntS (n : Nat) (k : Int) (hx : n ≤ 17592186043904) : PC Tryz.prog 21 [(false, [.sl 1 (enc eI (marks k n))]), (false, [.int .i64 k])] [(false, [.int .i64 (markE k n)])] := by
  have hl := marks_length k n
  refine PC_of (n := 21) Tryz.func21 rfl rfl rfl rfl (by simp) ?_
  refine W_seqK fun K1 h1 => ?_
  refine W_reg ?_
  simp [go_sem, ty3]
  first | refine h1 _ ?_ | refine ⟨by omega, h1 _ ?_⟩ | refine ⟨by omega, by omega, h1 _ ?_⟩ | (repeat (refine ⟨by first | omega | grind, ?_⟩)); refine h1 _ ?_
  clear h1 K1
  refine W_seqK fun K2 h2 => ?_
  refine W_seqK fun K3 h3 => ?_
  refine W_reg ?_
  simp [go_sem, ty3]
  first | refine h3 _ ?_ | refine ⟨by omega, h3 _ ?_⟩ | refine ⟨by omega, by omega, h3 _ ?_⟩ | (repeat (refine ⟨by first | omega | grind, ?_⟩)); refine h3 _ ?_
  clear h3 K3
  refine W_block ?_
  refine W_loopI (α := Nat) (fun i => ({ env := [(0, true, .l (.ref 0 [] 1 0 (n))), (1, true, .l (.t (.int .i64 (markE k i)))), (5, true, .l (.t (.int .i64 (i))))], box := [], row := [(0, ⟨.ro, 1, enc eI (marks k n)⟩)], nxt := 2, sav := [] } : St)) (fun i => i ≤ n) (fun i => n - i) 0 ?_ ?_ ?_
  · exact Sub.of_neat [0, 1, 5] [0] [] 2 (by decide) (by simp [go_sem, markE])
  · exact Nat.zero_le _
  rintro i hinv
  refine W_seqK fun K5 h5 => ?_
  refine W_seqK fun K6 h6 => ?_
  refine W_reg ?_
  simp [go_sem, ty3, ty4, ty22]
  first | refine h6 _ ?_ | refine ⟨by omega, h6 _ ?_⟩ | refine ⟨by omega, by omega, h6 _ ?_⟩ | (repeat (refine ⟨by first | omega | grind, ?_⟩)); refine h6 _ ?_
  clear h6 K6
  refine W_cond rfl (fun hb7 => ?_) fun hb7 => ?_
  · have hlt : i < n := by simpa using hb7
    have hm := marks_get k n i hlt
    have hm2 : (marks k n)[i]'(by omega) = markE k i := by rw [List.getElem?_eq_getElem (by omega)] at hm; simpa using hm
    clear hb7
    refine W_skip ?_
    first | refine h5 _ ?_ | refine ⟨by omega, h5 _ ?_⟩ | refine ⟨by omega, by omega, h5 _ ?_⟩ | (repeat (refine ⟨by first | omega | grind, ?_⟩)); refine h5 _ ?_
    clear h5 K5
    refine W_seqK fun K8 h8 => ?_
    refine W_block ?_
    refine W_seqK fun K9 h9 => ?_
    refine W_seqK fun K10 h10 => ?_
    refine W_reg ?_
    simp [go_sem, ty3, ty4, ty22, hlt, hl, hm, hm2]
    first | refine h10 _ ?_ | refine ⟨by omega, h10 _ ?_⟩ | refine ⟨by omega, by omega, h10 _ ?_⟩ | (repeat (refine ⟨by first | omega | grind, ?_⟩)); refine h10 _ ?_
    clear h10 K10
    refine W_cond rfl (fun hb11 => by first | (simp at hb11; done) | (simp at hb11; omega)) fun hb11 => ?_
    clear hb11
    refine W_skip ?_
    first | refine h9 _ ?_ | refine ⟨by omega, h9 _ ?_⟩ | refine ⟨by omega, by omega, h9 _ ?_⟩ | (repeat (refine ⟨by first | omega | grind, ?_⟩)); refine h9 _ ?_
    clear h9 K9
    refine W_reg ?_
    simp [go_sem, ty3]
    first | refine h8 _ ?_ | refine ⟨by omega, h8 _ ?_⟩ | refine ⟨by omega, by omega, h8 _ ?_⟩ | (repeat (refine ⟨by first | omega | grind, ?_⟩)); refine h8 _ ?_
    clear h8 K8
    refine W_reg ?_
    simp [go_sem, ty3]
    refine ⟨i + 1, ?_, ?_, ?_⟩
    · exact Sub.of_neat [0, 1, 5] [0] [] 2 (by decide) (by simp [go_sem, wrap_succ (show i < 9223372036854775807 by omega), markE])
    · exact hlt
    · omega
  · obtain rfl : i = n := by simp at hb7; omega
    clear hb7
    refine W_exit ?_
    simp [go_sem]
    first | refine h2 _ ?_ | refine ⟨by omega, h2 _ ?_⟩ | refine ⟨by omega, by omega, h2 _ ?_⟩ | (repeat (refine ⟨by first | omega | grind, ?_⟩)); refine h2 _ ?_
    clear h5 K5 h2 K2
    refine W_seqK fun K12 h12 => ?_
    refine W_reg ?_
    simp [go_sem, ty3]
    first | refine h12 _ ?_ | refine ⟨by omega, h12 _ ?_⟩ | refine ⟨by omega, by omega, h12 _ ?_⟩ | (repeat (refine ⟨by first | omega | grind, ?_⟩)); refine h12 _ ?_
    clear h12 K12
    refine W_ret ?_
    simp [go_sem]

set_option maxRecDepth 100000 in
set_option maxHeartbeats 4000000 in
theorem mc_laws_markBoolS (xs : List Bool) (k : Int) (hx : xs.length ≤ 1048576) : MC1 Tryz.prog 157 1 (enc eB xs) (enc eB ((List.range xs.length).map (mB k))) [.int .i64 k] [.int .i64 (markE k xs.length)] := by
  refine MC1_of (n := 21) Tryz.func157 rfl rfl rfl rfl (by simp) fun a0 => ?_
  refine W_seqK fun K1 h1 => ?_
  refine W_reg ?_
  simp [go_sem, ty3]
  first | refine h1 _ ?_ | refine ⟨by omega, h1 _ ?_⟩ | refine ⟨by omega, by omega, h1 _ ?_⟩ | (repeat (refine ⟨by first | omega | grind, ?_⟩)); refine h1 _ ?_
  clear h1 K1
  refine W_seqK fun K2 h2 => ?_
  refine W_seqK fun K3 h3 => ?_
  refine W_reg ?_
  simp [go_sem, ty3]
  first | refine h3 _ ?_ | refine ⟨by omega, h3 _ ?_⟩ | refine ⟨by omega, by omega, h3 _ ?_⟩ | (repeat (refine ⟨by first | omega | grind, ?_⟩)); refine h3 _ ?_
  clear h3 K3
  refine W_block ?_
  refine W_loopI (α := Nat) (fun i => { env := [(0, true, .l (.ref 0 [] 1 0 xs.length)), (1, true, .l (.t (.int .i64 (markE k i)))), (5, true, .l (.t (.int .i64 i)))], box := [], row := [(0, ⟨.own, 1, enc eB (upto (mB k) xs i)⟩)], nxt := 1, sav := [([(0, true, .l (.ref 0 [] 1 0 xs.length))], a0)] }) (fun i => i ≤ xs.length) (fun i => xs.length - i) 0 ?_ ?_ ?_
  · exact Sub.of_to [0, 1, 5] 1 (by decide) (by simp [go_sem, upto_zero, markE])
  · exact Nat.zero_le _
  rintro i hinv
  have hu := upto_len (mB k) xs i hinv
  refine W_seqK fun K5 h5 => ?_
  refine W_seqK fun K6 h6 => ?_
  refine W_reg ?_
  simp [go_sem, ty3, ty4, ty106]
  first | refine h6 _ ?_ | refine ⟨by omega, h6 _ ?_⟩ | refine ⟨by omega, by omega, h6 _ ?_⟩ | (repeat (refine ⟨by first | omega | grind, ?_⟩)); refine h6 _ ?_
  clear h6 K6
  refine W_cond rfl (fun hb7 => ?_) fun hb7 => ?_
  · have hlt : i < xs.length := by simpa using hb7
    have hg := upto_get (mB k) xs hlt
    have hf : mB k i = ((markE k i).tmod 3 == 0) := rfl
    clear hb7
    refine W_skip ?_
    first | refine h5 _ ?_ | refine ⟨by omega, h5 _ ?_⟩ | refine ⟨by omega, by omega, h5 _ ?_⟩ | (repeat (refine ⟨by first | omega | grind, ?_⟩)); refine h5 _ ?_
    clear h5 K5
    refine W_seqK fun K8 h8 => ?_
    refine W_block ?_
    refine W_seqK fun K9 h9 => ?_
    refine W_reg ?_
    simp [go_sem, ty3, ty4, ty106, hlt, hu, hg, markE_succ]
    first | refine h9 _ ?_ | refine ⟨by omega, h9 _ ?_⟩ | refine ⟨by omega, by omega, h9 _ ?_⟩ | (repeat (refine ⟨by first | omega | grind, ?_⟩)); refine h9 _ ?_
    clear h9 K9
    refine W_reg ?_
    simp [go_sem, ty3, hlt, hu, hg, markE_succ]
    first | refine h8 _ ?_ | refine ⟨by omega, h8 _ ?_⟩ | refine ⟨by omega, by omega, h8 _ ?_⟩ | (repeat (refine ⟨by first | omega | grind, ?_⟩)); refine h8 _ ?_
    clear h8 K8
    refine W_reg ?_
    simp [go_sem, ty3, hlt, hu, hg, markE_succ]
    refine ⟨i + 1, ?_, ?_, ?_⟩
    · exact Sub.of_to [0, 1, 5] 1 (by decide) (by simp [go_sem, wrap_succ (show i < 9223372036854775807 by omega), upto_step hlt hf])
    · exact hlt
    · omega
  · obtain rfl : i = xs.length := by simp at hb7; omega
    clear hb7
    have hfu := upto_full (mB k) xs
    refine W_exit ?_
    simp [go_sem]
    first | refine h2 _ ?_ | refine ⟨by omega, h2 _ ?_⟩ | refine ⟨by omega, by omega, h2 _ ?_⟩ | (repeat (refine ⟨by first | omega | grind, ?_⟩)); refine h2 _ ?_
    clear h5 K5 h2 K2
    refine W_seqK fun K10 h10 => ?_
    refine W_reg ?_
    simp [go_sem, ty3]
    first | refine h10 _ ?_ | refine ⟨by omega, h10 _ ?_⟩ | refine ⟨by omega, by omega, h10 _ ?_⟩ | (repeat (refine ⟨by first | omega | grind, ?_⟩)); refine h10 _ ?_
    clear h10 K10
    refine W_ret ?_
    simp [go_sem, hfu, hu]

set_option maxRecDepth 100000 in
set_option maxHeartbeats 4000000 in
theorem mc_laws_markWaitS (xs : List GWait) (k : Int) (hx : xs.length ≤ 1048576) : MC1 Tryz.prog 158 2 (enc eWait xs) (enc eWait ((List.range xs.length).map (mWait k))) [.int .i64 k] [.int .i64 (markE k (2 * xs.length))] := by
  refine MC1_of (n := 29) Tryz.func158 rfl rfl rfl rfl (by simp) fun a0 => ?_
  refine W_seqK fun K1 h1 => ?_
  refine W_reg ?_
  simp [go_sem, ty3]
  first | refine h1 _ ?_ | refine ⟨by omega, h1 _ ?_⟩ | refine ⟨by omega, by omega, h1 _ ?_⟩ | (repeat (refine ⟨by first | omega | grind, ?_⟩)); refine h1 _ ?_
  clear h1 K1
  refine W_seqK fun K2 h2 => ?_
  refine W_seqK fun K3 h3 => ?_
  refine W_reg ?_
  simp [go_sem, ty3]
  first | refine h3 _ ?_ | refine ⟨by omega, h3 _ ?_⟩ | refine ⟨by omega, by omega, h3 _ ?_⟩ | (repeat (refine ⟨by first | omega | grind, ?_⟩)); refine h3 _ ?_
  clear h3 K3
  refine W_block ?_
  refine W_loopI (α := Nat) (fun i => { env := [(0, true, .l (.ref 0 [] 2 0 xs.length)), (1, true, .l (.t (.int .i64 (markE k (2 * i))))), (5, true, .l (.t (.int .i64 i)))], box := [], row := [(0, ⟨.own, 2, enc eWait (upto (mWait k) xs i)⟩)], nxt := 1, sav := [([(0, true, .l (.ref 0 [] 2 0 xs.length))], a0)] }) (fun i => i ≤ xs.length) (fun i => xs.length - i) 0 ?_ ?_ ?_
  · exact Sub.of_to [0, 1, 5] 1 (by decide) (by simp [go_sem, upto_zero, markE])
  · exact Nat.zero_le _
  rintro i hinv
  have hu := upto_len (mWait k) xs i hinv
  refine W_seqK fun K5 h5 => ?_
  refine W_seqK fun K6 h6 => ?_
  refine W_reg ?_
  simp [go_sem, ty3, ty4, ty120, ty121]
  first | refine h6 _ ?_ | refine ⟨by omega, h6 _ ?_⟩ | refine ⟨by omega, by omega, h6 _ ?_⟩ | (repeat (refine ⟨by first | omega | grind, ?_⟩)); refine h6 _ ?_
  clear h6 K6
  refine W_cond rfl (fun hb7 => ?_) fun hb7 => ?_
  · have hlt : i < xs.length := by simpa using hb7
    have hg := upto_get (mWait k) xs hlt
    have hf : mWait k i = ⟨markE k (2 * i), mB k (2 * i + 1)⟩ := rfl
    clear hb7
    refine W_skip ?_
    first | refine h5 _ ?_ | refine ⟨by omega, h5 _ ?_⟩ | refine ⟨by omega, by omega, h5 _ ?_⟩ | (repeat (refine ⟨by first | omega | grind, ?_⟩)); refine h5 _ ?_
    clear h5 K5
    refine W_seqK fun K8 h8 => ?_
    refine W_block ?_
    refine W_seqK fun K9 h9 => ?_
    refine W_reg ?_
    simp [go_sem, ty3, ty120, ty121, hlt, hu, hg, markE_succ, mB_def]
    first | refine h9 _ ?_ | refine ⟨by omega, h9 _ ?_⟩ | refine ⟨by omega, by omega, h9 _ ?_⟩ | (repeat (refine ⟨by first | omega | grind, ?_⟩)); refine h9 _ ?_
    clear h9 K9
    refine W_seqK fun K10 h10 => ?_
    refine W_reg ?_
    simp [go_sem, ty3, hlt, hu, hg, markE_succ, mB_def]
    first | refine h10 _ ?_ | refine ⟨by omega, h10 _ ?_⟩ | refine ⟨by omega, by omega, h10 _ ?_⟩ | (repeat (refine ⟨by first | omega | grind, ?_⟩)); refine h10 _ ?_
    clear h10 K10
    refine W_seqK fun K11 h11 => ?_
    refine W_reg ?_
    simp [go_sem, ty3, ty4, ty120, ty121, hlt, hu, hg, markE_succ, mB_def]
    first | refine h11 _ ?_ | refine ⟨by omega, h11 _ ?_⟩ | refine ⟨by omega, by omega, h11 _ ?_⟩ | (repeat (refine ⟨by first | omega | grind, ?_⟩)); refine h11 _ ?_
    clear h11 K11
    refine W_reg ?_
    simp [go_sem, ty3, hlt, hu, hg, markE_succ, mB_def]
    first | refine h8 _ ?_ | refine ⟨by omega, h8 _ ?_⟩ | refine ⟨by omega, by omega, h8 _ ?_⟩ | (repeat (refine ⟨by first | omega | grind, ?_⟩)); refine h8 _ ?_
    clear h8 K8
    refine W_reg ?_
    simp [go_sem, ty3, hlt, hu, hg, markE_succ, mB_def]
    refine ⟨i + 1, ?_, ?_, ?_⟩
    · exact Sub.of_to [0, 1, 5] 1 (by decide) (by simp [go_sem, wrap_succ (show i < 9223372036854775807 by omega), markE_succ, mB_def, upto_step hlt hf, show 2 * (i + 1) = 2 * i + 2 from rfl])
    · exact hlt
    · omega
  · obtain rfl : i = xs.length := by simp at hb7; omega
    clear hb7
    have hfu := upto_full (mWait k) xs
    refine W_exit ?_
    simp [go_sem]
    first | refine h2 _ ?_ | refine ⟨by omega, h2 _ ?_⟩ | refine ⟨by omega, by omega, h2 _ ?_⟩ | (repeat (refine ⟨by first | omega | grind, ?_⟩)); refine h2 _ ?_
    clear h5 K5 h2 K2
    refine W_seqK fun K12 h12 => ?_
    refine W_reg ?_
    simp [go_sem, ty3]
    first | refine h12 _ ?_ | refine ⟨by omega, h12 _ ?_⟩ | refine ⟨by omega, by omega, h12 _ ?_⟩ | (repeat (refine ⟨by first | omega | grind, ?_⟩)); refine h12 _ ?_
    clear h12 K12
    refine W_ret ?_
    simp [go_sem, hfu, hu]

set_option maxRecDepth 100000 in
set_option maxHeartbeats 4000000 in
theorem mc_laws_markReceiverS (xs : List GReceiver) (k : Int) (hx : xs.length ≤ 1048576) : MC1 Tryz.prog 111 1 (enc eReceiver xs) (enc eReceiver ((List.range xs.length).map (mReceiver k))) [.int .i64 k] [.int .i64 (markE k (xs.length))] := by
  refine MC1_of (n := 20) Tryz.func111 rfl rfl rfl rfl (by simp) fun a0 => ?_
  refine W_seqK fun K1 h1 => ?_
  refine W_reg ?_
  simp [go_sem, ty3]
  first | refine h1 _ ?_ | refine ⟨by omega, h1 _ ?_⟩ | refine ⟨by omega, by omega, h1 _ ?_⟩ | (repeat (refine ⟨by first | omega | grind, ?_⟩)); refine h1 _ ?_
  clear h1 K1
  refine W_seqK fun K2 h2 => ?_
  refine W_seqK fun K3 h3 => ?_
  refine W_reg ?_
  simp [go_sem, ty3]
  first | refine h3 _ ?_ | refine ⟨by omega, h3 _ ?_⟩ | refine ⟨by omega, by omega, h3 _ ?_⟩ | (repeat (refine ⟨by first | omega | grind, ?_⟩)); refine h3 _ ?_
  clear h3 K3
  refine W_block ?_
  refine W_loopI (α := Nat) (fun i => { env := [(0, true, .l (.ref 0 [] 1 0 xs.length)), (1, true, .l (.t (.int .i64 (markE k (1 * i))))), (5, true, .l (.t (.int .i64 i)))], box := [], row := [(0, ⟨.own, 1, enc eReceiver (upto (mReceiver k) xs i)⟩)], nxt := 1, sav := [([(0, true, .l (.ref 0 [] 1 0 xs.length))], a0)] }) (fun i => i ≤ xs.length) (fun i => xs.length - i) 0 ?_ ?_ ?_
  · exact Sub.of_to [0, 1, 5] 1 (by decide) (by simp [go_sem, upto_zero, markE])
  · exact Nat.zero_le _
  rintro i hinv
  have hu := upto_len (mReceiver k) xs i hinv
  refine W_seqK fun K5 h5 => ?_
  refine W_seqK fun K6 h6 => ?_
  refine W_reg ?_
  simp [go_sem, ty3, ty4, ty45, ty129]
  first | refine h6 _ ?_ | refine ⟨by omega, h6 _ ?_⟩ | refine ⟨by omega, by omega, h6 _ ?_⟩ | (repeat (refine ⟨by first | omega | grind, ?_⟩)); refine h6 _ ?_
  clear h6 K6
  refine W_cond rfl (fun hb7 => ?_) fun hb7 => ?_
  · have hlt : i < xs.length := by simpa using hb7
    have hg := upto_get (mReceiver k) xs hlt
    have hf : mReceiver k i = ⟨markE k (i)⟩ := rfl
    clear hb7
    refine W_skip ?_
    first | refine h5 _ ?_ | refine ⟨by omega, h5 _ ?_⟩ | refine ⟨by omega, by omega, h5 _ ?_⟩ | (repeat (refine ⟨by first | omega | grind, ?_⟩)); refine h5 _ ?_
    clear h5 K5
    refine W_seqK fun K8 h8 => ?_
    refine W_block ?_
    refine W_seqK fun K9 h9 => ?_
    refine W_reg ?_
    simp [go_sem, ty3, ty45, ty129, hlt, hu, hg, markE_succ, mB_def]
    first | refine h9 _ ?_ | refine ⟨by omega, h9 _ ?_⟩ | refine ⟨by omega, by omega, h9 _ ?_⟩ | (repeat (refine ⟨by first | omega | grind, ?_⟩)); refine h9 _ ?_
    clear h9 K9
    refine W_reg ?_
    simp [go_sem, ty3, hlt, hu, hg, markE_succ, mB_def]
    first | refine h8 _ ?_ | refine ⟨by omega, h8 _ ?_⟩ | refine ⟨by omega, by omega, h8 _ ?_⟩ | (repeat (refine ⟨by first | omega | grind, ?_⟩)); refine h8 _ ?_
    clear h8 K8
    refine W_reg ?_
    simp [go_sem, ty3, hlt, hu, hg, markE_succ, mB_def]
    refine ⟨i + 1, ?_, ?_, ?_⟩
    · exact Sub.of_to [0, 1, 5] 1 (by decide) (by simp [go_sem, wrap_succ (show i < 9223372036854775807 by omega), markE_succ, mB_def, upto_step hlt hf, hf])
    · exact hlt
    · omega
  · obtain rfl : i = xs.length := by simp at hb7; omega
    clear hb7
    have hfu := upto_full (mReceiver k) xs
    refine W_exit ?_
    simp [go_sem]
    first | refine h2 _ ?_ | refine ⟨by omega, h2 _ ?_⟩ | refine ⟨by omega, by omega, h2 _ ?_⟩ | (repeat (refine ⟨by first | omega | grind, ?_⟩)); refine h2 _ ?_
    clear h5 K5 h2 K2
    refine W_seqK fun K10 h10 => ?_
    refine W_reg ?_
    simp [go_sem, ty3]
    first | refine h10 _ ?_ | refine ⟨by omega, h10 _ ?_⟩ | refine ⟨by omega, by omega, h10 _ ?_⟩ | (repeat (refine ⟨by first | omega | grind, ?_⟩)); refine h10 _ ?_
    clear h10 K10
    refine W_ret ?_
    simp [go_sem, hfu, hu]

set_option maxRecDepth 100000 in
set_option maxHeartbeats 4000000 in
theorem mc_laws_markMsgS (xs : List GMsg) (k : Int) (hx : xs.length ≤ 1048576) (hq : ∀ a ∈ xs, a.small) : MC1 Tryz.prog 159 4 (enc eMsg xs) (enc eMsg ((List.range xs.length).map (fMsg k xs))) [.int .i64 k] [.int .i64 (markE k (xs.map nMsg).sum)] := by
  refine MC1_of (n := 43) Tryz.func159 rfl rfl rfl rfl (by simp) fun a0 => ?_
  refine W_seqK fun K1 h1 => ?_
  refine W_reg ?_
  simp [go_sem, ty3]
  first | refine h1 _ ?_ | refine ⟨by omega, h1 _ ?_⟩ | refine ⟨by omega, by omega, h1 _ ?_⟩ | (repeat (refine ⟨by first | omega | grind, ?_⟩)); refine h1 _ ?_
  clear h1 K1
  refine W_seqK fun K2 h2 => ?_
  refine W_seqK fun K3 h3 => ?_
  refine W_reg ?_
  simp [go_sem, ty3]
  first | refine h3 _ ?_ | refine ⟨by omega, h3 _ ?_⟩ | refine ⟨by omega, by omega, h3 _ ?_⟩ | (repeat (refine ⟨by first | omega | grind, ?_⟩)); refine h3 _ ?_
  clear h3 K3
  refine W_block ?_
  refine W_loopI (α := Nat) (fun i => { env := [(0, true, .l (.ref 0 [] 4 0 xs.length)), (1, true, .l (.t (.int .i64 (markE k (sumTo nMsg xs i))))), (5, true, .l (.t (.int .i64 i)))], box := [], row := [(0, ⟨.own, 4, enc eMsg (upto (fMsg k xs) xs i)⟩)], nxt := 1, sav := [([(0, true, .l (.ref 0 [] 4 0 xs.length))], a0)] }) (fun i => i ≤ xs.length) (fun i => xs.length - i) 0 ?_ ?_ ?_
  · exact Sub.of_to [0, 1, 5] 1 (by decide) (by simp [go_sem, upto_zero, sumTo_zero, markE_zero])
  · exact Nat.zero_le _
  rintro i hinv
  have hu := upto_len (fMsg k xs) xs i hinv
  refine W_seqK fun K5 h5 => ?_
  refine W_seqK fun K6 h6 => ?_
  refine W_reg ?_
  simp [go_sem, ty3, ty4, ty125, ty165]
  first | refine h6 _ ?_ | refine ⟨by omega, h6 _ ?_⟩ | refine ⟨by omega, by omega, h6 _ ?_⟩ | (repeat (refine ⟨by first | omega | grind, ?_⟩)); refine h6 _ ?_
  clear h6 K6
  refine W_cond rfl (fun hb7 => ?_) fun hb7 => ?_
  · have hlt : i < xs.length := by simpa using hb7
    have hg := upto_get (fMsg k xs) xs hlt
    have hg2 := upto_getE (fMsg k xs) xs hlt (by omega)
    have hf : fMsg k xs i = ⟨markE k (sumTo nMsg xs i), markE k (sumTo nMsg xs i + 1), mB k (sumTo nMsg xs i + 2), marks (markE k (sumTo nMsg xs i + 3)) xs[i].list.length⟩ := by rw [fMsg_at hlt]; rfl
    have hS : sumTo nMsg xs (i + 1) = sumTo nMsg xs i + 3 + xs[i].list.length := by rw [sumTo_succ _ hlt]; have hn : nMsg xs[i] = 3 + xs[i].list.length := rfl; first | rfl | (rw [hn]; omega) | omega
    clear hb7
    have hs := hq _ (List.getElem_mem hlt)
    unfold GMsg.small at hs
    have q0 := hs
    refine W_skip ?_
    first | refine h5 _ ?_ | refine ⟨by omega, h5 _ ?_⟩ | refine ⟨by omega, by omega, h5 _ ?_⟩ | (repeat (refine ⟨by first | omega | grind, ?_⟩)); refine h5 _ ?_
    clear h5 K5
    refine W_seqK fun K8 h8 => ?_
    refine W_block ?_
    refine W_seqK fun K9 h9 => ?_
    refine W_reg ?_
    simp [go_sem, ty3, ty125, ty165, hlt, hu, hg, hg2, markE_succ, markE_add, mB_def]
    first | refine h9 _ ?_ | refine ⟨by omega, h9 _ ?_⟩ | refine ⟨by omega, by omega, h9 _ ?_⟩ | (repeat (refine ⟨by first | omega | grind, ?_⟩)); refine h9 _ ?_
    clear h9 K9
    refine W_seqK fun K10 h10 => ?_
    refine W_reg ?_
    simp [go_sem, ty3, hlt, hu, hg, hg2, markE_succ, markE_add, mB_def]
    first | refine h10 _ ?_ | refine ⟨by omega, h10 _ ?_⟩ | refine ⟨by omega, by omega, h10 _ ?_⟩ | (repeat (refine ⟨by first | omega | grind, ?_⟩)); refine h10 _ ?_
    clear h10 K10
    refine W_seqK fun K11 h11 => ?_
    refine W_reg ?_
    simp [go_sem, ty3, ty125, ty165, hlt, hu, hg, hg2, markE_succ, markE_add, mB_def]
    first | refine h11 _ ?_ | refine ⟨by omega, h11 _ ?_⟩ | refine ⟨by omega, by omega, h11 _ ?_⟩ | (repeat (refine ⟨by first | omega | grind, ?_⟩)); refine h11 _ ?_
    clear h11 K11
    refine W_seqK fun K12 h12 => ?_
    refine W_reg ?_
    simp [go_sem, ty3, hlt, hu, hg, hg2, markE_succ, markE_add, mB_def]
    first | refine h12 _ ?_ | refine ⟨by omega, h12 _ ?_⟩ | refine ⟨by omega, by omega, h12 _ ?_⟩ | (repeat (refine ⟨by first | omega | grind, ?_⟩)); refine h12 _ ?_
    clear h12 K12
    refine W_seqK fun K13 h13 => ?_
    refine W_reg ?_
    simp [go_sem, ty3, ty4, ty125, ty165, hlt, hu, hg, hg2, markE_succ, markE_add, mB_def]
    first | refine h13 _ ?_ | refine ⟨by omega, h13 _ ?_⟩ | refine ⟨by omega, by omega, h13 _ ?_⟩ | (repeat (refine ⟨by first | omega | grind, ?_⟩)); refine h13 _ ?_
    clear h13 K13
    refine W_seqK fun K14 h14 => ?_
    refine W_reg ?_
    simp [go_sem, ty3, hlt, hu, hg, hg2, markE_succ, markE_add, mB_def]
    first | refine h14 _ ?_ | refine ⟨by omega, h14 _ ?_⟩ | refine ⟨by omega, by omega, h14 _ ?_⟩ | (repeat (refine ⟨by first | omega | grind, ?_⟩)); refine h14 _ ?_
    clear h14 K14
    refine W_reg ?_
    simp [go_sem, ty3, ty22, ty125, ty165, hlt, hu, hg, hg2, markE_succ, markE_add, mB_def]
    refine callG_true (by simp) (CallW_mut (mc_laws_markIntS xs[i].list (markE k (sumTo nMsg xs i + 3)) (by omega)) rfl rfl (by simp [go_sem, hlt, hu, hg, hg2, markE_succ, markE_add, mB_def]) (by simp [go_sem, hlt, hu, hg, hg2, markE_succ, markE_add, mB_def]) rfl ?_)
    simp [go_sem, ty3, hlt, hu, hg, hg2, markE_succ, markE_add, mB_def]
    first | refine h8 _ ?_ | refine ⟨by omega, h8 _ ?_⟩ | refine ⟨by omega, by omega, h8 _ ?_⟩ | (repeat (refine ⟨by first | omega | grind, ?_⟩)); refine h8 _ ?_
    clear h8 K8
    refine W_reg ?_
    simp [go_sem, ty3, hlt, hu, hg, hg2, markE_succ, markE_add, mB_def]
    refine ⟨i + 1, ?_, ?_, ?_⟩
    · exact Sub.of_to [0, 1, 5] 1 (by decide) (by simp [go_sem, wrap_succ (show i < 9223372036854775807 by omega), hS, markE_succ, markE_add, mB_def, upto_step hlt hf])
    · exact hlt
    · omega
  · obtain rfl : i = xs.length := by simp at hb7; omega
    clear hb7
    have hfu := upto_full (fMsg k xs) xs
    refine W_exit ?_
    simp [go_sem]
    first | refine h2 _ ?_ | refine ⟨by omega, h2 _ ?_⟩ | refine ⟨by omega, by omega, h2 _ ?_⟩ | (repeat (refine ⟨by first | omega | grind, ?_⟩)); refine h2 _ ?_
    clear h5 K5 h2 K2
    refine W_seqK fun K15 h15 => ?_
    refine W_reg ?_
    simp [go_sem, ty3]
    first | refine h15 _ ?_ | refine ⟨by omega, h15 _ ?_⟩ | refine ⟨by omega, by omega, h15 _ ?_⟩ | (repeat (refine ⟨by first | omega | grind, ?_⟩)); refine h15 _ ?_
    clear h15 K15
    refine W_ret ?_
    simp [go_sem, hfu, hu, sumTo_full]

set_option maxRecDepth 100000 in
set_option maxHeartbeats 4000000 in
theorem mc_laws_markFrameS (xs : List GFrame) (k : Int) (hx : xs.length ≤ 1048576) (hq : ∀ a ∈ xs, a.small) : MC1 Tryz.prog 108 3 (enc eFrame xs) (enc eFrame ((List.range xs.length).map (fFrame k xs))) [.int .i64 k] [.int .i64 (markE k (xs.map nFrame).sum)] := by
  refine MC1_of (n := 36) Tryz.func108 rfl rfl rfl rfl (by simp) fun a0 => ?_
  refine W_seqK fun K1 h1 => ?_
  refine W_reg ?_
  simp [go_sem, ty3]
  first | refine h1 _ ?_ | refine ⟨by omega, h1 _ ?_⟩ | refine ⟨by omega, by omega, h1 _ ?_⟩ | (repeat (refine ⟨by first | omega | grind, ?_⟩)); refine h1 _ ?_
  clear h1 K1
  refine W_seqK fun K2 h2 => ?_
  refine W_seqK fun K3 h3 => ?_
  refine W_reg ?_
  simp [go_sem, ty3]
  first | refine h3 _ ?_ | refine ⟨by omega, h3 _ ?_⟩ | refine ⟨by omega, by omega, h3 _ ?_⟩ | (repeat (refine ⟨by first | omega | grind, ?_⟩)); refine h3 _ ?_
  clear h3 K3
  refine W_block ?_
  refine W_loopI (α := Nat) (fun i => { env := [(0, true, .l (.ref 0 [] 3 0 xs.length)), (1, true, .l (.t (.int .i64 (markE k (sumTo nFrame xs i))))), (5, true, .l (.t (.int .i64 i)))], box := [], row := [(0, ⟨.own, 3, enc eFrame (upto (fFrame k xs) xs i)⟩)], nxt := 1, sav := [([(0, true, .l (.ref 0 [] 3 0 xs.length))], a0)] }) (fun i => i ≤ xs.length) (fun i => xs.length - i) 0 ?_ ?_ ?_
  · exact Sub.of_to [0, 1, 5] 1 (by decide) (by simp [go_sem, upto_zero, sumTo_zero, markE_zero])
  · exact Nat.zero_le _
  rintro i hinv
  have hu := upto_len (fFrame k xs) xs i hinv
  refine W_seqK fun K5 h5 => ?_
  refine W_seqK fun K6 h6 => ?_
  refine W_reg ?_
  simp [go_sem, ty3, ty4, ty42, ty118]
  first | refine h6 _ ?_ | refine ⟨by omega, h6 _ ?_⟩ | refine ⟨by omega, by omega, h6 _ ?_⟩ | (repeat (refine ⟨by first | omega | grind, ?_⟩)); refine h6 _ ?_
  clear h6 K6
  refine W_cond rfl (fun hb7 => ?_) fun hb7 => ?_
  · have hlt : i < xs.length := by simpa using hb7
    have hg := upto_get (fFrame k xs) xs hlt
    have hg2 := upto_getE (fFrame k xs) xs hlt (by omega)
    have hf : fFrame k xs i = ⟨markE k (sumTo nFrame xs i), marks (markE k (sumTo nFrame xs i + 1)) xs[i].list.length, mB k (sumTo nFrame xs i + 1 + xs[i].list.length)⟩ := by rw [fFrame_at hlt]; rfl
    have hS : sumTo nFrame xs (i + 1) = sumTo nFrame xs i + 1 + xs[i].list.length + 1 := by rw [sumTo_succ _ hlt]; have hn : nFrame xs[i] = 1 + xs[i].list.length + 1 := rfl; first | rfl | (rw [hn]; omega) | omega
    clear hb7
    have hs := hq _ (List.getElem_mem hlt)
    unfold GFrame.small at hs
    have q0 := hs
    refine W_skip ?_
    first | refine h5 _ ?_ | refine ⟨by omega, h5 _ ?_⟩ | refine ⟨by omega, by omega, h5 _ ?_⟩ | (repeat (refine ⟨by first | omega | grind, ?_⟩)); refine h5 _ ?_
    clear h5 K5
    refine W_seqK fun K8 h8 => ?_
    refine W_block ?_
    refine W_seqK fun K9 h9 => ?_
    refine W_reg ?_
    simp [go_sem, ty3, ty42, ty118, hlt, hu, hg, hg2, markE_succ, markE_add, mB_def]
    first | refine h9 _ ?_ | refine ⟨by omega, h9 _ ?_⟩ | refine ⟨by omega, by omega, h9 _ ?_⟩ | (repeat (refine ⟨by first | omega | grind, ?_⟩)); refine h9 _ ?_
    clear h9 K9
    refine W_seqK fun K10 h10 => ?_
    refine W_reg ?_
    simp [go_sem, ty3, hlt, hu, hg, hg2, markE_succ, markE_add, mB_def]
    first | refine h10 _ ?_ | refine ⟨by omega, h10 _ ?_⟩ | refine ⟨by omega, by omega, h10 _ ?_⟩ | (repeat (refine ⟨by first | omega | grind, ?_⟩)); refine h10 _ ?_
    clear h10 K10
    refine W_seqK fun K11 h11 => ?_
    refine W_reg ?_
    simp [go_sem, ty3, ty22, ty42, ty118, hlt, hu, hg, hg2, markE_succ, markE_add, mB_def]
    refine callG_true (by simp) (CallW_mut (mc_laws_markIntS xs[i].list (markE k (sumTo nFrame xs i + 1)) (by omega)) rfl rfl (by simp [go_sem, hlt, hu, hg, hg2, markE_succ, markE_add, mB_def]) (by simp [go_sem, hlt, hu, hg, hg2, markE_succ, markE_add, mB_def]) rfl ?_)
    simp [go_sem, ty3, hlt, hu, hg, hg2, markE_succ, markE_add, mB_def]
    first | refine h11 _ ?_ | refine ⟨by omega, h11 _ ?_⟩ | refine ⟨by omega, by omega, h11 _ ?_⟩ | (repeat (refine ⟨by first | omega | grind, ?_⟩)); refine h11 _ ?_
    clear h11 K11
    refine W_seqK fun K12 h12 => ?_
    refine W_reg ?_
    simp [go_sem, ty3, ty4, ty42, ty118, hlt, hu, hg, hg2, markE_succ, markE_add, mB_def]
    first | refine h12 _ ?_ | refine ⟨by omega, h12 _ ?_⟩ | refine ⟨by omega, by omega, h12 _ ?_⟩ | (repeat (refine ⟨by first | omega | grind, ?_⟩)); refine h12 _ ?_
    clear h12 K12
    refine W_reg ?_
    simp [go_sem, ty3, hlt, hu, hg, hg2, markE_succ, markE_add, mB_def]
    first | refine h8 _ ?_ | refine ⟨by omega, h8 _ ?_⟩ | refine ⟨by omega, by omega, h8 _ ?_⟩ | (repeat (refine ⟨by first | omega | grind, ?_⟩)); refine h8 _ ?_
    clear h8 K8
    refine W_reg ?_
    simp [go_sem, ty3, hlt, hu, hg, hg2, markE_succ, markE_add, mB_def]
    refine ⟨i + 1, ?_, ?_, ?_⟩
    · exact Sub.of_to [0, 1, 5] 1 (by decide) (by simp [go_sem, wrap_succ (show i < 9223372036854775807 by omega), hS, markE_succ, markE_add, mB_def, upto_step hlt hf])
    · exact hlt
    · omega
  · obtain rfl : i = xs.length := by simp at hb7; omega
    clear hb7
    have hfu := upto_full (fFrame k xs) xs
    refine W_exit ?_
    simp [go_sem]
    first | refine h2 _ ?_ | refine ⟨by omega, h2 _ ?_⟩ | refine ⟨by omega, by omega, h2 _ ?_⟩ | (repeat (refine ⟨by first | omega | grind, ?_⟩)); refine h2 _ ?_
    clear h5 K5 h2 K2
    refine W_seqK fun K13 h13 => ?_
    refine W_reg ?_
    simp [go_sem, ty3]
    first | refine h13 _ ?_ | refine ⟨by omega, h13 _ ?_⟩ | refine ⟨by omega, by omega, h13 _ ?_⟩ | (repeat (refine ⟨by first | omega | grind, ?_⟩)); refine h13 _ ?_
    clear h13 K13
    refine W_ret ?_
    simp [go_sem, hfu, hu, sumTo_full]
end Go.Tw
