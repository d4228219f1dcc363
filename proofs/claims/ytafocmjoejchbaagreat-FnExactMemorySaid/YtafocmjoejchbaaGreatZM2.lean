/- Walks of functions: laws.markHomeS, laws.markSenderS, laws.markPacketS, laws.markNodeS -/
import Derived.Test.YtafocmjoejchbaaGreatZM1
set_option linter.unusedSimpArgs false
set_option linter.unusedVariables false
set_option linter.unnecessarySimpa false
namespace Go.Tw
open Go.Proofs

set_option maxRecDepth 100000 in
set_option maxHeartbeats 4000000 in
theorem mc_laws_markHomeS (xs : List GHome) (k : Int) (hx : xs.length ≤ 1048576) (hq : ∀ a ∈ xs, a.small) : MC1 Tryz.prog 109 8 (enc eHome xs) (enc eHome ((List.range xs.length).map (fHome k xs))) [.int .i64 k] [.int .i64 (markE k (xs.map nHome).sum)] := by
  refine MC1_of (n := 75) Tryz.func109 rfl rfl rfl rfl (by simp) fun a0 => ?_
  refine W_seqK fun K1 h1 => ?_
  refine W_reg ?_
  simp [go_sem, ty3]
  first | refine h1 _ ?_ | refine ⟨by omega, h1 _ ?_⟩ | refine ⟨by omega, by omega, h1 _ ?_⟩ | (repeat (refine ⟨by first | omega | grind, ?_⟩)); refine h1 _ ?_
  clear h1 K1
  refine W_seqK fun K2 h2 => ?_
  refine W_seqK fun K3 h3 => ?_
  refine W_reg ?_
  simp [go_sem, ty3]
  first | refine h3 _ ?_ | refine ⟨by omega, h3 _ ?_⟩ | refine ⟨by omega, by omega, h3 _ ?_⟩ | (repeat (refine ⟨by first | omega | grind, ?_⟩)); refine h3 _ ?_
  clear h3 K3
  refine W_block ?_
  refine W_loopI (α := Nat) (fun i => { env := [(0, true, .l (.ref 0 [] 8 0 xs.length)), (1, true, .l (.t (.int .i64 (markE k (sumTo nHome xs i))))), (5, true, .l (.t (.int .i64 i)))], box := [], row := [(0, ⟨.own, 8, enc eHome (upto (fHome k xs) xs i)⟩)], nxt := 1, sav := [([(0, true, .l (.ref 0 [] 8 0 xs.length))], a0)] }) (fun i => i ≤ xs.length) (fun i => xs.length - i) 0 ?_ ?_ ?_
  · exact Sub.of_to [0, 1, 5] 1 (by decide) (by simp [go_sem, upto_zero, sumTo_zero, markE_zero])
  · exact Nat.zero_le _
  rintro i hinv
  have hu := upto_len (fHome k xs) xs i hinv
  refine W_seqK fun K5 h5 => ?_
  refine W_seqK fun K6 h6 => ?_
  refine W_reg ?_
  simp [go_sem, ty3, ty4, ty43, ty123]
  first | refine h6 _ ?_ | refine ⟨by omega, h6 _ ?_⟩ | refine ⟨by omega, by omega, h6 _ ?_⟩ | (repeat (refine ⟨by first | omega | grind, ?_⟩)); refine h6 _ ?_
  clear h6 K6
  refine W_cond rfl (fun hb7 => ?_) fun hb7 => ?_
  · have hlt : i < xs.length := by simpa using hb7
    have hg := upto_get (fHome k xs) xs hlt
    have hg2 := upto_getE (fHome k xs) xs hlt (by omega)
    have hf : fHome k xs i = ⟨marks (markE k (sumTo nHome xs i)) xs[i].list.length, markE k (sumTo nHome xs i + xs[i].list.length), (List.range xs[i].readers.length).map (mB (markE k (sumTo nHome xs i + xs[i].list.length + 1))), mB k (sumTo nHome xs i + xs[i].list.length + 1 + xs[i].readers.length), ⟨markE k (sumTo nHome xs i + xs[i].list.length + 1 + xs[i].readers.length + 1), mB k (sumTo nHome xs i + xs[i].list.length + 1 + xs[i].readers.length + 2)⟩, markE k (sumTo nHome xs i + xs[i].list.length + 1 + xs[i].readers.length + 3), (List.range xs[i].queue.length).map (mWait (markE k (sumTo nHome xs i + xs[i].list.length + 1 + xs[i].readers.length + 4)))⟩ := by rw [fHome_at hlt]; rfl
    have hS : sumTo nHome xs (i + 1) = sumTo nHome xs i + xs[i].list.length + 1 + xs[i].readers.length + 4 + 2 * xs[i].queue.length := by rw [sumTo_succ _ hlt]; have hn : nHome xs[i] = xs[i].list.length + 1 + xs[i].readers.length + 4 + 2 * xs[i].queue.length := rfl; first | rfl | (rw [hn]; omega) | omega
    clear hb7
    have hs := hq _ (List.getElem_mem hlt)
    unfold GHome.small at hs
    obtain ⟨q0, q1, q2⟩ := hs
    refine W_skip ?_
    first | refine h5 _ ?_ | refine ⟨by omega, h5 _ ?_⟩ | refine ⟨by omega, by omega, h5 _ ?_⟩ | (repeat (refine ⟨by first | omega | grind, ?_⟩)); refine h5 _ ?_
    clear h5 K5
    refine W_seqK fun K8 h8 => ?_
    refine W_block ?_
    refine W_seqK fun K9 h9 => ?_
    refine W_reg ?_
    simp [go_sem, ty3, ty22, ty43, ty123, hlt, hu, hg, hg2, markE_succ, markE_add, mB_def]
    refine callG_true (by simp) (CallW_mut (mc_laws_markIntS xs[i].list (markE k (sumTo nHome xs i)) (by omega)) rfl rfl (by simp [go_sem, hlt, hu, hg, hg2, markE_succ, markE_add, mB_def]) (by simp [go_sem, hlt, hu, hg, hg2, markE_succ, markE_add, mB_def]) rfl ?_)
    simp [go_sem, ty3, hlt, hu, hg, hg2, markE_succ, markE_add, mB_def]
    first | refine h9 _ ?_ | refine ⟨by omega, h9 _ ?_⟩ | refine ⟨by omega, by omega, h9 _ ?_⟩ | (repeat (refine ⟨by first | omega | grind, ?_⟩)); refine h9 _ ?_
    clear h9 K9
    refine W_seqK fun K10 h10 => ?_
    refine W_reg ?_
    simp [go_sem, ty3, ty43, ty123, hlt, hu, hg, hg2, markE_succ, markE_add, mB_def]
    first | refine h10 _ ?_ | refine ⟨by omega, h10 _ ?_⟩ | refine ⟨by omega, by omega, h10 _ ?_⟩ | (repeat (refine ⟨by first | omega | grind, ?_⟩)); refine h10 _ ?_
    clear h10 K10
    refine W_seqK fun K11 h11 => ?_
    refine W_reg ?_
    simp [go_sem, ty3, hlt, hu, hg, hg2, markE_succ, markE_add, mB_def]
    first | refine h11 _ ?_ | refine ⟨by omega, h11 _ ?_⟩ | refine ⟨by omega, by omega, h11 _ ?_⟩ | (repeat (refine ⟨by first | omega | grind, ?_⟩)); refine h11 _ ?_
    clear h11 K11
    refine W_seqK fun K12 h12 => ?_
    refine W_reg ?_
    simp [go_sem, ty3, ty4, ty43, ty106, ty123, hlt, hu, hg, hg2, markE_succ, markE_add, mB_def]
    refine callG_true (by simp) (CallW_mut (mc_laws_markBoolS xs[i].readers (markE k (sumTo nHome xs i + xs[i].list.length + 1)) (by omega)) rfl rfl (by simp [go_sem, hlt, hu, hg, hg2, markE_succ, markE_add, mB_def]) (by simp [go_sem, hlt, hu, hg, hg2, markE_succ, markE_add, mB_def]) rfl ?_)
    simp [go_sem, ty3, hlt, hu, hg, hg2, markE_succ, markE_add, mB_def]
    first | refine h12 _ ?_ | refine ⟨by omega, h12 _ ?_⟩ | refine ⟨by omega, by omega, h12 _ ?_⟩ | (repeat (refine ⟨by first | omega | grind, ?_⟩)); refine h12 _ ?_
    clear h12 K12
    refine W_seqK fun K13 h13 => ?_
    refine W_reg ?_
    simp [go_sem, ty3, ty4, ty43, ty123, hlt, hu, hg, hg2, markE_succ, markE_add, mB_def]
    first | refine h13 _ ?_ | refine ⟨by omega, h13 _ ?_⟩ | refine ⟨by omega, by omega, h13 _ ?_⟩ | (repeat (refine ⟨by first | omega | grind, ?_⟩)); refine h13 _ ?_
    clear h13 K13
    refine W_seqK fun K14 h14 => ?_
    refine W_reg ?_
    simp [go_sem, ty3, hlt, hu, hg, hg2, markE_succ, markE_add, mB_def]
    first | refine h14 _ ?_ | refine ⟨by omega, h14 _ ?_⟩ | refine ⟨by omega, by omega, h14 _ ?_⟩ | (repeat (refine ⟨by first | omega | grind, ?_⟩)); refine h14 _ ?_
    clear h14 K14
    refine W_seqK fun K15 h15 => ?_
    refine W_reg ?_
    simp [go_sem, ty3, ty43, ty120, ty123, hlt, hu, hg, hg2, markE_succ, markE_add, mB_def]
    first | refine h15 _ ?_ | refine ⟨by omega, h15 _ ?_⟩ | refine ⟨by omega, by omega, h15 _ ?_⟩ | (repeat (refine ⟨by first | omega | grind, ?_⟩)); refine h15 _ ?_
    clear h15 K15
    refine W_seqK fun K16 h16 => ?_
    refine W_reg ?_
    simp [go_sem, ty3, hlt, hu, hg, hg2, markE_succ, markE_add, mB_def]
    first | refine h16 _ ?_ | refine ⟨by omega, h16 _ ?_⟩ | refine ⟨by omega, by omega, h16 _ ?_⟩ | (repeat (refine ⟨by first | omega | grind, ?_⟩)); refine h16 _ ?_
    clear h16 K16
    refine W_seqK fun K17 h17 => ?_
    refine W_reg ?_
    simp [go_sem, ty3, ty4, ty43, ty120, ty123, hlt, hu, hg, hg2, markE_succ, markE_add, mB_def]
    first | refine h17 _ ?_ | refine ⟨by omega, h17 _ ?_⟩ | refine ⟨by omega, by omega, h17 _ ?_⟩ | (repeat (refine ⟨by first | omega | grind, ?_⟩)); refine h17 _ ?_
    clear h17 K17
    refine W_seqK fun K18 h18 => ?_
    refine W_reg ?_
    simp [go_sem, ty3, hlt, hu, hg, hg2, markE_succ, markE_add, mB_def]
    first | refine h18 _ ?_ | refine ⟨by omega, h18 _ ?_⟩ | refine ⟨by omega, by omega, h18 _ ?_⟩ | (repeat (refine ⟨by first | omega | grind, ?_⟩)); refine h18 _ ?_
    clear h18 K18
    refine W_seqK fun K19 h19 => ?_
    refine W_reg ?_
    simp [go_sem, ty3, ty43, ty123, hlt, hu, hg, hg2, markE_succ, markE_add, mB_def]
    first | refine h19 _ ?_ | refine ⟨by omega, h19 _ ?_⟩ | refine ⟨by omega, by omega, h19 _ ?_⟩ | (repeat (refine ⟨by first | omega | grind, ?_⟩)); refine h19 _ ?_
    clear h19 K19
    refine W_seqK fun K20 h20 => ?_
    refine W_reg ?_
    simp [go_sem, ty3, hlt, hu, hg, hg2, markE_succ, markE_add, mB_def]
    first | refine h20 _ ?_ | refine ⟨by omega, h20 _ ?_⟩ | refine ⟨by omega, by omega, h20 _ ?_⟩ | (repeat (refine ⟨by first | omega | grind, ?_⟩)); refine h20 _ ?_
    clear h20 K20
    refine W_reg ?_
    simp [go_sem, ty3, ty43, ty120, ty121, ty123, hlt, hu, hg, hg2, markE_succ, markE_add, mB_def]
    refine callG_true (by simp) (CallW_mut (mc_laws_markWaitS xs[i].queue (markE k (sumTo nHome xs i + xs[i].list.length + 1 + xs[i].readers.length + 4)) (by omega)) rfl rfl (by simp [go_sem, hlt, hu, hg, hg2, markE_succ, markE_add, mB_def]) (by simp [go_sem, hlt, hu, hg, hg2, markE_succ, markE_add, mB_def]) rfl ?_)
    simp [go_sem, ty3, hlt, hu, hg, hg2, markE_succ, markE_add, mB_def]
    first | refine h8 _ ?_ | refine ⟨by omega, h8 _ ?_⟩ | refine ⟨by omega, by omega, h8 _ ?_⟩ | (repeat (refine ⟨by first | omega | grind, ?_⟩)); refine h8 _ ?_
    clear h8 K8
    refine W_reg ?_
    simp [go_sem, ty3, hlt, hu, hg, hg2, markE_succ, markE_add, mB_def]
    refine ⟨i + 1, ?_, ?_, ?_⟩
    · exact Sub.of_to [0, 1, 5] 1 (by decide) (by simp [go_sem, wrap_succ (show i < 9223372036854775807 by omega), hS, markE_succ, markE_add, mB_def, upto_step hlt hf])
    · exact hlt
    · omega
  · obtain rfl : i = xs.length := by simp at hb7; omega
    clear hb7
    have hfu := upto_full (fHome k xs) xs
    refine W_exit ?_
    simp [go_sem]
    first | refine h2 _ ?_ | refine ⟨by omega, h2 _ ?_⟩ | refine ⟨by omega, by omega, h2 _ ?_⟩ | (repeat (refine ⟨by first | omega | grind, ?_⟩)); refine h2 _ ?_
    clear h5 K5 h2 K2
    refine W_seqK fun K21 h21 => ?_
    refine W_reg ?_
    simp [go_sem, ty3]
    first | refine h21 _ ?_ | refine ⟨by omega, h21 _ ?_⟩ | refine ⟨by omega, by omega, h21 _ ?_⟩ | (repeat (refine ⟨by first | omega | grind, ?_⟩)); refine h21 _ ?_
    clear h21 K21
    refine W_ret ?_
    simp [go_sem, hfu, hu, sumTo_full]

set_option maxRecDepth 100000 in
set_option maxHeartbeats 4000000 in
theorem mc_laws_markSenderS (xs : List GSender) (k : Int) (hx : xs.length ≤ 1048576) (hq : ∀ a ∈ xs, a.small) : MC1 Tryz.prog 110 2 (enc eSender xs) (enc eSender ((List.range xs.length).map (fSender k xs))) [.int .i64 k] [.int .i64 (markE k (xs.map nSender).sum)] := by
  refine MC1_of (n := 27) Tryz.func110 rfl rfl rfl rfl (by simp) fun a0 => ?_
  refine W_seqK fun K1 h1 => ?_
  refine W_reg ?_
  simp [go_sem, ty3]
  first | refine h1 _ ?_ | refine ⟨by omega, h1 _ ?_⟩ | refine ⟨by omega, by omega, h1 _ ?_⟩ | (repeat (refine ⟨by first | omega | grind, ?_⟩)); refine h1 _ ?_
  clear h1 K1
  refine W_seqK fun K2 h2 => ?_
  refine W_seqK fun K3 h3 => ?_
  refine W_reg ?_
  simp [go_sem, ty3]
  first | refine h3 _ ?_ | refine ⟨by omega, h3 _ ?_⟩ | refine ⟨by omega, by omega, h3 _ ?_⟩ | (repeat (refine ⟨by first | omega | grind, ?_⟩)); refine h3 _ ?_
  clear h3 K3
  refine W_block ?_
  refine W_loopI (α := Nat) (fun i => { env := [(0, true, .l (.ref 0 [] 2 0 xs.length)), (1, true, .l (.t (.int .i64 (markE k (sumTo nSender xs i))))), (5, true, .l (.t (.int .i64 i)))], box := [], row := [(0, ⟨.own, 2, enc eSender (upto (fSender k xs) xs i)⟩)], nxt := 1, sav := [([(0, true, .l (.ref 0 [] 2 0 xs.length))], a0)] }) (fun i => i ≤ xs.length) (fun i => xs.length - i) 0 ?_ ?_ ?_
  · exact Sub.of_to [0, 1, 5] 1 (by decide) (by simp [go_sem, upto_zero, sumTo_zero, markE_zero])
  · exact Nat.zero_le _
  rintro i hinv
  have hu := upto_len (fSender k xs) xs i hinv
  refine W_seqK fun K5 h5 => ?_
  refine W_seqK fun K6 h6 => ?_
  refine W_reg ?_
  simp [go_sem, ty3, ty4, ty44, ty127]
  first | refine h6 _ ?_ | refine ⟨by omega, h6 _ ?_⟩ | refine ⟨by omega, by omega, h6 _ ?_⟩ | (repeat (refine ⟨by first | omega | grind, ?_⟩)); refine h6 _ ?_
  clear h6 K6
  refine W_cond rfl (fun hb7 => ?_) fun hb7 => ?_
  · have hlt : i < xs.length := by simpa using hb7
    have hg := upto_get (fSender k xs) xs hlt
    have hg2 := upto_getE (fSender k xs) xs hlt (by omega)
    have hf : fSender k xs i = ⟨markE k (sumTo nSender xs i), (List.range xs[i].queue.length).map (fMsg (markE k (sumTo nSender xs i + 1)) xs[i].queue)⟩ := by rw [fSender_at hlt]; rfl
    have hS : sumTo nSender xs (i + 1) = sumTo nSender xs i + 1 + (xs[i].queue.map nMsg).sum := by rw [sumTo_succ _ hlt]; have hn : nSender xs[i] = 1 + (xs[i].queue.map nMsg).sum := rfl; first | rfl | (rw [hn]; omega) | omega
    clear hb7
    have hs := hq _ (List.getElem_mem hlt)
    unfold GSender.small at hs
    obtain ⟨q0, q1⟩ := hs
    refine W_skip ?_
    first | refine h5 _ ?_ | refine ⟨by omega, h5 _ ?_⟩ | refine ⟨by omega, by omega, h5 _ ?_⟩ | (repeat (refine ⟨by first | omega | grind, ?_⟩)); refine h5 _ ?_
    clear h5 K5
    refine W_seqK fun K8 h8 => ?_
    refine W_block ?_
    refine W_seqK fun K9 h9 => ?_
    refine W_reg ?_
    simp [go_sem, ty3, ty44, ty127, hlt, hu, hg, hg2, markE_succ, markE_add, mB_def]
    first | refine h9 _ ?_ | refine ⟨by omega, h9 _ ?_⟩ | refine ⟨by omega, by omega, h9 _ ?_⟩ | (repeat (refine ⟨by first | omega | grind, ?_⟩)); refine h9 _ ?_
    clear h9 K9
    refine W_seqK fun K10 h10 => ?_
    refine W_reg ?_
    simp [go_sem, ty3, hlt, hu, hg, hg2, markE_succ, markE_add, mB_def]
    first | refine h10 _ ?_ | refine ⟨by omega, h10 _ ?_⟩ | refine ⟨by omega, by omega, h10 _ ?_⟩ | (repeat (refine ⟨by first | omega | grind, ?_⟩)); refine h10 _ ?_
    clear h10 K10
    refine W_reg ?_
    simp [go_sem, ty3, ty44, ty125, ty127, ty165, hlt, hu, hg, hg2, markE_succ, markE_add, mB_def]
    refine callG_true (by simp) (CallW_mut (mc_laws_markMsgS xs[i].queue (markE k (sumTo nSender xs i + 1)) q0 q1) rfl rfl (by simp [go_sem, hlt, hu, hg, hg2, markE_succ, markE_add, mB_def]) (by simp [go_sem, hlt, hu, hg, hg2, markE_succ, markE_add, mB_def]) rfl ?_)
    simp [go_sem, ty3, hlt, hu, hg, hg2, markE_succ, markE_add, mB_def]
    first | refine h8 _ ?_ | refine ⟨by omega, h8 _ ?_⟩ | refine ⟨by omega, by omega, h8 _ ?_⟩ | (repeat (refine ⟨by first | omega | grind, ?_⟩)); refine h8 _ ?_
    clear h8 K8
    refine W_reg ?_
    simp [go_sem, ty3, hlt, hu, hg, hg2, markE_succ, markE_add, mB_def]
    refine ⟨i + 1, ?_, ?_, ?_⟩
    · exact Sub.of_to [0, 1, 5] 1 (by decide) (by simp [go_sem, wrap_succ (show i < 9223372036854775807 by omega), hS, markE_succ, markE_add, mB_def, upto_step hlt hf])
    · exact hlt
    · omega
  · obtain rfl : i = xs.length := by simp at hb7; omega
    clear hb7
    have hfu := upto_full (fSender k xs) xs
    refine W_exit ?_
    simp [go_sem]
    first | refine h2 _ ?_ | refine ⟨by omega, h2 _ ?_⟩ | refine ⟨by omega, by omega, h2 _ ?_⟩ | (repeat (refine ⟨by first | omega | grind, ?_⟩)); refine h2 _ ?_
    clear h5 K5 h2 K2
    refine W_seqK fun K11 h11 => ?_
    refine W_reg ?_
    simp [go_sem, ty3]
    first | refine h11 _ ?_ | refine ⟨by omega, h11 _ ?_⟩ | refine ⟨by omega, by omega, h11 _ ?_⟩ | (repeat (refine ⟨by first | omega | grind, ?_⟩)); refine h11 _ ?_
    clear h11 K11
    refine W_ret ?_
    simp [go_sem, hfu, hu, sumTo_full]

set_option maxRecDepth 100000 in
set_option maxHeartbeats 4000000 in
theorem mc_laws_markPacketS (xs : List GPacket) (k : Int) (hx : xs.length ≤ 1048576) (hq : ∀ a ∈ xs, a.small) : MC1 Tryz.prog 55 8 (enc ePacket xs) (enc ePacket ((List.range xs.length).map (fPacket k xs))) [.int .i64 k] [.int .i64 (markE k (xs.map nPacket).sum)] := by
  refine MC1_of (n := 77) Tryz.func55 rfl rfl rfl rfl (by simp) fun a0 => ?_
  refine W_seqK fun K1 h1 => ?_
  refine W_reg ?_
  simp [go_sem, ty3]
  first | refine h1 _ ?_ | refine ⟨by omega, h1 _ ?_⟩ | refine ⟨by omega, by omega, h1 _ ?_⟩ | (repeat (refine ⟨by first | omega | grind, ?_⟩)); refine h1 _ ?_
  clear h1 K1
  refine W_seqK fun K2 h2 => ?_
  refine W_seqK fun K3 h3 => ?_
  refine W_reg ?_
  simp [go_sem, ty3]
  first | refine h3 _ ?_ | refine ⟨by omega, h3 _ ?_⟩ | refine ⟨by omega, by omega, h3 _ ?_⟩ | (repeat (refine ⟨by first | omega | grind, ?_⟩)); refine h3 _ ?_
  clear h3 K3
  refine W_block ?_
  refine W_loopI (α := Nat) (fun i => { env := [(0, true, .l (.ref 0 [] 8 0 xs.length)), (1, true, .l (.t (.int .i64 (markE k (sumTo nPacket xs i))))), (5, true, .l (.t (.int .i64 i)))], box := [], row := [(0, ⟨.own, 8, enc ePacket (upto (fPacket k xs) xs i)⟩)], nxt := 1, sav := [([(0, true, .l (.ref 0 [] 8 0 xs.length))], a0)] }) (fun i => i ≤ xs.length) (fun i => xs.length - i) 0 ?_ ?_ ?_
  · exact Sub.of_to [0, 1, 5] 1 (by decide) (by simp [go_sem, upto_zero, sumTo_zero, markE_zero])
  · exact Nat.zero_le _
  rintro i hinv
  have hu := upto_len (fPacket k xs) xs i hinv
  refine W_seqK fun K5 h5 => ?_
  refine W_seqK fun K6 h6 => ?_
  refine W_reg ?_
  simp [go_sem, ty3, ty4, ty59, ty167]
  first | refine h6 _ ?_ | refine ⟨by omega, h6 _ ?_⟩ | refine ⟨by omega, by omega, h6 _ ?_⟩ | (repeat (refine ⟨by first | omega | grind, ?_⟩)); refine h6 _ ?_
  clear h6 K6
  refine W_cond rfl (fun hb7 => ?_) fun hb7 => ?_
  · have hlt : i < xs.length := by simpa using hb7
    have hg := upto_get (fPacket k xs) xs hlt
    have hg2 := upto_getE (fPacket k xs) xs hlt (by omega)
    have hf : fPacket k xs i = ⟨markE k (sumTo nPacket xs i), markE k (sumTo nPacket xs i + 1), mB k (sumTo nPacket xs i + 2), markE k (sumTo nPacket xs i + 3), ⟨markE k (sumTo nPacket xs i + 4), markE k (sumTo nPacket xs i + 5), mB k (sumTo nPacket xs i + 6), marks (markE k (sumTo nPacket xs i + 7)) xs[i].msg.list.length⟩⟩ := by rw [fPacket_at hlt]; rfl
    have hS : sumTo nPacket xs (i + 1) = sumTo nPacket xs i + 7 + xs[i].msg.list.length := by rw [sumTo_succ _ hlt]; have hn : nPacket xs[i] = 7 + xs[i].msg.list.length := rfl; first | rfl | (rw [hn]; omega) | omega
    clear hb7
    have hs := hq _ (List.getElem_mem hlt)
    unfold GPacket.small GMsg.small at hs
    have q0 := hs
    refine W_skip ?_
    first | refine h5 _ ?_ | refine ⟨by omega, h5 _ ?_⟩ | refine ⟨by omega, by omega, h5 _ ?_⟩ | (repeat (refine ⟨by first | omega | grind, ?_⟩)); refine h5 _ ?_
    clear h5 K5
    refine W_seqK fun K8 h8 => ?_
    refine W_block ?_
    refine W_seqK fun K9 h9 => ?_
    refine W_reg ?_
    simp [go_sem, ty3, ty59, ty167, hlt, hu, hg, hg2, markE_succ, markE_add, mB_def]
    first | refine h9 _ ?_ | refine ⟨by omega, h9 _ ?_⟩ | refine ⟨by omega, by omega, h9 _ ?_⟩ | (repeat (refine ⟨by first | omega | grind, ?_⟩)); refine h9 _ ?_
    clear h9 K9
    refine W_seqK fun K10 h10 => ?_
    refine W_reg ?_
    simp [go_sem, ty3, hlt, hu, hg, hg2, markE_succ, markE_add, mB_def]
    first | refine h10 _ ?_ | refine ⟨by omega, h10 _ ?_⟩ | refine ⟨by omega, by omega, h10 _ ?_⟩ | (repeat (refine ⟨by first | omega | grind, ?_⟩)); refine h10 _ ?_
    clear h10 K10
    refine W_seqK fun K11 h11 => ?_
    refine W_reg ?_
    simp [go_sem, ty3, ty59, ty167, hlt, hu, hg, hg2, markE_succ, markE_add, mB_def]
    first | refine h11 _ ?_ | refine ⟨by omega, h11 _ ?_⟩ | refine ⟨by omega, by omega, h11 _ ?_⟩ | (repeat (refine ⟨by first | omega | grind, ?_⟩)); refine h11 _ ?_
    clear h11 K11
    refine W_seqK fun K12 h12 => ?_
    refine W_reg ?_
    simp [go_sem, ty3, hlt, hu, hg, hg2, markE_succ, markE_add, mB_def]
    first | refine h12 _ ?_ | refine ⟨by omega, h12 _ ?_⟩ | refine ⟨by omega, by omega, h12 _ ?_⟩ | (repeat (refine ⟨by first | omega | grind, ?_⟩)); refine h12 _ ?_
    clear h12 K12
    refine W_seqK fun K13 h13 => ?_
    refine W_reg ?_
    simp [go_sem, ty3, ty4, ty59, ty167, hlt, hu, hg, hg2, markE_succ, markE_add, mB_def]
    first | refine h13 _ ?_ | refine ⟨by omega, h13 _ ?_⟩ | refine ⟨by omega, by omega, h13 _ ?_⟩ | (repeat (refine ⟨by first | omega | grind, ?_⟩)); refine h13 _ ?_
    clear h13 K13
    refine W_seqK fun K14 h14 => ?_
    refine W_reg ?_
    simp [go_sem, ty3, hlt, hu, hg, hg2, markE_succ, markE_add, mB_def]
    first | refine h14 _ ?_ | refine ⟨by omega, h14 _ ?_⟩ | refine ⟨by omega, by omega, h14 _ ?_⟩ | (repeat (refine ⟨by first | omega | grind, ?_⟩)); refine h14 _ ?_
    clear h14 K14
    refine W_seqK fun K15 h15 => ?_
    refine W_reg ?_
    simp [go_sem, ty3, ty59, ty167, hlt, hu, hg, hg2, markE_succ, markE_add, mB_def]
    first | refine h15 _ ?_ | refine ⟨by omega, h15 _ ?_⟩ | refine ⟨by omega, by omega, h15 _ ?_⟩ | (repeat (refine ⟨by first | omega | grind, ?_⟩)); refine h15 _ ?_
    clear h15 K15
    refine W_seqK fun K16 h16 => ?_
    refine W_reg ?_
    simp [go_sem, ty3, hlt, hu, hg, hg2, markE_succ, markE_add, mB_def]
    first | refine h16 _ ?_ | refine ⟨by omega, h16 _ ?_⟩ | refine ⟨by omega, by omega, h16 _ ?_⟩ | (repeat (refine ⟨by first | omega | grind, ?_⟩)); refine h16 _ ?_
    clear h16 K16
    refine W_seqK fun K17 h17 => ?_
    refine W_reg ?_
    simp [go_sem, ty3, ty59, ty165, ty167, hlt, hu, hg, hg2, markE_succ, markE_add, mB_def]
    first | refine h17 _ ?_ | refine ⟨by omega, h17 _ ?_⟩ | refine ⟨by omega, by omega, h17 _ ?_⟩ | (repeat (refine ⟨by first | omega | grind, ?_⟩)); refine h17 _ ?_
    clear h17 K17
    refine W_seqK fun K18 h18 => ?_
    refine W_reg ?_
    simp [go_sem, ty3, hlt, hu, hg, hg2, markE_succ, markE_add, mB_def]
    first | refine h18 _ ?_ | refine ⟨by omega, h18 _ ?_⟩ | refine ⟨by omega, by omega, h18 _ ?_⟩ | (repeat (refine ⟨by first | omega | grind, ?_⟩)); refine h18 _ ?_
    clear h18 K18
    refine W_seqK fun K19 h19 => ?_
    refine W_reg ?_
    simp [go_sem, ty3, ty59, ty165, ty167, hlt, hu, hg, hg2, markE_succ, markE_add, mB_def]
    first | refine h19 _ ?_ | refine ⟨by omega, h19 _ ?_⟩ | refine ⟨by omega, by omega, h19 _ ?_⟩ | (repeat (refine ⟨by first | omega | grind, ?_⟩)); refine h19 _ ?_
    clear h19 K19
    refine W_seqK fun K20 h20 => ?_
    refine W_reg ?_
    simp [go_sem, ty3, hlt, hu, hg, hg2, markE_succ, markE_add, mB_def]
    first | refine h20 _ ?_ | refine ⟨by omega, h20 _ ?_⟩ | refine ⟨by omega, by omega, h20 _ ?_⟩ | (repeat (refine ⟨by first | omega | grind, ?_⟩)); refine h20 _ ?_
    clear h20 K20
    refine W_seqK fun K21 h21 => ?_
    refine W_reg ?_
    simp [go_sem, ty3, ty4, ty59, ty165, ty167, hlt, hu, hg, hg2, markE_succ, markE_add, mB_def]
    first | refine h21 _ ?_ | refine ⟨by omega, h21 _ ?_⟩ | refine ⟨by omega, by omega, h21 _ ?_⟩ | (repeat (refine ⟨by first | omega | grind, ?_⟩)); refine h21 _ ?_
    clear h21 K21
    refine W_seqK fun K22 h22 => ?_
    refine W_reg ?_
    simp [go_sem, ty3, hlt, hu, hg, hg2, markE_succ, markE_add, mB_def]
    first | refine h22 _ ?_ | refine ⟨by omega, h22 _ ?_⟩ | refine ⟨by omega, by omega, h22 _ ?_⟩ | (repeat (refine ⟨by first | omega | grind, ?_⟩)); refine h22 _ ?_
    clear h22 K22
    refine W_reg ?_
    simp [go_sem, ty3, ty22, ty59, ty165, ty167, hlt, hu, hg, hg2, markE_succ, markE_add, mB_def]
    refine callG_true (by simp) (CallW_mut (mc_laws_markIntS xs[i].msg.list (markE k (sumTo nPacket xs i + 7)) (by omega)) rfl rfl (by simp [go_sem, hlt, hu, hg, hg2, markE_succ, markE_add, mB_def]) (by simp [go_sem, hlt, hu, hg, hg2, markE_succ, markE_add, mB_def]) rfl ?_)
    simp [go_sem, ty3, hlt, hu, hg, hg2, markE_succ, markE_add, mB_def]
    first | refine h8 _ ?_ | refine ⟨by omega, h8 _ ?_⟩ | refine ⟨by omega, by omega, h8 _ ?_⟩ | (repeat (refine ⟨by first | omega | grind, ?_⟩)); refine h8 _ ?_
    clear h8 K8
    refine W_reg ?_
    simp [go_sem, ty3, hlt, hu, hg, hg2, markE_succ, markE_add, mB_def]
    refine ⟨i + 1, ?_, ?_, ?_⟩
    · exact Sub.of_to [0, 1, 5] 1 (by decide) (by simp [go_sem, wrap_succ (show i < 9223372036854775807 by omega), hS, markE_succ, markE_add, mB_def, upto_step hlt hf])
    · exact hlt
    · omega
  · obtain rfl : i = xs.length := by simp at hb7; omega
    clear hb7
    have hfu := upto_full (fPacket k xs) xs
    refine W_exit ?_
    simp [go_sem]
    first | refine h2 _ ?_ | refine ⟨by omega, h2 _ ?_⟩ | refine ⟨by omega, by omega, h2 _ ?_⟩ | (repeat (refine ⟨by first | omega | grind, ?_⟩)); refine h2 _ ?_
    clear h5 K5 h2 K2
    refine W_seqK fun K23 h23 => ?_
    refine W_reg ?_
    simp [go_sem, ty3]
    first | refine h23 _ ?_ | refine ⟨by omega, h23 _ ?_⟩ | refine ⟨by omega, by omega, h23 _ ?_⟩ | (repeat (refine ⟨by first | omega | grind, ?_⟩)); refine h23 _ ?_
    clear h23 K23
    refine W_ret ?_
    simp [go_sem, hfu, hu, sumTo_full]

set_option maxRecDepth 100000 in
set_option maxHeartbeats 4000000 in
theorem mc_laws_markNodeS (xs : List GNode) (k : Int) (hx : xs.length ≤ 1048576) (hq : ∀ a ∈ xs, a.small) : MC1 Tryz.prog 54 5 (enc eNode xs) (enc eNode ((List.range xs.length).map (fNode k xs))) [.int .i64 k] [.int .i64 (markE k (xs.map nNode).sum)] := by
  refine MC1_of (n := 48) Tryz.func54 rfl rfl rfl rfl (by simp) fun a0 => ?_
  refine W_seqK fun K1 h1 => ?_
  refine W_reg ?_
  simp [go_sem, ty3]
  first | refine h1 _ ?_ | refine ⟨by omega, h1 _ ?_⟩ | refine ⟨by omega, by omega, h1 _ ?_⟩ | (repeat (refine ⟨by first | omega | grind, ?_⟩)); refine h1 _ ?_
  clear h1 K1
  refine W_seqK fun K2 h2 => ?_
  refine W_seqK fun K3 h3 => ?_
  refine W_reg ?_
  simp [go_sem, ty3]
  first | refine h3 _ ?_ | refine ⟨by omega, h3 _ ?_⟩ | refine ⟨by omega, by omega, h3 _ ?_⟩ | (repeat (refine ⟨by first | omega | grind, ?_⟩)); refine h3 _ ?_
  clear h3 K3
  refine W_block ?_
  refine W_loopI (α := Nat) (fun i => { env := [(0, true, .l (.ref 0 [] 5 0 xs.length)), (1, true, .l (.t (.int .i64 (markE k (sumTo nNode xs i))))), (5, true, .l (.t (.int .i64 i)))], box := [], row := [(0, ⟨.own, 5, enc eNode (upto (fNode k xs) xs i)⟩)], nxt := 1, sav := [([(0, true, .l (.ref 0 [] 5 0 xs.length))], a0)] }) (fun i => i ≤ xs.length) (fun i => xs.length - i) 0 ?_ ?_ ?_
  · exact Sub.of_to [0, 1, 5] 1 (by decide) (by simp [go_sem, upto_zero, sumTo_zero, markE_zero])
  · exact Nat.zero_le _
  rintro i hinv
  have hu := upto_len (fNode k xs) xs i hinv
  refine W_seqK fun K5 h5 => ?_
  refine W_seqK fun K6 h6 => ?_
  refine W_reg ?_
  simp [go_sem, ty3, ty4, ty47, ty58]
  first | refine h6 _ ?_ | refine ⟨by omega, h6 _ ?_⟩ | refine ⟨by omega, by omega, h6 _ ?_⟩ | (repeat (refine ⟨by first | omega | grind, ?_⟩)); refine h6 _ ?_
  clear h6 K6
  refine W_cond rfl (fun hb7 => ?_) fun hb7 => ?_
  · have hlt : i < xs.length := by simpa using hb7
    have hg := upto_get (fNode k xs) xs hlt
    have hg2 := upto_getE (fNode k xs) xs hlt (by omega)
    have hf : fNode k xs i = ⟨markE k (sumTo nNode xs i), (List.range xs[i].frames.length).map (fFrame (markE k (sumTo nNode xs i + 1)) xs[i].frames), (List.range xs[i].homes.length).map (fHome (markE k (sumTo nNode xs i + 1 + (xs[i].frames.map nFrame).sum)) xs[i].homes), (List.range xs[i].out.length).map (fSender (markE k (sumTo nNode xs i + 1 + (xs[i].frames.map nFrame).sum + (xs[i].homes.map nHome).sum)) xs[i].out), (List.range xs[i].in_.length).map (mReceiver (markE k (sumTo nNode xs i + 1 + (xs[i].frames.map nFrame).sum + (xs[i].homes.map nHome).sum + (xs[i].out.map nSender).sum)))⟩ := by rw [fNode_at hlt]; rfl
    have hS : sumTo nNode xs (i + 1) = sumTo nNode xs i + 1 + (xs[i].frames.map nFrame).sum + (xs[i].homes.map nHome).sum + (xs[i].out.map nSender).sum + xs[i].in_.length := by rw [sumTo_succ _ hlt]; have hn : nNode xs[i] = 1 + (xs[i].frames.map nFrame).sum + (xs[i].homes.map nHome).sum + (xs[i].out.map nSender).sum + xs[i].in_.length := rfl; first | rfl | (rw [hn]; omega) | omega
    clear hb7
    have hs := hq _ (List.getElem_mem hlt)
    unfold GNode.small at hs
    obtain ⟨q0, q1, q2, q3, q4, q5, q6⟩ := hs
    refine W_skip ?_
    first | refine h5 _ ?_ | refine ⟨by omega, h5 _ ?_⟩ | refine ⟨by omega, by omega, h5 _ ?_⟩ | (repeat (refine ⟨by first | omega | grind, ?_⟩)); refine h5 _ ?_
    clear h5 K5
    refine W_seqK fun K8 h8 => ?_
    refine W_block ?_
    refine W_seqK fun K9 h9 => ?_
    refine W_reg ?_
    simp [go_sem, ty3, ty47, ty58, hlt, hu, hg, hg2, markE_succ, markE_add, mB_def]
    first | refine h9 _ ?_ | refine ⟨by omega, h9 _ ?_⟩ | refine ⟨by omega, by omega, h9 _ ?_⟩ | (repeat (refine ⟨by first | omega | grind, ?_⟩)); refine h9 _ ?_
    clear h9 K9
    refine W_seqK fun K10 h10 => ?_
    refine W_reg ?_
    simp [go_sem, ty3, hlt, hu, hg, hg2, markE_succ, markE_add, mB_def]
    first | refine h10 _ ?_ | refine ⟨by omega, h10 _ ?_⟩ | refine ⟨by omega, by omega, h10 _ ?_⟩ | (repeat (refine ⟨by first | omega | grind, ?_⟩)); refine h10 _ ?_
    clear h10 K10
    refine W_seqK fun K11 h11 => ?_
    refine W_reg ?_
    simp [go_sem, ty3, ty42, ty47, ty58, ty118, hlt, hu, hg, hg2, markE_succ, markE_add, mB_def]
    refine callG_true (by simp) (CallW_mut (mc_laws_markFrameS xs[i].frames (markE k (sumTo nNode xs i + 1)) q0 q1) rfl rfl (by simp [go_sem, hlt, hu, hg, hg2, markE_succ, markE_add, mB_def]) (by simp [go_sem, hlt, hu, hg, hg2, markE_succ, markE_add, mB_def]) rfl ?_)
    simp [go_sem, ty3, hlt, hu, hg, hg2, markE_succ, markE_add, mB_def]
    first | refine h11 _ ?_ | refine ⟨by omega, h11 _ ?_⟩ | refine ⟨by omega, by omega, h11 _ ?_⟩ | (repeat (refine ⟨by first | omega | grind, ?_⟩)); refine h11 _ ?_
    clear h11 K11
    refine W_seqK fun K12 h12 => ?_
    refine W_reg ?_
    simp [go_sem, ty3, ty43, ty47, ty58, ty123, hlt, hu, hg, hg2, markE_succ, markE_add, mB_def]
    refine callG_true (by simp) (CallW_mut (mc_laws_markHomeS xs[i].homes (markE k (sumTo nNode xs i + 1 + (xs[i].frames.map nFrame).sum)) q2 q3) rfl rfl (by simp [go_sem, hlt, hu, hg, hg2, markE_succ, markE_add, mB_def]) (by simp [go_sem, hlt, hu, hg, hg2, markE_succ, markE_add, mB_def]) rfl ?_)
    simp [go_sem, ty3, hlt, hu, hg, hg2, markE_succ, markE_add, mB_def]
    first | refine h12 _ ?_ | refine ⟨by omega, h12 _ ?_⟩ | refine ⟨by omega, by omega, h12 _ ?_⟩ | (repeat (refine ⟨by first | omega | grind, ?_⟩)); refine h12 _ ?_
    clear h12 K12
    refine W_seqK fun K13 h13 => ?_
    refine W_reg ?_
    simp [go_sem, ty3, ty44, ty47, ty58, ty127, hlt, hu, hg, hg2, markE_succ, markE_add, mB_def]
    refine callG_true (by simp) (CallW_mut (mc_laws_markSenderS xs[i].out (markE k (sumTo nNode xs i + 1 + (xs[i].frames.map nFrame).sum + (xs[i].homes.map nHome).sum)) q4 q5) rfl rfl (by simp [go_sem, hlt, hu, hg, hg2, markE_succ, markE_add, mB_def]) (by simp [go_sem, hlt, hu, hg, hg2, markE_succ, markE_add, mB_def]) rfl ?_)
    simp [go_sem, ty3, hlt, hu, hg, hg2, markE_succ, markE_add, mB_def]
    first | refine h13 _ ?_ | refine ⟨by omega, h13 _ ?_⟩ | refine ⟨by omega, by omega, h13 _ ?_⟩ | (repeat (refine ⟨by first | omega | grind, ?_⟩)); refine h13 _ ?_
    clear h13 K13
    refine W_reg ?_
    simp [go_sem, ty3, ty45, ty47, ty58, ty129, hlt, hu, hg, hg2, markE_succ, markE_add, mB_def]
    refine callG_true (by simp) (CallW_mut (mc_laws_markReceiverS xs[i].in_ (markE k (sumTo nNode xs i + 1 + (xs[i].frames.map nFrame).sum + (xs[i].homes.map nHome).sum + (xs[i].out.map nSender).sum)) (by omega)) rfl rfl (by simp [go_sem, hlt, hu, hg, hg2, markE_succ, markE_add, mB_def]) (by simp [go_sem, hlt, hu, hg, hg2, markE_succ, markE_add, mB_def]) rfl ?_)
    simp [go_sem, ty3, hlt, hu, hg, hg2, markE_succ, markE_add, mB_def]
    first | refine h8 _ ?_ | refine ⟨by omega, h8 _ ?_⟩ | refine ⟨by omega, by omega, h8 _ ?_⟩ | (repeat (refine ⟨by first | omega | grind, ?_⟩)); refine h8 _ ?_
    clear h8 K8
    refine W_reg ?_
    simp [go_sem, ty3, hlt, hu, hg, hg2, markE_succ, markE_add, mB_def]
    refine ⟨i + 1, ?_, ?_, ?_⟩
    · exact Sub.of_to [0, 1, 5] 1 (by decide) (by simp [go_sem, wrap_succ (show i < 9223372036854775807 by omega), hS, markE_succ, markE_add, mB_def, upto_step hlt hf])
    · exact hlt
    · omega
  · obtain rfl : i = xs.length := by simp at hb7; omega
    clear hb7
    have hfu := upto_full (fNode k xs) xs
    refine W_exit ?_
    simp [go_sem]
    first | refine h2 _ ?_ | refine ⟨by omega, h2 _ ?_⟩ | refine ⟨by omega, by omega, h2 _ ?_⟩ | (repeat (refine ⟨by first | omega | grind, ?_⟩)); refine h2 _ ?_
    clear h5 K5 h2 K2
    refine W_seqK fun K14 h14 => ?_
    refine W_reg ?_
    simp [go_sem, ty3]
    first | refine h14 _ ?_ | refine ⟨by omega, h14 _ ?_⟩ | refine ⟨by omega, by omega, h14 _ ?_⟩ | (repeat (refine ⟨by first | omega | grind, ?_⟩)); refine h14 _ ?_
    clear h14 K14
    refine W_ret ?_
    simp [go_sem, hfu, hu, sumTo_full]
end Go.Tw
