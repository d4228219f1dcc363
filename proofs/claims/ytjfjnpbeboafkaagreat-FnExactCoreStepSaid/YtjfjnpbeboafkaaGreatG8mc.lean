/- Walks of functions: laws.markHomeS, laws.heldHomeS, laws.markSenderS, laws.heldSenderS, laws.heldHart, laws.heldCore, laws.heldNode -/
import Derived.Test.YtjfjnpbeboafkaaGreatG8mb
set_option linter.unusedSimpArgs false
set_option linter.unusedVariables false
set_option linter.unnecessarySimpa false
namespace Go.Tw
open Go.Proofs

set_option maxRecDepth 100000 in
set_option maxHeartbeats 4000000 in
theorem mc_laws_markHomeS (xs : List GHome) (k : Int) (hx : xs.length ≤ 1048576) (hq : ∀ a ∈ xs, a.small) : MC1 Tryz.prog 61 8 (enc eHome xs) (enc eHome ((List.range xs.length).map (fHome k xs))) [.int .i64 k] [.int .i64 (markE k (xs.map nHome).sum)] := by
  refine MC1_of (n := 75) Tryz.func61 rfl rfl rfl rfl (by simp) fun a0 => ?_
  refine W_seqK fun K1 h1 => ?_
  refine W_reg ?_
  simp [go_sem, ty3]
  repeat refine tk ?_
  refine h1 _ ?_
  clear h1 K1
  refine W_seqK fun K2 h2 => ?_
  refine W_seqK fun K3 h3 => ?_
  refine W_reg ?_
  simp [go_sem, ty3]
  repeat refine tk ?_
  refine h3 _ ?_
  clear h3 K3
  refine W_block ?_
  refine W_loopI (α := Nat) (fun i => { env := [(0, true, .l (.ref 0 [] 8 0 xs.length)), (1, true, .l (.t (.int .i64 (markE k (sumTo nHome xs i))))), (5, true, .l (.t (.int .i64 i)))], box := [], row := [(0, ⟨.own, 8, enc eHome (upto (fHome k xs) xs i)⟩)], nxt := 1, sav := [([(0, true, .l (.ref 0 [] 8 0 xs.length))], a0)] }) (fun i => i ≤ xs.length) (fun i => xs.length - i) 0 ?_ ?_ ?_
  · exact Sub.of_to [0, 1, 5] 1 (by decide) (by simp [go_sem, upto_zero, sumTo_zero, markE_zero])
  · exact Nat.zero_le _
  rintro i hinv
  have hu := upto_len (fHome k xs) xs i hinv
  refine W_seqK fun K5 h5 => ?_
  refine W_seqK fun K6 h6 => ?_
  refine W_reg ?_
  simp [go_sem, ty3, ty4, ty41, ty132]
  repeat refine tk ?_
  refine h6 _ ?_
  clear h6 K6
  refine W_cond rfl (fun hb7 => ?_) fun hb7 => ?_
  · have hlt : i < xs.length := by simpa using hb7
    have hg := upto_get (fHome k xs) xs hlt
    have hg2 := upto_getE (fHome k xs) xs hlt (by omega)
    have hf : fHome k xs i = ⟨marks (markE k (sumTo nHome xs i)) xs[i].list.length, markE k (sumTo nHome xs i + xs[i].list.length), (List.range xs[i].readers.length).map (mB (markE k (sumTo nHome xs i + xs[i].list.length + 1))), mB k (sumTo nHome xs i + xs[i].list.length + 1 + xs[i].readers.length), ⟨markE k (sumTo nHome xs i + xs[i].list.length + 1 + xs[i].readers.length + 1), mB k (sumTo nHome xs i + xs[i].list.length + 1 + xs[i].readers.length + 2)⟩, markE k (sumTo nHome xs i + xs[i].list.length + 1 + xs[i].readers.length + 3), (List.range xs[i].queue.length).map (mWait (markE k (sumTo nHome xs i + xs[i].list.length + 1 + xs[i].readers.length + 4)))⟩ := by rw [fHome_at hlt]; rfl
    have hS : sumTo nHome xs (i + 1) = sumTo nHome xs i + xs[i].list.length + 1 + xs[i].readers.length + 4 + 2 * xs[i].queue.length := by rw [sumTo_succ _ hlt]; have hn : nHome xs[i] = xs[i].list.length + 1 + xs[i].readers.length + 4 + 2 * xs[i].queue.length := rfl; first | rfl | (rw [hn]; omega) | omega
    clear hb7
    have hs := hq _ (List.getElem_mem hlt)
    unfold GHome.small at hs
    obtain ⟨q0, q1, q2⟩ := hs
    refine W_skip ?_
    repeat refine tk ?_
    refine h5 _ ?_
    clear h5 K5
    refine W_seqK fun K8 h8 => ?_
    refine W_block ?_
    refine W_seqK fun K9 h9 => ?_
    refine W_reg ?_
    simp [go_sem, ty3, ty22, ty41, ty132, hlt, hu, hg, hg2, markE_succ, markE_add, mB_def]
    refine callG_true (by simp) (CallW_mut (mc_laws_markIntS xs[i].list (markE k (sumTo nHome xs i)) (by omega)) rfl rfl (by simp [go_sem, hlt, hu, hg, hg2, markE_succ, markE_add, mB_def]) (by simp [go_sem, hlt, hu, hg, hg2, markE_succ, markE_add, mB_def]) rfl ?_)
    simp [go_sem, ty3, hlt, hu, hg, hg2, markE_succ, markE_add, mB_def]
    repeat refine tk ?_
    refine h9 _ ?_
    clear h9 K9
    refine W_seqK fun K10 h10 => ?_
    refine W_reg ?_
    simp [go_sem, ty3, ty41, ty132, hlt, hu, hg, hg2, markE_succ, markE_add, mB_def]
    repeat refine tk ?_
    refine h10 _ ?_
    clear h10 K10
    refine W_seqK fun K11 h11 => ?_
    refine W_reg ?_
    simp [go_sem, ty3, hlt, hu, hg, hg2, markE_succ, markE_add, mB_def]
    repeat refine tk ?_
    refine h11 _ ?_
    clear h11 K11
    refine W_seqK fun K12 h12 => ?_
    refine W_reg ?_
    simp [go_sem, ty3, ty4, ty41, ty113, ty132, hlt, hu, hg, hg2, markE_succ, markE_add, mB_def]
    refine callG_true (by simp) (CallW_mut (mc_laws_markBoolS xs[i].readers (markE k (sumTo nHome xs i + xs[i].list.length + 1)) (by omega)) rfl rfl (by simp [go_sem, hlt, hu, hg, hg2, markE_succ, markE_add, mB_def]) (by simp [go_sem, hlt, hu, hg, hg2, markE_succ, markE_add, mB_def]) rfl ?_)
    simp [go_sem, ty3, hlt, hu, hg, hg2, markE_succ, markE_add, mB_def]
    repeat refine tk ?_
    refine h12 _ ?_
    clear h12 K12
    refine W_seqK fun K13 h13 => ?_
    refine W_reg ?_
    simp [go_sem, ty3, ty4, ty41, ty132, hlt, hu, hg, hg2, markE_succ, markE_add, mB_def]
    repeat refine tk ?_
    refine h13 _ ?_
    clear h13 K13
    refine W_seqK fun K14 h14 => ?_
    refine W_reg ?_
    simp [go_sem, ty3, hlt, hu, hg, hg2, markE_succ, markE_add, mB_def]
    repeat refine tk ?_
    refine h14 _ ?_
    clear h14 K14
    refine W_seqK fun K15 h15 => ?_
    refine W_reg ?_
    simp [go_sem, ty3, ty41, ty129, ty132, hlt, hu, hg, hg2, markE_succ, markE_add, mB_def]
    repeat refine tk ?_
    refine h15 _ ?_
    clear h15 K15
    refine W_seqK fun K16 h16 => ?_
    refine W_reg ?_
    simp [go_sem, ty3, hlt, hu, hg, hg2, markE_succ, markE_add, mB_def]
    repeat refine tk ?_
    refine h16 _ ?_
    clear h16 K16
    refine W_seqK fun K17 h17 => ?_
    refine W_reg ?_
    simp [go_sem, ty3, ty4, ty41, ty129, ty132, hlt, hu, hg, hg2, markE_succ, markE_add, mB_def]
    repeat refine tk ?_
    refine h17 _ ?_
    clear h17 K17
    refine W_seqK fun K18 h18 => ?_
    refine W_reg ?_
    simp [go_sem, ty3, hlt, hu, hg, hg2, markE_succ, markE_add, mB_def]
    repeat refine tk ?_
    refine h18 _ ?_
    clear h18 K18
    refine W_seqK fun K19 h19 => ?_
    refine W_reg ?_
    simp [go_sem, ty3, ty41, ty132, hlt, hu, hg, hg2, markE_succ, markE_add, mB_def]
    repeat refine tk ?_
    refine h19 _ ?_
    clear h19 K19
    refine W_seqK fun K20 h20 => ?_
    refine W_reg ?_
    simp [go_sem, ty3, hlt, hu, hg, hg2, markE_succ, markE_add, mB_def]
    repeat refine tk ?_
    refine h20 _ ?_
    clear h20 K20
    refine W_reg ?_
    simp [go_sem, ty3, ty41, ty129, ty130, ty132, hlt, hu, hg, hg2, markE_succ, markE_add, mB_def]
    refine callG_true (by simp) (CallW_mut (mc_laws_markWaitS xs[i].queue (markE k (sumTo nHome xs i + xs[i].list.length + 1 + xs[i].readers.length + 4)) (by omega)) rfl rfl (by simp [go_sem, hlt, hu, hg, hg2, markE_succ, markE_add, mB_def]) (by simp [go_sem, hlt, hu, hg, hg2, markE_succ, markE_add, mB_def]) rfl ?_)
    simp [go_sem, ty3, hlt, hu, hg, hg2, markE_succ, markE_add, mB_def]
    repeat refine tk ?_
    refine h8 _ ?_
    clear h8 K8
    refine W_reg ?_
    simp [go_sem, ty3, hlt, hu, hg, hg2, markE_succ, markE_add, mB_def]
    refine ⟨i + 1, ?_, ?_, ?_⟩
    · exact Sub.of_to [0, 1, 5] 1 (by decide) (by simp [go_sem, wrap_succ (show i < 9223372036854775807 by omega), hS, markE_succ, markE_add, mB_def, upto_step hlt hf])
    · exact hlt
    · omega
  · obtain rfl : i = xs.length := by simp at hb7; omega
    clear hb7
    have hfu := upto_full (fHome k xs) xs
    refine W_exit ?_
    simp [go_sem]
    repeat refine tk ?_
    refine h2 _ ?_
    clear h5 K5 h2 K2
    refine W_seqK fun K21 h21 => ?_
    refine W_reg ?_
    simp [go_sem, ty3]
    repeat refine tk ?_
    refine h21 _ ?_
    clear h21 K21
    refine W_ret ?_
    simp [go_sem, hfu, hu, sumTo_full]

set_option maxRecDepth 100000 in
set_option maxHeartbeats 4000000 in
theorem pc_laws_heldHomeS (xs : List GHome) (k : Int) (hx : xs.length ≤ 1048576) (hq : ∀ a ∈ xs, a.small) (hp : ∀ m, m ≤ (xs.map nHome).sum → 0 ≤ markE k m) : PC Tryz.prog 67 [(false, [.sl 8 (enc eHome ((List.range xs.length).map (fHome k xs)))]), (false, [.int .i64 k])] [(false, [.int .i64 (markE k (xs.map nHome).sum)])] := by
  have hl : ((List.range xs.length).map (fHome k xs)).length = xs.length := by simp
  refine PC_of (n := 91) Tryz.func67 rfl rfl rfl rfl (by simp) ?_
  refine W_seqK fun K1 h1 => ?_
  refine W_reg ?_
  simp [go_sem, ty3]
  repeat refine tk ?_
  refine h1 _ ?_
  clear h1 K1
  refine W_seqK fun K2 h2 => ?_
  refine W_seqK fun K3 h3 => ?_
  refine W_reg ?_
  simp [go_sem, ty3]
  repeat refine tk ?_
  refine h3 _ ?_
  clear h3 K3
  refine W_block ?_
  refine W_loopI (α := Nat) (fun i => ({ env := [(0, true, .l (.ref 0 [] 8 0 (xs.length))), (1, true, .l (.t (.int .i64 (markE k (sumTo nHome xs i))))), (5, true, .l (.t (.int .i64 (i))))], box := [], row := [(0, ⟨.ro, 8, enc eHome ((List.range xs.length).map (fHome k xs))⟩)], nxt := 2, sav := [] } : St)) (fun i => i ≤ xs.length) (fun i => xs.length - i) 0 ?_ ?_ ?_
  · exact Sub.of_neat [0, 1, 5] [0] [] 2 (by decide) (by simp [go_sem, sumTo_zero, markE_zero])
  · exact Nat.zero_le _
  rintro i hinv
  refine W_seqK fun K5 h5 => ?_
  refine W_seqK fun K6 h6 => ?_
  refine W_reg ?_
  simp [go_sem, ty3, ty4, ty41, ty132]
  repeat refine tk ?_
  refine h6 _ ?_
  clear h6 K6
  refine W_cond rfl (fun hb7 => ?_) fun hb7 => ?_
  · have hlt : i < xs.length := by simpa using hb7
    have hf : fHome k xs i = ⟨marks (markE k (sumTo nHome xs i)) xs[i].list.length, markE k (sumTo nHome xs i + xs[i].list.length), (List.range xs[i].readers.length).map (mB (markE k (sumTo nHome xs i + xs[i].list.length + 1))), mB k (sumTo nHome xs i + xs[i].list.length + 1 + xs[i].readers.length), ⟨markE k (sumTo nHome xs i + xs[i].list.length + 1 + xs[i].readers.length + 1), mB k (sumTo nHome xs i + xs[i].list.length + 1 + xs[i].readers.length + 2)⟩, markE k (sumTo nHome xs i + xs[i].list.length + 1 + xs[i].readers.length + 3), (List.range xs[i].queue.length).map (mWait (markE k (sumTo nHome xs i + xs[i].list.length + 1 + xs[i].readers.length + 4)))⟩ := by rw [fHome_at hlt]; rfl
    have hS : sumTo nHome xs (i + 1) = sumTo nHome xs i + xs[i].list.length + 1 + xs[i].readers.length + 4 + 2 * xs[i].queue.length := by rw [sumTo_succ _ hlt]; have hn : nHome xs[i] = xs[i].list.length + 1 + xs[i].readers.length + 4 + 2 * xs[i].queue.length := rfl; first | rfl | (rw [hn]; omega) | omega
    have hT : sumTo nHome xs (i + 1) ≤ (xs.map nHome).sum := by obtain ⟨m, hm⟩ := sumTo_rest nHome xs (i + 1); omega
    rw [hS] at hT
    clear hb7
    have hs := hq _ (List.getElem_mem hlt)
    unfold GHome.small at hs
    obtain ⟨q0, q1, q2⟩ := hs
    refine W_skip ?_
    repeat refine tk ?_
    refine h5 _ ?_
    clear h5 K5
    refine W_seqK fun K8 h8 => ?_
    refine W_block ?_
    refine W_seqK fun K9 h9 => ?_
    refine W_reg ?_
    simp [go_sem, ty3, ty22, ty41, ty132, hlt, hl, hf, markE_succ, markE_add, mB_def]
    refine callA (fun hG => pc_laws_heldIntS xs[i].list.length (markE k (sumTo nHome xs i)) (by omega)) (fun hG => by simp [go_sem, hlt, hl, hf, markE_succ, markE_add, mB_def]) rfl rfl ?_
    simp [go_sem, ty3, hlt, hl, hf, markE_succ, markE_add, mB_def]
    repeat refine tk ?_
    refine h9 _ ?_
    clear h9 K9
    refine W_seqK fun K10 h10 => ?_
    refine W_seqK fun K11 h11 => ?_
    refine W_reg ?_
    simp [go_sem, ty3, ty4, hlt, hl, hf, markE_succ, markE_add, mB_def]
    repeat refine tk ?_
    refine h11 _ ?_
    clear h11 K11
    refine W_cond rfl (fun hb12 => by first | (simp at hb12; done) | (simp at hb12; omega) | (simp at hb12; exact absurd hb12 (Int.not_lt.2 (hp _ (by omega))))) fun hb12 => ?_
    clear hb12
    refine W_skip ?_
    repeat refine tk ?_
    refine h10 _ ?_
    clear h10 K10
    refine W_seqK fun K13 h13 => ?_
    refine W_seqK fun K14 h14 => ?_
    refine W_reg ?_
    simp [go_sem, ty3, ty4, ty41, ty132, hlt, hl, hf, markE_succ, markE_add, mB_def]
    repeat refine tk ?_
    refine h14 _ ?_
    clear h14 K14
    refine W_cond rfl (fun hb15 => by first | (simp at hb15; done) | (simp at hb15; omega) | (simp at hb15; exact absurd hb15 (Int.not_lt.2 (hp _ (by omega))))) fun hb15 => ?_
    clear hb15
    refine W_skip ?_
    repeat refine tk ?_
    refine h13 _ ?_
    clear h13 K13
    refine W_seqK fun K16 h16 => ?_
    refine W_reg ?_
    simp [go_sem, ty3, hlt, hl, hf, markE_succ, markE_add, mB_def]
    repeat refine tk ?_
    refine h16 _ ?_
    clear h16 K16
    refine W_seqK fun K17 h17 => ?_
    refine W_reg ?_
    simp [go_sem, ty3, ty4, ty41, ty113, ty132, hlt, hl, hf, markE_succ, markE_add, mB_def]
    refine callA (fun hG => pc_laws_heldBoolS xs[i].readers.length (markE k (sumTo nHome xs i + xs[i].list.length + 1)) (by omega)) (fun hG => by simp [go_sem, hlt, hl, hf, markE_succ, markE_add, mB_def]) rfl rfl ?_
    simp [go_sem, ty3, hlt, hl, hf, markE_succ, markE_add, mB_def]
    repeat refine tk ?_
    refine h17 _ ?_
    clear h17 K17
    refine W_seqK fun K18 h18 => ?_
    refine W_seqK fun K19 h19 => ?_
    refine W_reg ?_
    simp [go_sem, ty3, ty4, hlt, hl, hf, markE_succ, markE_add, mB_def]
    repeat refine tk ?_
    refine h19 _ ?_
    clear h19 K19
    refine W_cond rfl (fun hb20 => by first | (simp at hb20; done) | (simp at hb20; omega) | (simp at hb20; exact absurd hb20 (Int.not_lt.2 (hp _ (by omega))))) fun hb20 => ?_
    clear hb20
    refine W_skip ?_
    repeat refine tk ?_
    refine h18 _ ?_
    clear h18 K18
    refine W_seqK fun K21 h21 => ?_
    refine W_seqK fun K22 h22 => ?_
    refine W_reg ?_
    simp [go_sem, ty3, ty4, ty41, ty132, hlt, hl, hf, markE_succ, markE_add, mB_def]
    repeat refine tk ?_
    refine h22 _ ?_
    clear h22 K22
    refine W_cond rfl (fun hb23 => by first | (simp at hb23; done) | (simp at hb23; omega) | (simp at hb23; exact absurd hb23 (Int.not_lt.2 (hp _ (by omega))))) fun hb23 => ?_
    clear hb23
    refine W_skip ?_
    repeat refine tk ?_
    refine h21 _ ?_
    clear h21 K21
    refine W_seqK fun K24 h24 => ?_
    refine W_reg ?_
    simp [go_sem, ty3, hlt, hl, hf, markE_succ, markE_add, mB_def]
    repeat refine tk ?_
    refine h24 _ ?_
    clear h24 K24
    refine W_seqK fun K25 h25 => ?_
    refine W_seqK fun K26 h26 => ?_
    refine W_reg ?_
    simp [go_sem, ty3, ty4, ty41, ty129, ty132, hlt, hl, hf, markE_succ, markE_add, mB_def]
    repeat refine tk ?_
    refine h26 _ ?_
    clear h26 K26
    refine W_cond rfl (fun hb27 => by first | (simp at hb27; done) | (simp at hb27; omega) | (simp at hb27; exact absurd hb27 (Int.not_lt.2 (hp _ (by omega))))) fun hb27 => ?_
    clear hb27
    refine W_skip ?_
    repeat refine tk ?_
    refine h25 _ ?_
    clear h25 K25
    refine W_seqK fun K28 h28 => ?_
    refine W_reg ?_
    simp [go_sem, ty3, hlt, hl, hf, markE_succ, markE_add, mB_def]
    repeat refine tk ?_
    refine h28 _ ?_
    clear h28 K28
    refine W_seqK fun K29 h29 => ?_
    refine W_seqK fun K30 h30 => ?_
    refine W_reg ?_
    simp [go_sem, ty3, ty4, ty41, ty129, ty132, hlt, hl, hf, markE_succ, markE_add, mB_def]
    repeat refine tk ?_
    refine h30 _ ?_
    clear h30 K30
    refine W_cond rfl (fun hb31 => by first | (simp at hb31; done) | (simp at hb31; omega) | (simp at hb31; exact absurd hb31 (Int.not_lt.2 (hp _ (by omega))))) fun hb31 => ?_
    clear hb31
    refine W_skip ?_
    repeat refine tk ?_
    refine h29 _ ?_
    clear h29 K29
    refine W_seqK fun K32 h32 => ?_
    refine W_reg ?_
    simp [go_sem, ty3, hlt, hl, hf, markE_succ, markE_add, mB_def]
    repeat refine tk ?_
    refine h32 _ ?_
    clear h32 K32
    refine W_seqK fun K33 h33 => ?_
    refine W_seqK fun K34 h34 => ?_
    refine W_reg ?_
    simp [go_sem, ty3, ty4, ty41, ty132, hlt, hl, hf, markE_succ, markE_add, mB_def]
    repeat refine tk ?_
    refine h34 _ ?_
    clear h34 K34
    refine W_cond rfl (fun hb35 => by first | (simp at hb35; done) | (simp at hb35; omega) | (simp at hb35; exact absurd hb35 (Int.not_lt.2 (hp _ (by omega))))) fun hb35 => ?_
    clear hb35
    refine W_skip ?_
    repeat refine tk ?_
    refine h33 _ ?_
    clear h33 K33
    refine W_seqK fun K36 h36 => ?_
    refine W_reg ?_
    simp [go_sem, ty3, hlt, hl, hf, markE_succ, markE_add, mB_def]
    repeat refine tk ?_
    refine h36 _ ?_
    clear h36 K36
    refine W_seqK fun K37 h37 => ?_
    refine W_reg ?_
    simp [go_sem, ty3, ty41, ty129, ty130, ty132, hlt, hl, hf, markE_succ, markE_add, mB_def]
    refine callA (fun hG => pc_laws_heldWaitS xs[i].queue.length (markE k (sumTo nHome xs i + xs[i].list.length + 1 + xs[i].readers.length + 4)) (by omega)) (fun hG => by simp [go_sem, hlt, hl, hf, markE_succ, markE_add, mB_def]) rfl rfl ?_
    simp [go_sem, ty3, hlt, hl, hf, markE_succ, markE_add, mB_def]
    repeat refine tk ?_
    refine h37 _ ?_
    clear h37 K37
    refine W_seqK fun K38 h38 => ?_
    refine W_reg ?_
    simp [go_sem, ty3, ty4, hlt, hl, hf, markE_succ, markE_add, mB_def]
    repeat refine tk ?_
    refine h38 _ ?_
    clear h38 K38
    refine W_cond rfl (fun hb39 => by first | (simp at hb39; done) | (simp at hb39; omega) | (simp at hb39; exact absurd hb39 (Int.not_lt.2 (hp _ (by omega))))) fun hb39 => ?_
    clear hb39
    refine W_skip ?_
    repeat refine tk ?_
    refine h8 _ ?_
    clear h8 K8
    refine W_reg ?_
    simp [go_sem, ty3, hlt, hl, hf, markE_succ, markE_add, mB_def]
    refine ⟨i + 1, ?_, ?_, ?_⟩
    · exact Sub.of_neat [0, 1, 5] [0] [] 2 (by decide) (by simp [go_sem, wrap_succ (show i < 9223372036854775807 by omega), hS, markE_succ, markE_add])
    · exact hlt
    · omega
  · obtain rfl : i = xs.length := by simp at hb7; omega
    clear hb7
    refine W_exit ?_
    simp [go_sem]
    repeat refine tk ?_
    refine h2 _ ?_
    clear h5 K5 h2 K2
    refine W_seqK fun K40 h40 => ?_
    refine W_reg ?_
    simp [go_sem, ty3]
    repeat refine tk ?_
    refine h40 _ ?_
    clear h40 K40
    refine W_ret ?_
    simp [go_sem, sumTo_full]

set_option maxRecDepth 100000 in
set_option maxHeartbeats 4000000 in
theorem mc_laws_markSenderS (xs : List GSender) (k : Int) (hx : xs.length ≤ 1048576) (hq : ∀ a ∈ xs, a.small) : MC1 Tryz.prog 62 2 (enc eSender xs) (enc eSender ((List.range xs.length).map (fSender k xs))) [.int .i64 k] [.int .i64 (markE k (xs.map nSender).sum)] := by
  refine MC1_of (n := 27) Tryz.func62 rfl rfl rfl rfl (by simp) fun a0 => ?_
  refine W_seqK fun K1 h1 => ?_
  refine W_reg ?_
  simp [go_sem, ty3]
  repeat refine tk ?_
  refine h1 _ ?_
  clear h1 K1
  refine W_seqK fun K2 h2 => ?_
  refine W_seqK fun K3 h3 => ?_
  refine W_reg ?_
  simp [go_sem, ty3]
  repeat refine tk ?_
  refine h3 _ ?_
  clear h3 K3
  refine W_block ?_
  refine W_loopI (α := Nat) (fun i => { env := [(0, true, .l (.ref 0 [] 2 0 xs.length)), (1, true, .l (.t (.int .i64 (markE k (sumTo nSender xs i))))), (5, true, .l (.t (.int .i64 i)))], box := [], row := [(0, ⟨.own, 2, enc eSender (upto (fSender k xs) xs i)⟩)], nxt := 1, sav := [([(0, true, .l (.ref 0 [] 2 0 xs.length))], a0)] }) (fun i => i ≤ xs.length) (fun i => xs.length - i) 0 ?_ ?_ ?_
  · exact Sub.of_to [0, 1, 5] 1 (by decide) (by simp [go_sem, upto_zero, sumTo_zero, markE_zero])
  · exact Nat.zero_le _
  rintro i hinv
  have hu := upto_len (fSender k xs) xs i hinv
  refine W_seqK fun K5 h5 => ?_
  refine W_seqK fun K6 h6 => ?_
  refine W_reg ?_
  simp [go_sem, ty3, ty4, ty42, ty136]
  repeat refine tk ?_
  refine h6 _ ?_
  clear h6 K6
  refine W_cond rfl (fun hb7 => ?_) fun hb7 => ?_
  · have hlt : i < xs.length := by simpa using hb7
    have hg := upto_get (fSender k xs) xs hlt
    have hg2 := upto_getE (fSender k xs) xs hlt (by omega)
    have hf : fSender k xs i = ⟨markE k (sumTo nSender xs i), (List.range xs[i].queue.length).map (fMsg (markE k (sumTo nSender xs i + 1)) xs[i].queue)⟩ := by rw [fSender_at hlt]; rfl
    have hS : sumTo nSender xs (i + 1) = sumTo nSender xs i + 1 + (xs[i].queue.map nMsg).sum := by rw [sumTo_succ _ hlt]; have hn : nSender xs[i] = 1 + (xs[i].queue.map nMsg).sum := rfl; first | rfl | (rw [hn]; omega) | omega
    clear hb7
    have hs := hq _ (List.getElem_mem hlt)
    unfold GSender.small at hs
    obtain ⟨q0, q1⟩ := hs
    refine W_skip ?_
    repeat refine tk ?_
    refine h5 _ ?_
    clear h5 K5
    refine W_seqK fun K8 h8 => ?_
    refine W_block ?_
    refine W_seqK fun K9 h9 => ?_
    refine W_reg ?_
    simp [go_sem, ty3, ty42, ty136, hlt, hu, hg, hg2, markE_succ, markE_add, mB_def]
    repeat refine tk ?_
    refine h9 _ ?_
    clear h9 K9
    refine W_seqK fun K10 h10 => ?_
    refine W_reg ?_
    simp [go_sem, ty3, hlt, hu, hg, hg2, markE_succ, markE_add, mB_def]
    repeat refine tk ?_
    refine h10 _ ?_
    clear h10 K10
    refine W_reg ?_
    simp [go_sem, ty3, ty42, ty134, ty136, ty159, hlt, hu, hg, hg2, markE_succ, markE_add, mB_def]
    refine callG_true (by simp) (CallW_mut (mc_laws_markMsgS xs[i].queue (markE k (sumTo nSender xs i + 1)) q0 q1) rfl rfl (by simp [go_sem, hlt, hu, hg, hg2, markE_succ, markE_add, mB_def]) (by simp [go_sem, hlt, hu, hg, hg2, markE_succ, markE_add, mB_def]) rfl ?_)
    simp [go_sem, ty3, hlt, hu, hg, hg2, markE_succ, markE_add, mB_def]
    repeat refine tk ?_
    refine h8 _ ?_
    clear h8 K8
    refine W_reg ?_
    simp [go_sem, ty3, hlt, hu, hg, hg2, markE_succ, markE_add, mB_def]
    refine ⟨i + 1, ?_, ?_, ?_⟩
    · exact Sub.of_to [0, 1, 5] 1 (by decide) (by simp [go_sem, wrap_succ (show i < 9223372036854775807 by omega), hS, markE_succ, markE_add, mB_def, upto_step hlt hf])
    · exact hlt
    · omega
  · obtain rfl : i = xs.length := by simp at hb7; omega
    clear hb7
    have hfu := upto_full (fSender k xs) xs
    refine W_exit ?_
    simp [go_sem]
    repeat refine tk ?_
    refine h2 _ ?_
    clear h5 K5 h2 K2
    refine W_seqK fun K11 h11 => ?_
    refine W_reg ?_
    simp [go_sem, ty3]
    repeat refine tk ?_
    refine h11 _ ?_
    clear h11 K11
    refine W_ret ?_
    simp [go_sem, hfu, hu, sumTo_full]

set_option maxRecDepth 100000 in
set_option maxHeartbeats 4000000 in
theorem pc_laws_heldSenderS (xs : List GSender) (k : Int) (hx : xs.length ≤ 1048576) (hq : ∀ a ∈ xs, a.small) (hp : ∀ m, m ≤ (xs.map nSender).sum → 0 ≤ markE k m) : PC Tryz.prog 68 [(false, [.sl 2 (enc eSender ((List.range xs.length).map (fSender k xs)))]), (false, [.int .i64 k])] [(false, [.int .i64 (markE k (xs.map nSender).sum)])] := by
  have hl : ((List.range xs.length).map (fSender k xs)).length = xs.length := by simp
  refine PC_of (n := 31) Tryz.func68 rfl rfl rfl rfl (by simp) ?_
  refine W_seqK fun K1 h1 => ?_
  refine W_reg ?_
  simp [go_sem, ty3]
  repeat refine tk ?_
  refine h1 _ ?_
  clear h1 K1
  refine W_seqK fun K2 h2 => ?_
  refine W_seqK fun K3 h3 => ?_
  refine W_reg ?_
  simp [go_sem, ty3]
  repeat refine tk ?_
  refine h3 _ ?_
  clear h3 K3
  refine W_block ?_
  refine W_loopI (α := Nat) (fun i => ({ env := [(0, true, .l (.ref 0 [] 2 0 (xs.length))), (1, true, .l (.t (.int .i64 (markE k (sumTo nSender xs i))))), (5, true, .l (.t (.int .i64 (i))))], box := [], row := [(0, ⟨.ro, 2, enc eSender ((List.range xs.length).map (fSender k xs))⟩)], nxt := 2, sav := [] } : St)) (fun i => i ≤ xs.length) (fun i => xs.length - i) 0 ?_ ?_ ?_
  · exact Sub.of_neat [0, 1, 5] [0] [] 2 (by decide) (by simp [go_sem, sumTo_zero, markE_zero])
  · exact Nat.zero_le _
  rintro i hinv
  refine W_seqK fun K5 h5 => ?_
  refine W_seqK fun K6 h6 => ?_
  refine W_reg ?_
  simp [go_sem, ty3, ty4, ty42, ty136]
  repeat refine tk ?_
  refine h6 _ ?_
  clear h6 K6
  refine W_cond rfl (fun hb7 => ?_) fun hb7 => ?_
  · have hlt : i < xs.length := by simpa using hb7
    have hf : fSender k xs i = ⟨markE k (sumTo nSender xs i), (List.range xs[i].queue.length).map (fMsg (markE k (sumTo nSender xs i + 1)) xs[i].queue)⟩ := by rw [fSender_at hlt]; rfl
    have hS : sumTo nSender xs (i + 1) = sumTo nSender xs i + 1 + (xs[i].queue.map nMsg).sum := by rw [sumTo_succ _ hlt]; have hn : nSender xs[i] = 1 + (xs[i].queue.map nMsg).sum := rfl; first | rfl | (rw [hn]; omega) | omega
    have hT : sumTo nSender xs (i + 1) ≤ (xs.map nSender).sum := by obtain ⟨m, hm⟩ := sumTo_rest nSender xs (i + 1); omega
    rw [hS] at hT
    clear hb7
    have hs := hq _ (List.getElem_mem hlt)
    unfold GSender.small at hs
    obtain ⟨q0, q1⟩ := hs
    refine W_skip ?_
    repeat refine tk ?_
    refine h5 _ ?_
    clear h5 K5
    refine W_seqK fun K8 h8 => ?_
    refine W_block ?_
    refine W_seqK fun K9 h9 => ?_
    refine W_seqK fun K10 h10 => ?_
    refine W_reg ?_
    simp [go_sem, ty3, ty4, ty42, ty136, hlt, hl, hf, markE_succ, markE_add, mB_def]
    repeat refine tk ?_
    refine h10 _ ?_
    clear h10 K10
    refine W_cond rfl (fun hb11 => by first | (simp at hb11; done) | (simp at hb11; omega) | (simp at hb11; exact absurd hb11 (Int.not_lt.2 (hp _ (by omega))))) fun hb11 => ?_
    clear hb11
    refine W_skip ?_
    repeat refine tk ?_
    refine h9 _ ?_
    clear h9 K9
    refine W_seqK fun K12 h12 => ?_
    refine W_reg ?_
    simp [go_sem, ty3, hlt, hl, hf, markE_succ, markE_add, mB_def]
    repeat refine tk ?_
    refine h12 _ ?_
    clear h12 K12
    refine W_seqK fun K13 h13 => ?_
    refine W_reg ?_
    simp [go_sem, ty3, ty42, ty134, ty136, ty159, hlt, hl, hf, markE_succ, markE_add, mB_def]
    refine callA (fun hG => pc_laws_heldMsgS xs[i].queue (markE k (sumTo nSender xs i + 1)) q0 q1 (fun m hm => by rw [markE_add]; exact hp _ (by omega))) (fun hG => by simp [go_sem, hlt, hl, hf, markE_succ, markE_add, mB_def]) rfl rfl ?_
    simp [go_sem, ty3, hlt, hl, hf, markE_succ, markE_add, mB_def]
    repeat refine tk ?_
    refine h13 _ ?_
    clear h13 K13
    refine W_seqK fun K14 h14 => ?_
    refine W_reg ?_
    simp [go_sem, ty3, ty4, hlt, hl, hf, markE_succ, markE_add, mB_def]
    repeat refine tk ?_
    refine h14 _ ?_
    clear h14 K14
    refine W_cond rfl (fun hb15 => by first | (simp at hb15; done) | (simp at hb15; omega) | (simp at hb15; exact absurd hb15 (Int.not_lt.2 (hp _ (by omega))))) fun hb15 => ?_
    clear hb15
    refine W_skip ?_
    repeat refine tk ?_
    refine h8 _ ?_
    clear h8 K8
    refine W_reg ?_
    simp [go_sem, ty3, hlt, hl, hf, markE_succ, markE_add, mB_def]
    refine ⟨i + 1, ?_, ?_, ?_⟩
    · exact Sub.of_neat [0, 1, 5] [0] [] 2 (by decide) (by simp [go_sem, wrap_succ (show i < 9223372036854775807 by omega), hS, markE_succ, markE_add])
    · exact hlt
    · omega
  · obtain rfl : i = xs.length := by simp at hb7; omega
    clear hb7
    refine W_exit ?_
    simp [go_sem]
    repeat refine tk ?_
    refine h2 _ ?_
    clear h5 K5 h2 K2
    refine W_seqK fun K16 h16 => ?_
    refine W_reg ?_
    simp [go_sem, ty3]
    repeat refine tk ?_
    refine h16 _ ?_
    clear h16 K16
    refine W_ret ?_
    simp [go_sem, sumTo_full]

set_option maxRecDepth 100000 in
set_option maxHeartbeats 4000000 in
theorem pc_laws_heldHart (x : GHart) (k : Int) (hq : x.small) (hp : ∀ m, m ≤ nvHart x → 0 ≤ markE k m) : PC Tryz.prog 64 [(true, eHart (mvHart k x)), (false, [.int .i64 k])] [(false, [.int .i64 (markE k (nvHart x))])] := by
  have hq1 := hq
  unfold GHart.small at hq1
  have q0 := hq1
  simp only [nvHart] at hp
  refine PC_of (n := 12) Tryz.func64 rfl rfl rfl rfl (by simp) ?_
  refine W_seqK fun K1 h1 => ?_
  refine W_reg ?_
  simp [go_sem, ty3, ty36, mvHart, nvHart, markE_add]
  repeat refine tk ?_
  refine h1 _ ?_
  clear h1 K1
  refine W_seqK fun K2 h2 => ?_
  refine W_reg ?_
  simp [go_sem, ty3, ty22, ty36, mvHart, nvHart, markE_add]
  refine callA (fun hG => pc_laws_heldIntS x.regs.length k (by omega)) (fun hG => by simp [go_sem, mvHart, nvHart, markE_add]) rfl rfl ?_
  simp [go_sem, ty3, mvHart, nvHart, markE_add]
  repeat refine tk ?_
  refine h2 _ ?_
  clear h2 K2
  refine W_seqK fun K3 h3 => ?_
  refine W_seqK fun K4 h4 => ?_
  refine W_reg ?_
  simp [go_sem, ty3, ty4, mvHart, nvHart, markE_add]
  repeat refine tk ?_
  refine h4 _ ?_
  clear h4 K4
  refine W_cond rfl (fun hb5 => by first | (simp at hb5; done) | (simp at hb5; omega) | (simp at hb5; exact absurd hb5 (Int.not_lt.2 (hp _ (by omega))))) fun hb5 => ?_
  clear hb5
  refine W_skip ?_
  repeat refine tk ?_
  refine h3 _ ?_
  clear h3 K3
  refine W_seqK fun K6 h6 => ?_
  refine W_reg ?_
  simp [go_sem, ty3, mvHart, nvHart, markE_add]
  repeat refine tk ?_
  refine h6 _ ?_
  clear h6 K6
  refine W_ret ?_
  simp [go_sem, nvHart]

set_option maxRecDepth 100000 in
set_option maxHeartbeats 4000000 in
theorem pc_laws_heldCore (x : GCore) (k : Int) (hq : x.small) (hp : ∀ m, m ≤ nvCore x → 0 ≤ markE k m) : PC Tryz.prog 14 [(true, eCore (mvCore k x)), (false, [.int .i64 k])] [(false, [.int .i64 (markE k (nvCore x))])] := by
  have hq1 := hq
  unfold GCore.small GHart.small at hq1
  try simp only [and_assoc] at hq1
  obtain ⟨q0, q1, q2⟩ := hq1
  simp only [nvCore, nvHart] at hp
  refine PC_of (n := 18) Tryz.func14 rfl rfl rfl rfl (by simp) ?_
  refine W_seqK fun K1 h1 => ?_
  refine W_reg ?_
  simp [go_sem, ty3, ty39, mvCore, nvCore, mvHart, nvHart, markE_add]
  repeat refine tk ?_
  refine h1 _ ?_
  clear h1 K1
  refine W_seqK fun K2 h2 => ?_
  refine W_reg ?_
  simp [go_sem, ty3, ty36, ty39, mvCore, nvCore, mvHart, nvHart, markE_add]
  refine callA (fun hG => pc_laws_heldHart x.hart k (by first | assumption | omega | (unfold GCore.small at hq; exact hq.1)) (fun m hm => by (try simp only [nvMsg, nvSender, nvPacket, nvFrame, nvHome, nvNode, nvWorld, nvHart, nvBlock, nvCore, nvFlock] at hm); first | exact hp m (by omega) | (rw [markE_add]; exact hp _ (by omega)) | exact markE_nn m (by omega) | (rw [markE_add]; exact markE_nn _ (by omega)))) (fun hG => by simp [go_sem, mvCore, nvCore, mvHart, nvHart, markE_add]) rfl rfl ?_
  simp [go_sem, ty3, mvCore, nvCore, mvHart, nvHart, markE_add]
  repeat refine tk ?_
  refine h2 _ ?_
  clear h2 K2
  refine W_seqK fun K3 h3 => ?_
  refine W_seqK fun K4 h4 => ?_
  refine W_reg ?_
  simp [go_sem, ty3, ty4, mvCore, nvCore, mvHart, nvHart, markE_add]
  repeat refine tk ?_
  refine h4 _ ?_
  clear h4 K4
  refine W_cond rfl (fun hb5 => by first | (simp at hb5; done) | (simp at hb5; omega) | (simp at hb5; exact absurd hb5 (Int.not_lt.2 (hp _ (by omega))))) fun hb5 => ?_
  clear hb5
  refine W_skip ?_
  repeat refine tk ?_
  refine h3 _ ?_
  clear h3 K3
  refine W_seqK fun K6 h6 => ?_
  refine W_reg ?_
  simp [go_sem, ty3, ty37, ty39, ty74, mvCore, nvCore, mvHart, nvHart, markE_add]
  refine callA (fun hG => pc_laws_heldBlockS x.cache (markE k (x.hart.regs.length)) (by first | assumption | omega | (unfold GCore.small at hq; exact hq.1)) (by first | assumption | omega | (unfold GCore.small at hq; exact hq.1)) (fun m hm => by (try simp only [nvMsg, nvSender, nvPacket, nvFrame, nvHome, nvNode, nvWorld, nvHart, nvBlock, nvCore, nvFlock] at hm); first | exact hp m (by omega) | (rw [markE_add]; exact hp _ (by omega)) | exact markE_nn m (by omega) | (rw [markE_add]; exact markE_nn _ (by omega)))) (fun hG => by simp [go_sem, mvCore, nvCore, mvHart, nvHart, markE_add]) rfl rfl ?_
  simp [go_sem, ty3, mvCore, nvCore, mvHart, nvHart, markE_add]
  repeat refine tk ?_
  refine h6 _ ?_
  clear h6 K6
  refine W_seqK fun K7 h7 => ?_
  refine W_seqK fun K8 h8 => ?_
  refine W_reg ?_
  simp [go_sem, ty3, ty4, mvCore, nvCore, mvHart, nvHart, markE_add]
  repeat refine tk ?_
  refine h8 _ ?_
  clear h8 K8
  refine W_cond rfl (fun hb9 => by first | (simp at hb9; done) | (simp at hb9; omega) | (simp at hb9; exact absurd hb9 (Int.not_lt.2 (hp _ (by omega))))) fun hb9 => ?_
  clear hb9
  refine W_skip ?_
  repeat refine tk ?_
  refine h7 _ ?_
  clear h7 K7
  refine W_seqK fun K10 h10 => ?_
  refine W_reg ?_
  simp [go_sem, ty3, mvCore, nvCore, mvHart, nvHart, markE_add]
  repeat refine tk ?_
  refine h10 _ ?_
  clear h10 K10
  refine W_ret ?_
  simp [go_sem, nvCore, nvHart]

set_option maxRecDepth 100000 in
set_option maxHeartbeats 4000000 in
theorem pc_laws_heldNode (x : GNode) (k : Int) (hq : x.small) (hp : ∀ m, m ≤ nvNode x → 0 ≤ markE k m) : PC Tryz.prog 15 [(true, eNode (mvNode k x)), (false, [.int .i64 k])] [(false, [.int .i64 (markE k (nvNode x))])] := by
  have hq1 := hq
  unfold GNode.small at hq1
  obtain ⟨q0, q1, q2, q3, q4, q5, q6⟩ := hq1
  simp only [nvNode] at hp
  refine PC_of (n := 30) Tryz.func15 rfl rfl rfl rfl (by simp) ?_
  refine W_seqK fun K1 h1 => ?_
  refine W_reg ?_
  simp [go_sem, ty3, ty45, mvNode, nvNode, markE_add]
  repeat refine tk ?_
  refine h1 _ ?_
  clear h1 K1
  refine W_seqK fun K2 h2 => ?_
  refine W_reg ?_
  simp [go_sem, ty3, ty40, ty45, ty65, mvNode, nvNode, markE_add]
  refine callA (fun hG => pc_laws_heldFrameS x.frames k (by first | assumption | omega | (unfold GNode.small at hq; exact hq.1)) (by first | assumption | omega | (unfold GNode.small at hq; exact hq.1)) (fun m hm => by (try simp only [nvMsg, nvSender, nvPacket, nvFrame, nvHome, nvNode, nvWorld, nvHart, nvBlock, nvCore, nvFlock] at hm); first | exact hp m (by omega) | (rw [markE_add]; exact hp _ (by omega)) | exact markE_nn m (by omega) | (rw [markE_add]; exact markE_nn _ (by omega)))) (fun hG => by simp [go_sem, mvNode, nvNode, markE_add]) rfl rfl ?_
  simp [go_sem, ty3, mvNode, nvNode, markE_add]
  repeat refine tk ?_
  refine h2 _ ?_
  clear h2 K2
  refine W_seqK fun K3 h3 => ?_
  refine W_seqK fun K4 h4 => ?_
  refine W_reg ?_
  simp [go_sem, ty3, ty4, mvNode, nvNode, markE_add]
  repeat refine tk ?_
  refine h4 _ ?_
  clear h4 K4
  refine W_cond rfl (fun hb5 => by first | (simp at hb5; done) | (simp at hb5; omega) | (simp at hb5; exact absurd hb5 (Int.not_lt.2 (hp _ (by omega))))) fun hb5 => ?_
  clear hb5
  refine W_skip ?_
  repeat refine tk ?_
  refine h3 _ ?_
  clear h3 K3
  refine W_seqK fun K6 h6 => ?_
  refine W_reg ?_
  simp [go_sem, ty3, ty41, ty45, ty132, mvNode, nvNode, markE_add]
  refine callA (fun hG => pc_laws_heldHomeS x.homes (markE k ((x.frames.map nFrame).sum)) (by first | assumption | omega | (unfold GNode.small at hq; exact hq.1)) (by first | assumption | omega | (unfold GNode.small at hq; exact hq.1)) (fun m hm => by (try simp only [nvMsg, nvSender, nvPacket, nvFrame, nvHome, nvNode, nvWorld, nvHart, nvBlock, nvCore, nvFlock] at hm); first | exact hp m (by omega) | (rw [markE_add]; exact hp _ (by omega)) | exact markE_nn m (by omega) | (rw [markE_add]; exact markE_nn _ (by omega)))) (fun hG => by simp [go_sem, mvNode, nvNode, markE_add]) rfl rfl ?_
  simp [go_sem, ty3, mvNode, nvNode, markE_add]
  repeat refine tk ?_
  refine h6 _ ?_
  clear h6 K6
  refine W_seqK fun K7 h7 => ?_
  refine W_seqK fun K8 h8 => ?_
  refine W_reg ?_
  simp [go_sem, ty3, ty4, mvNode, nvNode, markE_add]
  repeat refine tk ?_
  refine h8 _ ?_
  clear h8 K8
  refine W_cond rfl (fun hb9 => by first | (simp at hb9; done) | (simp at hb9; omega) | (simp at hb9; exact absurd hb9 (Int.not_lt.2 (hp _ (by omega))))) fun hb9 => ?_
  clear hb9
  refine W_skip ?_
  repeat refine tk ?_
  refine h7 _ ?_
  clear h7 K7
  refine W_seqK fun K10 h10 => ?_
  refine W_reg ?_
  simp [go_sem, ty3, ty42, ty45, ty136, mvNode, nvNode, markE_add]
  refine callA (fun hG => pc_laws_heldSenderS x.out (markE k ((x.frames.map nFrame).sum + (x.homes.map nHome).sum)) (by first | assumption | omega | (unfold GNode.small at hq; exact hq.1)) (by first | assumption | omega | (unfold GNode.small at hq; exact hq.1)) (fun m hm => by (try simp only [nvMsg, nvSender, nvPacket, nvFrame, nvHome, nvNode, nvWorld, nvHart, nvBlock, nvCore, nvFlock] at hm); first | exact hp m (by omega) | (rw [markE_add]; exact hp _ (by omega)) | exact markE_nn m (by omega) | (rw [markE_add]; exact markE_nn _ (by omega)))) (fun hG => by simp [go_sem, mvNode, nvNode, markE_add]) rfl rfl ?_
  simp [go_sem, ty3, mvNode, nvNode, markE_add]
  repeat refine tk ?_
  refine h10 _ ?_
  clear h10 K10
  refine W_seqK fun K11 h11 => ?_
  refine W_seqK fun K12 h12 => ?_
  refine W_reg ?_
  simp [go_sem, ty3, ty4, mvNode, nvNode, markE_add]
  repeat refine tk ?_
  refine h12 _ ?_
  clear h12 K12
  refine W_cond rfl (fun hb13 => by first | (simp at hb13; done) | (simp at hb13; omega) | (simp at hb13; exact absurd hb13 (Int.not_lt.2 (hp _ (by omega))))) fun hb13 => ?_
  clear hb13
  refine W_skip ?_
  repeat refine tk ?_
  refine h11 _ ?_
  clear h11 K11
  refine W_seqK fun K14 h14 => ?_
  refine W_reg ?_
  simp [go_sem, ty3, ty43, ty45, ty153, mvNode, nvNode, markE_add]
  refine callA (fun hG => pc_laws_heldReceiverS x.in_.length (markE k ((x.frames.map nFrame).sum + (x.homes.map nHome).sum + (x.out.map nSender).sum)) (by omega)) (fun hG => by simp [go_sem, mvNode, nvNode, markE_add]) rfl rfl ?_
  simp [go_sem, ty3, mvNode, nvNode, markE_add]
  repeat refine tk ?_
  refine h14 _ ?_
  clear h14 K14
  refine W_seqK fun K15 h15 => ?_
  refine W_seqK fun K16 h16 => ?_
  refine W_reg ?_
  simp [go_sem, ty3, ty4, mvNode, nvNode, markE_add]
  repeat refine tk ?_
  refine h16 _ ?_
  clear h16 K16
  refine W_cond rfl (fun hb17 => by first | (simp at hb17; done) | (simp at hb17; omega) | (simp at hb17; exact absurd hb17 (Int.not_lt.2 (hp _ (by omega))))) fun hb17 => ?_
  clear hb17
  refine W_skip ?_
  repeat refine tk ?_
  refine h15 _ ?_
  clear h15 K15
  refine W_seqK fun K18 h18 => ?_
  refine W_reg ?_
  simp [go_sem, ty3, mvNode, nvNode, markE_add]
  repeat refine tk ?_
  refine h18 _ ?_
  clear h18 K18
  refine W_ret ?_
  simp [go_sem, nvNode]
end Go.Tw
