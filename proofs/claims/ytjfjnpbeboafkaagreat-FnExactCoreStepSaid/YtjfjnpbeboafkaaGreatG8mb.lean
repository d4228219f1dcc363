/- Walks of functions: laws.markMsgS, laws.heldMsgS, laws.markFrameS, laws.heldFrameS, laws.markBlockS, laws.heldBlockS -/
import Derived.Test.YtjfjnpbeboafkaaGreatG8ma
set_option linter.unusedSimpArgs false
set_option linter.unusedVariables false
set_option linter.unnecessarySimpa false
namespace Go.Tw
open Go.Proofs

set_option maxRecDepth 100000 in
set_option maxHeartbeats 4000000 in
theorem mc_laws_markMsgS (xs : List GMsg) (k : Int) (hx : xs.length ≤ 1048576) (hq : ∀ a ∈ xs, a.small) : MC1 Tryz.prog 136 4 (enc eMsg xs) (enc eMsg ((List.range xs.length).map (fMsg k xs))) [.int .i64 k] [.int .i64 (markE k (xs.map nMsg).sum)] := by
  refine MC1_of (n := 43) Tryz.func136 rfl rfl rfl rfl (by simp) fun a0 => ?_
  refine W_seqK fun K1 h1 => ?_
  refine W_reg ?_
  simp [go_sem, ty3]
  repeat refine tk ?_
  refine h1 _ ?_
  clear h1 K1
  refine W_seqK fun K2 h2 => ?_
  refine W_seqK fun K3 h3 => ?_
  refine W_reg ?_
  simp [go_sem, ty3]
  repeat refine tk ?_
  refine h3 _ ?_
  clear h3 K3
  refine W_block ?_
  refine W_loopI (α := Nat) (fun i => { env := [(0, true, .l (.ref 0 [] 4 0 xs.length)), (1, true, .l (.t (.int .i64 (markE k (sumTo nMsg xs i))))), (5, true, .l (.t (.int .i64 i)))], box := [], row := [(0, ⟨.own, 4, enc eMsg (upto (fMsg k xs) xs i)⟩)], nxt := 1, sav := [([(0, true, .l (.ref 0 [] 4 0 xs.length))], a0)] }) (fun i => i ≤ xs.length) (fun i => xs.length - i) 0 ?_ ?_ ?_
  · exact Sub.of_to [0, 1, 5] 1 (by decide) (by simp [go_sem, upto_zero, sumTo_zero, markE_zero])
  · exact Nat.zero_le _
  rintro i hinv
  have hu := upto_len (fMsg k xs) xs i hinv
  refine W_seqK fun K5 h5 => ?_
  refine W_seqK fun K6 h6 => ?_
  refine W_reg ?_
  simp [go_sem, ty3, ty4, ty134, ty159]
  repeat refine tk ?_
  refine h6 _ ?_
  clear h6 K6
  refine W_cond rfl (fun hb7 => ?_) fun hb7 => ?_
  · have hlt : i < xs.length := by simpa using hb7
    have hg := upto_get (fMsg k xs) xs hlt
    have hg2 := upto_getE (fMsg k xs) xs hlt (by omega)
    have hf : fMsg k xs i = ⟨markE k (sumTo nMsg xs i), markE k (sumTo nMsg xs i + 1), mB k (sumTo nMsg xs i + 2), marks (markE k (sumTo nMsg xs i + 3)) xs[i].list.length⟩ := by rw [fMsg_at hlt]; rfl
    have hS : sumTo nMsg xs (i + 1) = sumTo nMsg xs i + 3 + xs[i].list.length := by rw [sumTo_succ _ hlt]; have hn : nMsg xs[i] = 3 + xs[i].list.length := rfl; first | rfl | (rw [hn]; omega) | omega
    clear hb7
    have hs := hq _ (List.getElem_mem hlt)
    unfold GMsg.small at hs
    have q0 := hs
    refine W_skip ?_
    repeat refine tk ?_
    refine h5 _ ?_
    clear h5 K5
    refine W_seqK fun K8 h8 => ?_
    refine W_block ?_
    refine W_seqK fun K9 h9 => ?_
    refine W_reg ?_
    simp [go_sem, ty3, ty134, ty159, hlt, hu, hg, hg2, markE_succ, markE_add, mB_def]
    repeat refine tk ?_
    refine h9 _ ?_
    clear h9 K9
    refine W_seqK fun K10 h10 => ?_
    refine W_reg ?_
    simp [go_sem, ty3, hlt, hu, hg, hg2, markE_succ, markE_add, mB_def]
    repeat refine tk ?_
    refine h10 _ ?_
    clear h10 K10
    refine W_seqK fun K11 h11 => ?_
    refine W_reg ?_
    simp [go_sem, ty3, ty134, ty159, hlt, hu, hg, hg2, markE_succ, markE_add, mB_def]
    repeat refine tk ?_
    refine h11 _ ?_
    clear h11 K11
    refine W_seqK fun K12 h12 => ?_
    refine W_reg ?_
    simp [go_sem, ty3, hlt, hu, hg, hg2, markE_succ, markE_add, mB_def]
    repeat refine tk ?_
    refine h12 _ ?_
    clear h12 K12
    refine W_seqK fun K13 h13 => ?_
    refine W_reg ?_
    simp [go_sem, ty3, ty4, ty134, ty159, hlt, hu, hg, hg2, markE_succ, markE_add, mB_def]
    repeat refine tk ?_
    refine h13 _ ?_
    clear h13 K13
    refine W_seqK fun K14 h14 => ?_
    refine W_reg ?_
    simp [go_sem, ty3, hlt, hu, hg, hg2, markE_succ, markE_add, mB_def]
    repeat refine tk ?_
    refine h14 _ ?_
    clear h14 K14
    refine W_reg ?_
    simp [go_sem, ty3, ty22, ty134, ty159, hlt, hu, hg, hg2, markE_succ, markE_add, mB_def]
    refine callG_true (by simp) (CallW_mut (mc_laws_markIntS xs[i].list (markE k (sumTo nMsg xs i + 3)) (by omega)) rfl rfl (by simp [go_sem, hlt, hu, hg, hg2, markE_succ, markE_add, mB_def]) (by simp [go_sem, hlt, hu, hg, hg2, markE_succ, markE_add, mB_def]) rfl ?_)
    simp [go_sem, ty3, hlt, hu, hg, hg2, markE_succ, markE_add, mB_def]
    repeat refine tk ?_
    refine h8 _ ?_
    clear h8 K8
    refine W_reg ?_
    simp [go_sem, ty3, hlt, hu, hg, hg2, markE_succ, markE_add, mB_def]
    refine ⟨i + 1, ?_, ?_, ?_⟩
    · exact Sub.of_to [0, 1, 5] 1 (by decide) (by simp [go_sem, wrap_succ (show i < 9223372036854775807 by omega), hS, markE_succ, markE_add, mB_def, upto_step hlt hf])
    · exact hlt
    · omega
  · obtain rfl : i = xs.length := by simp at hb7; omega
    clear hb7
    have hfu := upto_full (fMsg k xs) xs
    refine W_exit ?_
    simp [go_sem]
    repeat refine tk ?_
    refine h2 _ ?_
    clear h5 K5 h2 K2
    refine W_seqK fun K15 h15 => ?_
    refine W_reg ?_
    simp [go_sem, ty3]
    repeat refine tk ?_
    refine h15 _ ?_
    clear h15 K15
    refine W_ret ?_
    simp [go_sem, hfu, hu, sumTo_full]

set_option maxRecDepth 100000 in
set_option maxHeartbeats 4000000 in
theorem pc_laws_heldMsgS (xs : List GMsg) (k : Int) (hx : xs.length ≤ 1048576) (hq : ∀ a ∈ xs, a.small) (hp : ∀ m, m ≤ (xs.map nMsg).sum → 0 ≤ markE k m) : PC Tryz.prog 141 [(false, [.sl 4 (enc eMsg ((List.range xs.length).map (fMsg k xs)))]), (false, [.int .i64 k])] [(false, [.int .i64 (markE k (xs.map nMsg).sum)])] := by
  have hl : ((List.range xs.length).map (fMsg k xs)).length = xs.length := by simp
  refine PC_of (n := 51) Tryz.func141 rfl rfl rfl rfl (by simp) ?_
  refine W_seqK fun K1 h1 => ?_
  refine W_reg ?_
  simp [go_sem, ty3]
  repeat refine tk ?_
  refine h1 _ ?_
  clear h1 K1
  refine W_seqK fun K2 h2 => ?_
  refine W_seqK fun K3 h3 => ?_
  refine W_reg ?_
  simp [go_sem, ty3]
  repeat refine tk ?_
  refine h3 _ ?_
  clear h3 K3
  refine W_block ?_
  refine W_loopI (α := Nat) (fun i => ({ env := [(0, true, .l (.ref 0 [] 4 0 (xs.length))), (1, true, .l (.t (.int .i64 (markE k (sumTo nMsg xs i))))), (5, true, .l (.t (.int .i64 (i))))], box := [], row := [(0, ⟨.ro, 4, enc eMsg ((List.range xs.length).map (fMsg k xs))⟩)], nxt := 2, sav := [] } : St)) (fun i => i ≤ xs.length) (fun i => xs.length - i) 0 ?_ ?_ ?_
  · exact Sub.of_neat [0, 1, 5] [0] [] 2 (by decide) (by simp [go_sem, sumTo_zero, markE_zero])
  · exact Nat.zero_le _
  rintro i hinv
  refine W_seqK fun K5 h5 => ?_
  refine W_seqK fun K6 h6 => ?_
  refine W_reg ?_
  simp [go_sem, ty3, ty4, ty134, ty159]
  repeat refine tk ?_
  refine h6 _ ?_
  clear h6 K6
  refine W_cond rfl (fun hb7 => ?_) fun hb7 => ?_
  · have hlt : i < xs.length := by simpa using hb7
    have hf : fMsg k xs i = ⟨markE k (sumTo nMsg xs i), markE k (sumTo nMsg xs i + 1), mB k (sumTo nMsg xs i + 2), marks (markE k (sumTo nMsg xs i + 3)) xs[i].list.length⟩ := by rw [fMsg_at hlt]; rfl
    have hS : sumTo nMsg xs (i + 1) = sumTo nMsg xs i + 3 + xs[i].list.length := by rw [sumTo_succ _ hlt]; have hn : nMsg xs[i] = 3 + xs[i].list.length := rfl; first | rfl | (rw [hn]; omega) | omega
    have hT : sumTo nMsg xs (i + 1) ≤ (xs.map nMsg).sum := by obtain ⟨m, hm⟩ := sumTo_rest nMsg xs (i + 1); omega
    rw [hS] at hT
    clear hb7
    have hs := hq _ (List.getElem_mem hlt)
    unfold GMsg.small at hs
    have q0 := hs
    refine W_skip ?_
    repeat refine tk ?_
    refine h5 _ ?_
    clear h5 K5
    refine W_seqK fun K8 h8 => ?_
    refine W_block ?_
    refine W_seqK fun K9 h9 => ?_
    refine W_seqK fun K10 h10 => ?_
    refine W_reg ?_
    simp [go_sem, ty3, ty4, ty134, ty159, hlt, hl, hf, markE_succ, markE_add, mB_def]
    repeat refine tk ?_
    refine h10 _ ?_
    clear h10 K10
    refine W_cond rfl (fun hb11 => by first | (simp at hb11; done) | (simp at hb11; omega) | (simp at hb11; exact absurd hb11 (Int.not_lt.2 (hp _ (by omega))))) fun hb11 => ?_
    clear hb11
    refine W_skip ?_
    repeat refine tk ?_
    refine h9 _ ?_
    clear h9 K9
    refine W_seqK fun K12 h12 => ?_
    refine W_reg ?_
    simp [go_sem, ty3, hlt, hl, hf, markE_succ, markE_add, mB_def]
    repeat refine tk ?_
    refine h12 _ ?_
    clear h12 K12
    refine W_seqK fun K13 h13 => ?_
    refine W_seqK fun K14 h14 => ?_
    refine W_reg ?_
    simp [go_sem, ty3, ty4, ty134, ty159, hlt, hl, hf, markE_succ, markE_add, mB_def]
    repeat refine tk ?_
    refine h14 _ ?_
    clear h14 K14
    refine W_cond rfl (fun hb15 => by first | (simp at hb15; done) | (simp at hb15; omega) | (simp at hb15; exact absurd hb15 (Int.not_lt.2 (hp _ (by omega))))) fun hb15 => ?_
    clear hb15
    refine W_skip ?_
    repeat refine tk ?_
    refine h13 _ ?_
    clear h13 K13
    refine W_seqK fun K16 h16 => ?_
    refine W_reg ?_
    simp [go_sem, ty3, hlt, hl, hf, markE_succ, markE_add, mB_def]
    repeat refine tk ?_
    refine h16 _ ?_
    clear h16 K16
    refine W_seqK fun K17 h17 => ?_
    refine W_seqK fun K18 h18 => ?_
    refine W_reg ?_
    simp [go_sem, ty3, ty4, ty134, ty159, hlt, hl, hf, markE_succ, markE_add, mB_def]
    repeat refine tk ?_
    refine h18 _ ?_
    clear h18 K18
    refine W_cond rfl (fun hb19 => by first | (simp at hb19; done) | (simp at hb19; omega) | (simp at hb19; exact absurd hb19 (Int.not_lt.2 (hp _ (by omega))))) fun hb19 => ?_
    clear hb19
    refine W_skip ?_
    repeat refine tk ?_
    refine h17 _ ?_
    clear h17 K17
    refine W_seqK fun K20 h20 => ?_
    refine W_reg ?_
    simp [go_sem, ty3, hlt, hl, hf, markE_succ, markE_add, mB_def]
    repeat refine tk ?_
    refine h20 _ ?_
    clear h20 K20
    refine W_seqK fun K21 h21 => ?_
    refine W_reg ?_
    simp [go_sem, ty3, ty22, ty134, ty159, hlt, hl, hf, markE_succ, markE_add, mB_def]
    refine callA (fun hG => pc_laws_heldIntS xs[i].list.length (markE k (sumTo nMsg xs i + 3)) (by omega)) (fun hG => by simp [go_sem, hlt, hl, hf, markE_succ, markE_add, mB_def]) rfl rfl ?_
    simp [go_sem, ty3, hlt, hl, hf, markE_succ, markE_add, mB_def]
    repeat refine tk ?_
    refine h21 _ ?_
    clear h21 K21
    refine W_seqK fun K22 h22 => ?_
    refine W_reg ?_
    simp [go_sem, ty3, ty4, hlt, hl, hf, markE_succ, markE_add, mB_def]
    repeat refine tk ?_
    refine h22 _ ?_
    clear h22 K22
    refine W_cond rfl (fun hb23 => by first | (simp at hb23; done) | (simp at hb23; omega) | (simp at hb23; exact absurd hb23 (Int.not_lt.2 (hp _ (by omega))))) fun hb23 => ?_
    clear hb23
    refine W_skip ?_
    repeat refine tk ?_
    refine h8 _ ?_
    clear h8 K8
    refine W_reg ?_
    simp [go_sem, ty3, hlt, hl, hf, markE_succ, markE_add, mB_def]
    refine ⟨i + 1, ?_, ?_, ?_⟩
    · exact Sub.of_neat [0, 1, 5] [0] [] 2 (by decide) (by simp [go_sem, wrap_succ (show i < 9223372036854775807 by omega), hS, markE_succ, markE_add])
    · exact hlt
    · omega
  · obtain rfl : i = xs.length := by simp at hb7; omega
    clear hb7
    refine W_exit ?_
    simp [go_sem]
    repeat refine tk ?_
    refine h2 _ ?_
    clear h5 K5 h2 K2
    refine W_seqK fun K24 h24 => ?_
    refine W_reg ?_
    simp [go_sem, ty3]
    repeat refine tk ?_
    refine h24 _ ?_
    clear h24 K24
    refine W_ret ?_
    simp [go_sem, sumTo_full]

set_option maxRecDepth 100000 in
set_option maxHeartbeats 4000000 in
theorem mc_laws_markFrameS (xs : List GFrame) (k : Int) (hx : xs.length ≤ 1048576) (hq : ∀ a ∈ xs, a.small) : MC1 Tryz.prog 60 3 (enc eFrame xs) (enc eFrame ((List.range xs.length).map (fFrame k xs))) [.int .i64 k] [.int .i64 (markE k (xs.map nFrame).sum)] := by
  refine MC1_of (n := 36) Tryz.func60 rfl rfl rfl rfl (by simp) fun a0 => ?_
  refine W_seqK fun K1 h1 => ?_
  refine W_reg ?_
  simp [go_sem, ty3]
  repeat refine tk ?_
  refine h1 _ ?_
  clear h1 K1
  refine W_seqK fun K2 h2 => ?_
  refine W_seqK fun K3 h3 => ?_
  refine W_reg ?_
  simp [go_sem, ty3]
  repeat refine tk ?_
  refine h3 _ ?_
  clear h3 K3
  refine W_block ?_
  refine W_loopI (α := Nat) (fun i => { env := [(0, true, .l (.ref 0 [] 3 0 xs.length)), (1, true, .l (.t (.int .i64 (markE k (sumTo nFrame xs i))))), (5, true, .l (.t (.int .i64 i)))], box := [], row := [(0, ⟨.own, 3, enc eFrame (upto (fFrame k xs) xs i)⟩)], nxt := 1, sav := [([(0, true, .l (.ref 0 [] 3 0 xs.length))], a0)] }) (fun i => i ≤ xs.length) (fun i => xs.length - i) 0 ?_ ?_ ?_
  · exact Sub.of_to [0, 1, 5] 1 (by decide) (by simp [go_sem, upto_zero, sumTo_zero, markE_zero])
  · exact Nat.zero_le _
  rintro i hinv
  have hu := upto_len (fFrame k xs) xs i hinv
  refine W_seqK fun K5 h5 => ?_
  refine W_seqK fun K6 h6 => ?_
  refine W_reg ?_
  simp [go_sem, ty3, ty4, ty40, ty65]
  repeat refine tk ?_
  refine h6 _ ?_
  clear h6 K6
  refine W_cond rfl (fun hb7 => ?_) fun hb7 => ?_
  · have hlt : i < xs.length := by simpa using hb7
    have hg := upto_get (fFrame k xs) xs hlt
    have hg2 := upto_getE (fFrame k xs) xs hlt (by omega)
    have hf : fFrame k xs i = ⟨markE k (sumTo nFrame xs i), marks (markE k (sumTo nFrame xs i + 1)) xs[i].list.length, mB k (sumTo nFrame xs i + 1 + xs[i].list.length)⟩ := by rw [fFrame_at hlt]; rfl
    have hS : sumTo nFrame xs (i + 1) = sumTo nFrame xs i + 1 + xs[i].list.length + 1 := by rw [sumTo_succ _ hlt]; have hn : nFrame xs[i] = 1 + xs[i].list.length + 1 := rfl; first | rfl | (rw [hn]; omega) | omega
    clear hb7
    have hs := hq _ (List.getElem_mem hlt)
    unfold GFrame.small at hs
    have q0 := hs
    refine W_skip ?_
    repeat refine tk ?_
    refine h5 _ ?_
    clear h5 K5
    refine W_seqK fun K8 h8 => ?_
    refine W_block ?_
    refine W_seqK fun K9 h9 => ?_
    refine W_reg ?_
    simp [go_sem, ty3, ty40, ty65, hlt, hu, hg, hg2, markE_succ, markE_add, mB_def]
    repeat refine tk ?_
    refine h9 _ ?_
    clear h9 K9
    refine W_seqK fun K10 h10 => ?_
    refine W_reg ?_
    simp [go_sem, ty3, hlt, hu, hg, hg2, markE_succ, markE_add, mB_def]
    repeat refine tk ?_
    refine h10 _ ?_
    clear h10 K10
    refine W_seqK fun K11 h11 => ?_
    refine W_reg ?_
    simp [go_sem, ty3, ty22, ty40, ty65, hlt, hu, hg, hg2, markE_succ, markE_add, mB_def]
    refine callG_true (by simp) (CallW_mut (mc_laws_markIntS xs[i].list (markE k (sumTo nFrame xs i + 1)) (by omega)) rfl rfl (by simp [go_sem, hlt, hu, hg, hg2, markE_succ, markE_add, mB_def]) (by simp [go_sem, hlt, hu, hg, hg2, markE_succ, markE_add, mB_def]) rfl ?_)
    simp [go_sem, ty3, hlt, hu, hg, hg2, markE_succ, markE_add, mB_def]
    repeat refine tk ?_
    refine h11 _ ?_
    clear h11 K11
    refine W_seqK fun K12 h12 => ?_
    refine W_reg ?_
    simp [go_sem, ty3, ty4, ty40, ty65, hlt, hu, hg, hg2, markE_succ, markE_add, mB_def]
    repeat refine tk ?_
    refine h12 _ ?_
    clear h12 K12
    refine W_reg ?_
    simp [go_sem, ty3, hlt, hu, hg, hg2, markE_succ, markE_add, mB_def]
    repeat refine tk ?_
    refine h8 _ ?_
    clear h8 K8
    refine W_reg ?_
    simp [go_sem, ty3, hlt, hu, hg, hg2, markE_succ, markE_add, mB_def]
    refine ⟨i + 1, ?_, ?_, ?_⟩
    · exact Sub.of_to [0, 1, 5] 1 (by decide) (by simp [go_sem, wrap_succ (show i < 9223372036854775807 by omega), hS, markE_succ, markE_add, mB_def, upto_step hlt hf])
    · exact hlt
    · omega
  · obtain rfl : i = xs.length := by simp at hb7; omega
    clear hb7
    have hfu := upto_full (fFrame k xs) xs
    refine W_exit ?_
    simp [go_sem]
    repeat refine tk ?_
    refine h2 _ ?_
    clear h5 K5 h2 K2
    refine W_seqK fun K13 h13 => ?_
    refine W_reg ?_
    simp [go_sem, ty3]
    repeat refine tk ?_
    refine h13 _ ?_
    clear h13 K13
    refine W_ret ?_
    simp [go_sem, hfu, hu, sumTo_full]

set_option maxRecDepth 100000 in
set_option maxHeartbeats 4000000 in
theorem pc_laws_heldFrameS (xs : List GFrame) (k : Int) (hx : xs.length ≤ 1048576) (hq : ∀ a ∈ xs, a.small) (hp : ∀ m, m ≤ (xs.map nFrame).sum → 0 ≤ markE k m) : PC Tryz.prog 66 [(false, [.sl 3 (enc eFrame ((List.range xs.length).map (fFrame k xs)))]), (false, [.int .i64 k])] [(false, [.int .i64 (markE k (xs.map nFrame).sum)])] := by
  have hl : ((List.range xs.length).map (fFrame k xs)).length = xs.length := by simp
  refine PC_of (n := 42) Tryz.func66 rfl rfl rfl rfl (by simp) ?_
  refine W_seqK fun K1 h1 => ?_
  refine W_reg ?_
  simp [go_sem, ty3]
  repeat refine tk ?_
  refine h1 _ ?_
  clear h1 K1
  refine W_seqK fun K2 h2 => ?_
  refine W_seqK fun K3 h3 => ?_
  refine W_reg ?_
  simp [go_sem, ty3]
  repeat refine tk ?_
  refine h3 _ ?_
  clear h3 K3
  refine W_block ?_
  refine W_loopI (α := Nat) (fun i => ({ env := [(0, true, .l (.ref 0 [] 3 0 (xs.length))), (1, true, .l (.t (.int .i64 (markE k (sumTo nFrame xs i))))), (5, true, .l (.t (.int .i64 (i))))], box := [], row := [(0, ⟨.ro, 3, enc eFrame ((List.range xs.length).map (fFrame k xs))⟩)], nxt := 2, sav := [] } : St)) (fun i => i ≤ xs.length) (fun i => xs.length - i) 0 ?_ ?_ ?_
  · exact Sub.of_neat [0, 1, 5] [0] [] 2 (by decide) (by simp [go_sem, sumTo_zero, markE_zero])
  · exact Nat.zero_le _
  rintro i hinv
  refine W_seqK fun K5 h5 => ?_
  refine W_seqK fun K6 h6 => ?_
  refine W_reg ?_
  simp [go_sem, ty3, ty4, ty40, ty65]
  repeat refine tk ?_
  refine h6 _ ?_
  clear h6 K6
  refine W_cond rfl (fun hb7 => ?_) fun hb7 => ?_
  · have hlt : i < xs.length := by simpa using hb7
    have hf : fFrame k xs i = ⟨markE k (sumTo nFrame xs i), marks (markE k (sumTo nFrame xs i + 1)) xs[i].list.length, mB k (sumTo nFrame xs i + 1 + xs[i].list.length)⟩ := by rw [fFrame_at hlt]; rfl
    have hS : sumTo nFrame xs (i + 1) = sumTo nFrame xs i + 1 + xs[i].list.length + 1 := by rw [sumTo_succ _ hlt]; have hn : nFrame xs[i] = 1 + xs[i].list.length + 1 := rfl; first | rfl | (rw [hn]; omega) | omega
    have hT : sumTo nFrame xs (i + 1) ≤ (xs.map nFrame).sum := by obtain ⟨m, hm⟩ := sumTo_rest nFrame xs (i + 1); omega
    rw [hS] at hT
    clear hb7
    have hs := hq _ (List.getElem_mem hlt)
    unfold GFrame.small at hs
    have q0 := hs
    refine W_skip ?_
    repeat refine tk ?_
    refine h5 _ ?_
    clear h5 K5
    refine W_seqK fun K8 h8 => ?_
    refine W_block ?_
    refine W_seqK fun K9 h9 => ?_
    refine W_seqK fun K10 h10 => ?_
    refine W_reg ?_
    simp [go_sem, ty3, ty4, ty40, ty65, hlt, hl, hf, markE_succ, markE_add, mB_def]
    repeat refine tk ?_
    refine h10 _ ?_
    clear h10 K10
    refine W_cond rfl (fun hb11 => by first | (simp at hb11; done) | (simp at hb11; omega) | (simp at hb11; exact absurd hb11 (Int.not_lt.2 (hp _ (by omega))))) fun hb11 => ?_
    clear hb11
    refine W_skip ?_
    repeat refine tk ?_
    refine h9 _ ?_
    clear h9 K9
    refine W_seqK fun K12 h12 => ?_
    refine W_reg ?_
    simp [go_sem, ty3, hlt, hl, hf, markE_succ, markE_add, mB_def]
    repeat refine tk ?_
    refine h12 _ ?_
    clear h12 K12
    refine W_seqK fun K13 h13 => ?_
    refine W_reg ?_
    simp [go_sem, ty3, ty22, ty40, ty65, hlt, hl, hf, markE_succ, markE_add, mB_def]
    refine callA (fun hG => pc_laws_heldIntS xs[i].list.length (markE k (sumTo nFrame xs i + 1)) (by omega)) (fun hG => by simp [go_sem, hlt, hl, hf, markE_succ, markE_add, mB_def]) rfl rfl ?_
    simp [go_sem, ty3, hlt, hl, hf, markE_succ, markE_add, mB_def]
    repeat refine tk ?_
    refine h13 _ ?_
    clear h13 K13
    refine W_seqK fun K14 h14 => ?_
    refine W_seqK fun K15 h15 => ?_
    refine W_reg ?_
    simp [go_sem, ty3, ty4, hlt, hl, hf, markE_succ, markE_add, mB_def]
    repeat refine tk ?_
    refine h15 _ ?_
    clear h15 K15
    refine W_cond rfl (fun hb16 => by first | (simp at hb16; done) | (simp at hb16; omega) | (simp at hb16; exact absurd hb16 (Int.not_lt.2 (hp _ (by omega))))) fun hb16 => ?_
    clear hb16
    refine W_skip ?_
    repeat refine tk ?_
    refine h14 _ ?_
    clear h14 K14
    refine W_seqK fun K17 h17 => ?_
    refine W_seqK fun K18 h18 => ?_
    refine W_reg ?_
    simp [go_sem, ty3, ty4, ty40, ty65, hlt, hl, hf, markE_succ, markE_add, mB_def]
    repeat refine tk ?_
    refine h18 _ ?_
    clear h18 K18
    refine W_cond rfl (fun hb19 => by first | (simp at hb19; done) | (simp at hb19; omega) | (simp at hb19; exact absurd hb19 (Int.not_lt.2 (hp _ (by omega))))) fun hb19 => ?_
    clear hb19
    refine W_skip ?_
    repeat refine tk ?_
    refine h17 _ ?_
    clear h17 K17
    refine W_reg ?_
    simp [go_sem, ty3, hlt, hl, hf, markE_succ, markE_add, mB_def]
    repeat refine tk ?_
    refine h8 _ ?_
    clear h8 K8
    refine W_reg ?_
    simp [go_sem, ty3, hlt, hl, hf, markE_succ, markE_add, mB_def]
    refine ⟨i + 1, ?_, ?_, ?_⟩
    · exact Sub.of_neat [0, 1, 5] [0] [] 2 (by decide) (by simp [go_sem, wrap_succ (show i < 9223372036854775807 by omega), hS, markE_succ, markE_add])
    · exact hlt
    · omega
  · obtain rfl : i = xs.length := by simp at hb7; omega
    clear hb7
    refine W_exit ?_
    simp [go_sem]
    repeat refine tk ?_
    refine h2 _ ?_
    clear h5 K5 h2 K2
    refine W_seqK fun K20 h20 => ?_
    refine W_reg ?_
    simp [go_sem, ty3]
    repeat refine tk ?_
    refine h20 _ ?_
    clear h20 K20
    refine W_ret ?_
    simp [go_sem, sumTo_full]

set_option maxRecDepth 100000 in
set_option maxHeartbeats 4000000 in
theorem mc_laws_markBlockS (xs : List GBlock) (k : Int) (hx : xs.length ≤ 1048576) (hq : ∀ a ∈ xs, a.small) : MC1 Tryz.prog 59 2 (enc eBlock xs) (enc eBlock ((List.range xs.length).map (fBlock k xs))) [.int .i64 k] [.int .i64 (markE k (xs.map nBlock).sum)] := by
  refine MC1_of (n := 27) Tryz.func59 rfl rfl rfl rfl (by simp) fun a0 => ?_
  refine W_seqK fun K1 h1 => ?_
  refine W_reg ?_
  simp [go_sem, ty3]
  repeat refine tk ?_
  refine h1 _ ?_
  clear h1 K1
  refine W_seqK fun K2 h2 => ?_
  refine W_seqK fun K3 h3 => ?_
  refine W_reg ?_
  simp [go_sem, ty3]
  repeat refine tk ?_
  refine h3 _ ?_
  clear h3 K3
  refine W_block ?_
  refine W_loopI (α := Nat) (fun i => { env := [(0, true, .l (.ref 0 [] 2 0 xs.length)), (1, true, .l (.t (.int .i64 (markE k (sumTo nBlock xs i))))), (5, true, .l (.t (.int .i64 i)))], box := [], row := [(0, ⟨.own, 2, enc eBlock (upto (fBlock k xs) xs i)⟩)], nxt := 1, sav := [([(0, true, .l (.ref 0 [] 2 0 xs.length))], a0)] }) (fun i => i ≤ xs.length) (fun i => xs.length - i) 0 ?_ ?_ ?_
  · exact Sub.of_to [0, 1, 5] 1 (by decide) (by simp [go_sem, upto_zero, sumTo_zero, markE_zero])
  · exact Nat.zero_le _
  rintro i hinv
  have hu := upto_len (fBlock k xs) xs i hinv
  refine W_seqK fun K5 h5 => ?_
  refine W_seqK fun K6 h6 => ?_
  refine W_reg ?_
  simp [go_sem, ty3, ty4, ty37, ty74]
  repeat refine tk ?_
  refine h6 _ ?_
  clear h6 K6
  refine W_cond rfl (fun hb7 => ?_) fun hb7 => ?_
  · have hlt : i < xs.length := by simpa using hb7
    have hg := upto_get (fBlock k xs) xs hlt
    have hg2 := upto_getE (fBlock k xs) xs hlt (by omega)
    have hf : fBlock k xs i = ⟨markE k (sumTo nBlock xs i), (List.range xs[i].list.length).map (mIns (markE k (sumTo nBlock xs i + 1)))⟩ := by rw [fBlock_at hlt]; rfl
    have hS : sumTo nBlock xs (i + 1) = sumTo nBlock xs i + 1 + 5 * xs[i].list.length := by rw [sumTo_succ _ hlt]; have hn : nBlock xs[i] = 1 + 5 * xs[i].list.length := rfl; first | rfl | (rw [hn]; omega) | omega
    clear hb7
    have hs := hq _ (List.getElem_mem hlt)
    unfold GBlock.small at hs
    have q0 := hs
    refine W_skip ?_
    repeat refine tk ?_
    refine h5 _ ?_
    clear h5 K5
    refine W_seqK fun K8 h8 => ?_
    refine W_block ?_
    refine W_seqK fun K9 h9 => ?_
    refine W_reg ?_
    simp [go_sem, ty3, ty37, ty74, hlt, hu, hg, hg2, markE_succ, markE_add, mB_def]
    repeat refine tk ?_
    refine h9 _ ?_
    clear h9 K9
    refine W_seqK fun K10 h10 => ?_
    refine W_reg ?_
    simp [go_sem, ty3, hlt, hu, hg, hg2, markE_succ, markE_add, mB_def]
    repeat refine tk ?_
    refine h10 _ ?_
    clear h10 K10
    refine W_reg ?_
    simp [go_sem, ty3, ty37, ty68, ty72, ty74, hlt, hu, hg, hg2, markE_succ, markE_add, mB_def]
    refine callG_true (by simp) (CallW_mut (mc_laws_markInsS xs[i].list (markE k (sumTo nBlock xs i + 1)) (by omega)) rfl rfl (by simp [go_sem, hlt, hu, hg, hg2, markE_succ, markE_add, mB_def]) (by simp [go_sem, hlt, hu, hg, hg2, markE_succ, markE_add, mB_def]) rfl ?_)
    simp [go_sem, ty3, hlt, hu, hg, hg2, markE_succ, markE_add, mB_def]
    repeat refine tk ?_
    refine h8 _ ?_
    clear h8 K8
    refine W_reg ?_
    simp [go_sem, ty3, hlt, hu, hg, hg2, markE_succ, markE_add, mB_def]
    refine ⟨i + 1, ?_, ?_, ?_⟩
    · exact Sub.of_to [0, 1, 5] 1 (by decide) (by simp [go_sem, wrap_succ (show i < 9223372036854775807 by omega), hS, markE_succ, markE_add, mB_def, upto_step hlt hf])
    · exact hlt
    · omega
  · obtain rfl : i = xs.length := by simp at hb7; omega
    clear hb7
    have hfu := upto_full (fBlock k xs) xs
    refine W_exit ?_
    simp [go_sem]
    repeat refine tk ?_
    refine h2 _ ?_
    clear h5 K5 h2 K2
    refine W_seqK fun K11 h11 => ?_
    refine W_reg ?_
    simp [go_sem, ty3]
    repeat refine tk ?_
    refine h11 _ ?_
    clear h11 K11
    refine W_ret ?_
    simp [go_sem, hfu, hu, sumTo_full]

set_option maxRecDepth 100000 in
set_option maxHeartbeats 4000000 in
theorem pc_laws_heldBlockS (xs : List GBlock) (k : Int) (hx : xs.length ≤ 1048576) (hq : ∀ a ∈ xs, a.small) (hp : ∀ m, m ≤ (xs.map nBlock).sum → 0 ≤ markE k m) : PC Tryz.prog 65 [(false, [.sl 2 (enc eBlock ((List.range xs.length).map (fBlock k xs)))]), (false, [.int .i64 k])] [(false, [.int .i64 (markE k (xs.map nBlock).sum)])] := by
  have hl : ((List.range xs.length).map (fBlock k xs)).length = xs.length := by simp
  refine PC_of (n := 31) Tryz.func65 rfl rfl rfl rfl (by simp) ?_
  refine W_seqK fun K1 h1 => ?_
  refine W_reg ?_
  simp [go_sem, ty3]
  repeat refine tk ?_
  refine h1 _ ?_
  clear h1 K1
  refine W_seqK fun K2 h2 => ?_
  refine W_seqK fun K3 h3 => ?_
  refine W_reg ?_
  simp [go_sem, ty3]
  repeat refine tk ?_
  refine h3 _ ?_
  clear h3 K3
  refine W_block ?_
  refine W_loopI (α := Nat) (fun i => ({ env := [(0, true, .l (.ref 0 [] 2 0 (xs.length))), (1, true, .l (.t (.int .i64 (markE k (sumTo nBlock xs i))))), (5, true, .l (.t (.int .i64 (i))))], box := [], row := [(0, ⟨.ro, 2, enc eBlock ((List.range xs.length).map (fBlock k xs))⟩)], nxt := 2, sav := [] } : St)) (fun i => i ≤ xs.length) (fun i => xs.length - i) 0 ?_ ?_ ?_
  · exact Sub.of_neat [0, 1, 5] [0] [] 2 (by decide) (by simp [go_sem, sumTo_zero, markE_zero])
  · exact Nat.zero_le _
  rintro i hinv
  refine W_seqK fun K5 h5 => ?_
  refine W_seqK fun K6 h6 => ?_
  refine W_reg ?_
  simp [go_sem, ty3, ty4, ty37, ty74]
  repeat refine tk ?_
  refine h6 _ ?_
  clear h6 K6
  refine W_cond rfl (fun hb7 => ?_) fun hb7 => ?_
  · have hlt : i < xs.length := by simpa using hb7
    have hf : fBlock k xs i = ⟨markE k (sumTo nBlock xs i), (List.range xs[i].list.length).map (mIns (markE k (sumTo nBlock xs i + 1)))⟩ := by rw [fBlock_at hlt]; rfl
    have hS : sumTo nBlock xs (i + 1) = sumTo nBlock xs i + 1 + 5 * xs[i].list.length := by rw [sumTo_succ _ hlt]; have hn : nBlock xs[i] = 1 + 5 * xs[i].list.length := rfl; first | rfl | (rw [hn]; omega) | omega
    have hT : sumTo nBlock xs (i + 1) ≤ (xs.map nBlock).sum := by obtain ⟨m, hm⟩ := sumTo_rest nBlock xs (i + 1); omega
    rw [hS] at hT
    clear hb7
    have hs := hq _ (List.getElem_mem hlt)
    unfold GBlock.small at hs
    have q0 := hs
    refine W_skip ?_
    repeat refine tk ?_
    refine h5 _ ?_
    clear h5 K5
    refine W_seqK fun K8 h8 => ?_
    refine W_block ?_
    refine W_seqK fun K9 h9 => ?_
    refine W_seqK fun K10 h10 => ?_
    refine W_reg ?_
    simp [go_sem, ty3, ty4, ty37, ty74, hlt, hl, hf, markE_succ, markE_add, mB_def]
    repeat refine tk ?_
    refine h10 _ ?_
    clear h10 K10
    refine W_cond rfl (fun hb11 => by first | (simp at hb11; done) | (simp at hb11; omega) | (simp at hb11; exact absurd hb11 (Int.not_lt.2 (hp _ (by omega))))) fun hb11 => ?_
    clear hb11
    refine W_skip ?_
    repeat refine tk ?_
    refine h9 _ ?_
    clear h9 K9
    refine W_seqK fun K12 h12 => ?_
    refine W_reg ?_
    simp [go_sem, ty3, hlt, hl, hf, markE_succ, markE_add, mB_def]
    repeat refine tk ?_
    refine h12 _ ?_
    clear h12 K12
    refine W_seqK fun K13 h13 => ?_
    refine W_reg ?_
    simp [go_sem, ty3, ty37, ty68, ty72, ty74, hlt, hl, hf, markE_succ, markE_add, mB_def]
    refine callA (fun hG => pc_laws_heldInsS xs[i].list.length (markE k (sumTo nBlock xs i + 1)) (by omega)) (fun hG => by simp [go_sem, hlt, hl, hf, markE_succ, markE_add, mB_def]) rfl rfl ?_
    simp [go_sem, ty3, hlt, hl, hf, markE_succ, markE_add, mB_def]
    repeat refine tk ?_
    refine h13 _ ?_
    clear h13 K13
    refine W_seqK fun K14 h14 => ?_
    refine W_reg ?_
    simp [go_sem, ty3, ty4, hlt, hl, hf, markE_succ, markE_add, mB_def]
    repeat refine tk ?_
    refine h14 _ ?_
    clear h14 K14
    refine W_cond rfl (fun hb15 => by first | (simp at hb15; done) | (simp at hb15; omega) | (simp at hb15; exact absurd hb15 (Int.not_lt.2 (hp _ (by omega))))) fun hb15 => ?_
    clear hb15
    refine W_skip ?_
    repeat refine tk ?_
    refine h8 _ ?_
    clear h8 K8
    refine W_reg ?_
    simp [go_sem, ty3, hlt, hl, hf, markE_succ, markE_add, mB_def]
    refine ⟨i + 1, ?_, ?_, ?_⟩
    · exact Sub.of_neat [0, 1, 5] [0] [] 2 (by decide) (by simp [go_sem, wrap_succ (show i < 9223372036854775807 by omega), hS, markE_succ, markE_add])
    · exact hlt
    · omega
  · obtain rfl : i = xs.length := by simp at hb7; omega
    clear hb7
    refine W_exit ?_
    simp [go_sem]
    repeat refine tk ?_
    refine h2 _ ?_
    clear h5 K5 h2 K2
    refine W_seqK fun K16 h16 => ?_
    refine W_reg ?_
    simp [go_sem, ty3]
    repeat refine tk ?_
    refine h16 _ ?_
    clear h16 K16
    refine W_ret ?_
    simp [go_sem, sumTo_full]
end Go.Tw
