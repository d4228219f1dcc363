/- Walks of functions: laws.markNodeS, laws.heldNodeS, laws.markCoreS, laws.heldCoreS -/
import Derived.Test.YtgcjdkgddnnlpaaE7mc
set_option linter.unusedSimpArgs false
set_option linter.unusedVariables false
set_option linter.unnecessarySimpa false
namespace Go.Tw
open Go.Proofs

set_option maxRecDepth 100000 in
set_option maxHeartbeats 4000000 in
theorem mc_laws_markNodeS (xs : List GNode) (k : Int) (hx : xs.length ≤ 1048576) (hq : ∀ a ∈ xs, a.small) : MC1 Try.prog 127 5 (enc eNode xs) (enc eNode ((List.range xs.length).map (fNode k xs))) [.int .i64 k] [.int .i64 (markE k (xs.map nNode).sum)] := by
  refine MC1_of (n := 48) Try.func127 rfl rfl rfl rfl (by simp) fun a0 => ?_
  refine W_seqK fun K1 h1 => ?_
  refine W_reg ?_
  simp [go_sem, ty3]
  repeat refine ⟨by first | omega | grind, ?_⟩
  refine h1 _ ?_
  clear h1 K1
  refine W_seqK fun K2 h2 => ?_
  refine W_seqK fun K3 h3 => ?_
  refine W_reg ?_
  simp [go_sem, ty3]
  repeat refine ⟨by first | omega | grind, ?_⟩
  refine h3 _ ?_
  clear h3 K3
  refine W_block ?_
  refine W_loopI (α := Nat) (fun i => { env := [(0, true, .l (.ref 0 [] 5 0 xs.length)), (1, true, .l (.t (.int .i64 (markE k (sumTo nNode xs i))))), (5, true, .l (.t (.int .i64 i)))], box := [], row := [(0, ⟨.own, 5, enc eNode (upto (fNode k xs) xs i)⟩)], nxt := 1, sav := [([(0, true, .l (.ref 0 [] 5 0 xs.length))], a0)] }) (fun i => i ≤ xs.length) (fun i => xs.length - i) 0 ?_ ?_ ?_
  · exact Sub.of_to [0, 1, 5] 1 (by decide) (by simp [go_sem, upto_zero, sumTo_zero, markE_zero])
  · exact Nat.zero_le _
  rintro i hinv
  have hu := upto_len (fNode k xs) xs i hinv
  refine W_seqK fun K5 h5 => ?_
  refine W_seqK fun K6 h6 => ?_
  refine W_reg ?_
  simp [go_sem, ty3, ty4, ty23, ty103]
  repeat refine ⟨by first | omega | grind, ?_⟩
  refine h6 _ ?_
  clear h6 K6
  refine W_cond rfl (fun hb7 => ?_) fun hb7 => ?_
  · have hlt : i < xs.length := by simpa using hb7
    have hg := upto_get (fNode k xs) xs hlt
    have hg2 := upto_getE (fNode k xs) xs hlt (by omega)
    have hf : fNode k xs i = ⟨markE k (sumTo nNode xs i), (List.range xs[i].frames.length).map (fFrame (markE k (sumTo nNode xs i + 1)) xs[i].frames), (List.range xs[i].homes.length).map (fHome (markE k (sumTo nNode xs i + 1 + (xs[i].frames.map nFrame).sum)) xs[i].homes), (List.range xs[i].out.length).map (fSender (markE k (sumTo nNode xs i + 1 + (xs[i].frames.map nFrame).sum + (xs[i].homes.map nHome).sum)) xs[i].out), (List.range xs[i].in_.length).map (mReceiver (markE k (sumTo nNode xs i + 1 + (xs[i].frames.map nFrame).sum + (xs[i].homes.map nHome).sum + (xs[i].out.map nSender).sum)))⟩ := by rw [fNode_at hlt]; rfl
    have hS : sumTo nNode xs (i + 1) = sumTo nNode xs i + 1 + (xs[i].frames.map nFrame).sum + (xs[i].homes.map nHome).sum + (xs[i].out.map nSender).sum + xs[i].in_.length := by rw [sumTo_succ _ hlt]; have hn : nNode xs[i] = 1 + (xs[i].frames.map nFrame).sum + (xs[i].homes.map nHome).sum + (xs[i].out.map nSender).sum + xs[i].in_.length := rfl; first | rfl | (rw [hn]; omega) | omega
    clear hb7
    have hs := hq _ (List.getElem_mem hlt)
    unfold GNode.small at hs
    obtain ⟨q0, q1, q2, q3, q4, q5, q6⟩ := hs
    refine W_skip ?_
    repeat refine ⟨by first | omega | grind, ?_⟩
    refine h5 _ ?_
    clear h5 K5
    refine W_seqK fun K8 h8 => ?_
    refine W_block ?_
    refine W_seqK fun K9 h9 => ?_
    refine W_reg ?_
    simp [go_sem, ty3, ty23, ty103, hlt, hu, hg, hg2, markE_succ, markE_add, mB_def]
    repeat refine ⟨by first | omega | grind, ?_⟩
    refine h9 _ ?_
    clear h9 K9
    refine W_seqK fun K10 h10 => ?_
    refine W_reg ?_
    simp [go_sem, ty3, hlt, hu, hg, hg2, markE_succ, markE_add, mB_def]
    repeat refine ⟨by first | omega | grind, ?_⟩
    refine h10 _ ?_
    clear h10 K10
    refine W_seqK fun K11 h11 => ?_
    refine W_reg ?_
    simp [go_sem, ty3, ty23, ty98, ty103, ty210, hlt, hu, hg, hg2, markE_succ, markE_add, mB_def]
    refine callG_true (by simp) (CallW_mut (mc_laws_markFrameS xs[i].frames (markE k (sumTo nNode xs i + 1)) q0 q1) rfl rfl (by simp [go_sem, hlt, hu, hg, hg2, markE_succ, markE_add, mB_def]) (by simp [go_sem, hlt, hu, hg, hg2, markE_succ, markE_add, mB_def]) rfl ?_)
    simp [go_sem, ty3, hlt, hu, hg, hg2, markE_succ, markE_add, mB_def]
    repeat refine ⟨by first | omega | grind, ?_⟩
    refine h11 _ ?_
    clear h11 K11
    refine W_seqK fun K12 h12 => ?_
    refine W_reg ?_
    simp [go_sem, ty3, ty23, ty97, ty99, ty103, hlt, hu, hg, hg2, markE_succ, markE_add, mB_def]
    refine callG_true (by simp) (CallW_mut (mc_laws_markHomeS xs[i].homes (markE k (sumTo nNode xs i + 1 + (xs[i].frames.map nFrame).sum)) q2 q3) rfl rfl (by simp [go_sem, hlt, hu, hg, hg2, markE_succ, markE_add, mB_def]) (by simp [go_sem, hlt, hu, hg, hg2, markE_succ, markE_add, mB_def]) rfl ?_)
    simp [go_sem, ty3, hlt, hu, hg, hg2, markE_succ, markE_add, mB_def]
    repeat refine ⟨by first | omega | grind, ?_⟩
    refine h12 _ ?_
    clear h12 K12
    refine W_seqK fun K13 h13 => ?_
    refine W_reg ?_
    simp [go_sem, ty3, ty23, ty100, ty103, ty215, hlt, hu, hg, hg2, markE_succ, markE_add, mB_def]
    refine callG_true (by simp) (CallW_mut (mc_laws_markSenderS xs[i].out (markE k (sumTo nNode xs i + 1 + (xs[i].frames.map nFrame).sum + (xs[i].homes.map nHome).sum)) q4 q5) rfl rfl (by simp [go_sem, hlt, hu, hg, hg2, markE_succ, markE_add, mB_def]) (by simp [go_sem, hlt, hu, hg, hg2, markE_succ, markE_add, mB_def]) rfl ?_)
    simp [go_sem, ty3, hlt, hu, hg, hg2, markE_succ, markE_add, mB_def]
    repeat refine ⟨by first | omega | grind, ?_⟩
    refine h13 _ ?_
    clear h13 K13
    refine W_reg ?_
    simp [go_sem, ty3, ty23, ty101, ty103, ty218, hlt, hu, hg, hg2, markE_succ, markE_add, mB_def]
    refine callG_true (by simp) (CallW_mut (mc_laws_markReceiverS xs[i].in_ (markE k (sumTo nNode xs i + 1 + (xs[i].frames.map nFrame).sum + (xs[i].homes.map nHome).sum + (xs[i].out.map nSender).sum)) (by omega)) rfl rfl (by simp [go_sem, hlt, hu, hg, hg2, markE_succ, markE_add, mB_def]) (by simp [go_sem, hlt, hu, hg, hg2, markE_succ, markE_add, mB_def]) rfl ?_)
    simp [go_sem, ty3, hlt, hu, hg, hg2, markE_succ, markE_add, mB_def]
    repeat refine ⟨by first | omega | grind, ?_⟩
    refine h8 _ ?_
    clear h8 K8
    refine W_reg ?_
    simp [go_sem, ty3, hlt, hu, hg, hg2, markE_succ, markE_add, mB_def]
    refine ⟨i + 1, ?_, ?_, ?_⟩
    · exact Sub.of_to [0, 1, 5] 1 (by decide) (by simp [go_sem, wrap_succ (show i < 9223372036854775807 by omega), hS, markE_succ, markE_add, mB_def, upto_step hlt hf])
    · exact hlt
    · omega
  · obtain rfl : i = xs.length := by simp at hb7; omega
    clear hb7
    have hfu := upto_full (fNode k xs) xs
    refine W_exit ?_
    simp [go_sem]
    repeat refine ⟨by first | omega | grind, ?_⟩
    refine h2 _ ?_
    clear h5 K5 h2 K2
    refine W_seqK fun K14 h14 => ?_
    refine W_reg ?_
    simp [go_sem, ty3]
    repeat refine ⟨by first | omega | grind, ?_⟩
    refine h14 _ ?_
    clear h14 K14
    refine W_ret ?_
    simp [go_sem, hfu, hu, sumTo_full]

set_option maxRecDepth 100000 in
set_option maxHeartbeats 4000000 in
theorem pc_laws_heldNodeS (xs : List GNode) (k : Int) (hx : xs.length ≤ 1048576) (hq : ∀ a ∈ xs, a.small) (hp : ∀ m, m ≤ (xs.map nNode).sum → 0 ≤ markE k m) : PC Try.prog 130 [(false, [.sl 5 (enc eNode ((List.range xs.length).map (fNode k xs)))]), (false, [.int .i64 k])] [(false, [.int .i64 (markE k (xs.map nNode).sum)])] := by
  have hl : ((List.range xs.length).map (fNode k xs)).length = xs.length := by simp
  refine PC_of (n := 58) Try.func130 rfl rfl rfl rfl (by simp) ?_
  refine W_seqK fun K1 h1 => ?_
  refine W_reg ?_
  simp [go_sem, ty3]
  repeat refine ⟨by first | omega | grind, ?_⟩
  refine h1 _ ?_
  clear h1 K1
  refine W_seqK fun K2 h2 => ?_
  refine W_seqK fun K3 h3 => ?_
  refine W_reg ?_
  simp [go_sem, ty3]
  repeat refine ⟨by first | omega | grind, ?_⟩
  refine h3 _ ?_
  clear h3 K3
  refine W_block ?_
  refine W_loopI (α := Nat) (fun i => ({ env := [(0, true, .l (.ref 0 [] 5 0 (xs.length))), (1, true, .l (.t (.int .i64 (markE k (sumTo nNode xs i))))), (5, true, .l (.t (.int .i64 (i))))], box := [], row := [(0, ⟨.ro, 5, enc eNode ((List.range xs.length).map (fNode k xs))⟩)], nxt := 2, sav := [] } : St)) (fun i => i ≤ xs.length) (fun i => xs.length - i) 0 ?_ ?_ ?_
  · exact Sub.of_neat [0, 1, 5] [0] [] 2 (by decide) (by simp [go_sem, sumTo_zero, markE_zero])
  · exact Nat.zero_le _
  rintro i hinv
  refine W_seqK fun K5 h5 => ?_
  refine W_seqK fun K6 h6 => ?_
  refine W_reg ?_
  simp [go_sem, ty3, ty4, ty23, ty103]
  repeat refine ⟨by first | omega | grind, ?_⟩
  refine h6 _ ?_
  clear h6 K6
  refine W_cond rfl (fun hb7 => ?_) fun hb7 => ?_
  · have hlt : i < xs.length := by simpa using hb7
    have hf : fNode k xs i = ⟨markE k (sumTo nNode xs i), (List.range xs[i].frames.length).map (fFrame (markE k (sumTo nNode xs i + 1)) xs[i].frames), (List.range xs[i].homes.length).map (fHome (markE k (sumTo nNode xs i + 1 + (xs[i].frames.map nFrame).sum)) xs[i].homes), (List.range xs[i].out.length).map (fSender (markE k (sumTo nNode xs i + 1 + (xs[i].frames.map nFrame).sum + (xs[i].homes.map nHome).sum)) xs[i].out), (List.range xs[i].in_.length).map (mReceiver (markE k (sumTo nNode xs i + 1 + (xs[i].frames.map nFrame).sum + (xs[i].homes.map nHome).sum + (xs[i].out.map nSender).sum)))⟩ := by rw [fNode_at hlt]; rfl
    have hS : sumTo nNode xs (i + 1) = sumTo nNode xs i + 1 + (xs[i].frames.map nFrame).sum + (xs[i].homes.map nHome).sum + (xs[i].out.map nSender).sum + xs[i].in_.length := by rw [sumTo_succ _ hlt]; have hn : nNode xs[i] = 1 + (xs[i].frames.map nFrame).sum + (xs[i].homes.map nHome).sum + (xs[i].out.map nSender).sum + xs[i].in_.length := rfl; first | rfl | (rw [hn]; omega) | omega
    have hT : sumTo nNode xs (i + 1) ≤ (xs.map nNode).sum := by obtain ⟨m, hm⟩ := sumTo_rest nNode xs (i + 1); omega
    rw [hS] at hT
    clear hb7
    have hs := hq _ (List.getElem_mem hlt)
    unfold GNode.small at hs
    obtain ⟨q0, q1, q2, q3, q4, q5, q6⟩ := hs
    refine W_skip ?_
    repeat refine ⟨by first | omega | grind, ?_⟩
    refine h5 _ ?_
    clear h5 K5
    refine W_seqK fun K8 h8 => ?_
    refine W_block ?_
    refine W_seqK fun K9 h9 => ?_
    refine W_seqK fun K10 h10 => ?_
    refine W_reg ?_
    simp [go_sem, ty3, ty4, ty23, ty103, hlt, hl, hf, markE_succ, markE_add, mB_def]
    repeat refine ⟨by first | omega | grind, ?_⟩
    refine h10 _ ?_
    clear h10 K10
    refine W_cond rfl (fun hb11 => by first | (simp at hb11; done) | (simp at hb11; omega) | (simp at hb11; exact absurd hb11 (Int.not_lt.2 (hp _ (by omega))))) fun hb11 => ?_
    clear hb11
    refine W_skip ?_
    repeat refine ⟨by first | omega | grind, ?_⟩
    refine h9 _ ?_
    clear h9 K9
    refine W_seqK fun K12 h12 => ?_
    refine W_reg ?_
    simp [go_sem, ty3, hlt, hl, hf, markE_succ, markE_add, mB_def]
    repeat refine ⟨by first | omega | grind, ?_⟩
    refine h12 _ ?_
    clear h12 K12
    refine W_seqK fun K13 h13 => ?_
    refine W_reg ?_
    simp [go_sem, ty3, ty23, ty98, ty103, ty210, hlt, hl, hf, markE_succ, markE_add, mB_def]
    refine callG_pc (fun hG => pc_laws_heldFrameS xs[i].frames (markE k (sumTo nNode xs i + 1)) q0 q1 (fun m hm => by rw [markE_add]; exact hp _ (by omega))) (by first | (simp; done) | (simp [inR_iff]; done) | (simp [inR_iff]; grind) | grind) (fun hG => by simp [go_sem, hlt, hl, hf, markE_succ, markE_add, mB_def]) rfl rfl (by first | exact Or.inl rfl | exact Or.inr rfl) ?_
    simp [go_sem, ty3, hlt, hl, hf, markE_succ, markE_add, mB_def]
    repeat refine ⟨by first | omega | grind, ?_⟩
    refine h13 _ ?_
    clear h13 K13
    refine W_seqK fun K14 h14 => ?_
    refine W_seqK fun K15 h15 => ?_
    refine W_reg ?_
    simp [go_sem, ty3, ty4, hlt, hl, hf, markE_succ, markE_add, mB_def]
    repeat refine ⟨by first | omega | grind, ?_⟩
    refine h15 _ ?_
    clear h15 K15
    refine W_cond rfl (fun hb16 => by first | (simp at hb16; done) | (simp at hb16; omega) | (simp at hb16; exact absurd hb16 (Int.not_lt.2 (hp _ (by omega))))) fun hb16 => ?_
    clear hb16
    refine W_skip ?_
    repeat refine ⟨by first | omega | grind, ?_⟩
    refine h14 _ ?_
    clear h14 K14
    refine W_seqK fun K17 h17 => ?_
    refine W_reg ?_
    simp [go_sem, ty3, ty23, ty97, ty99, ty103, hlt, hl, hf, markE_succ, markE_add, mB_def]
    refine callG_pc (fun hG => pc_laws_heldHomeS xs[i].homes (markE k (sumTo nNode xs i + 1 + (xs[i].frames.map nFrame).sum)) q2 q3 (fun m hm => by rw [markE_add]; exact hp _ (by omega))) (by first | (simp; done) | (simp [inR_iff]; done) | (simp [inR_iff]; grind) | grind) (fun hG => by simp [go_sem, hlt, hl, hf, markE_succ, markE_add, mB_def]) rfl rfl (by first | exact Or.inl rfl | exact Or.inr rfl) ?_
    simp [go_sem, ty3, hlt, hl, hf, markE_succ, markE_add, mB_def]
    repeat refine ⟨by first | omega | grind, ?_⟩
    refine h17 _ ?_
    clear h17 K17
    refine W_seqK fun K18 h18 => ?_
    refine W_seqK fun K19 h19 => ?_
    refine W_reg ?_
    simp [go_sem, ty3, ty4, hlt, hl, hf, markE_succ, markE_add, mB_def]
    repeat refine ⟨by first | omega | grind, ?_⟩
    refine h19 _ ?_
    clear h19 K19
    refine W_cond rfl (fun hb20 => by first | (simp at hb20; done) | (simp at hb20; omega) | (simp at hb20; exact absurd hb20 (Int.not_lt.2 (hp _ (by omega))))) fun hb20 => ?_
    clear hb20
    refine W_skip ?_
    repeat refine ⟨by first | omega | grind, ?_⟩
    refine h18 _ ?_
    clear h18 K18
    refine W_seqK fun K21 h21 => ?_
    refine W_reg ?_
    simp [go_sem, ty3, ty23, ty100, ty103, ty215, hlt, hl, hf, markE_succ, markE_add, mB_def]
    refine callG_pc (fun hG => pc_laws_heldSenderS xs[i].out (markE k (sumTo nNode xs i + 1 + (xs[i].frames.map nFrame).sum + (xs[i].homes.map nHome).sum)) q4 q5 (fun m hm => by rw [markE_add]; exact hp _ (by omega))) (by first | (simp; done) | (simp [inR_iff]; done) | (simp [inR_iff]; grind) | grind) (fun hG => by simp [go_sem, hlt, hl, hf, markE_succ, markE_add, mB_def]) rfl rfl (by first | exact Or.inl rfl | exact Or.inr rfl) ?_
    simp [go_sem, ty3, hlt, hl, hf, markE_succ, markE_add, mB_def]
    repeat refine ⟨by first | omega | grind, ?_⟩
    refine h21 _ ?_
    clear h21 K21
    refine W_seqK fun K22 h22 => ?_
    refine W_seqK fun K23 h23 => ?_
    refine W_reg ?_
    simp [go_sem, ty3, ty4, hlt, hl, hf, markE_succ, markE_add, mB_def]
    repeat refine ⟨by first | omega | grind, ?_⟩
    refine h23 _ ?_
    clear h23 K23
    refine W_cond rfl (fun hb24 => by first | (simp at hb24; done) | (simp at hb24; omega) | (simp at hb24; exact absurd hb24 (Int.not_lt.2 (hp _ (by omega))))) fun hb24 => ?_
    clear hb24
    refine W_skip ?_
    repeat refine ⟨by first | omega | grind, ?_⟩
    refine h22 _ ?_
    clear h22 K22
    refine W_seqK fun K25 h25 => ?_
    refine W_reg ?_
    simp [go_sem, ty3, ty23, ty101, ty103, ty218, hlt, hl, hf, markE_succ, markE_add, mB_def]
    refine callG_pc (fun hG => pc_laws_heldReceiverS xs[i].in_.length (markE k (sumTo nNode xs i + 1 + (xs[i].frames.map nFrame).sum + (xs[i].homes.map nHome).sum + (xs[i].out.map nSender).sum)) (by omega)) (by first | (simp; done) | (simp [inR_iff]; done) | (simp [inR_iff]; grind) | grind) (fun hG => by simp [go_sem, hlt, hl, hf, markE_succ, markE_add, mB_def]) rfl rfl (by first | exact Or.inl rfl | exact Or.inr rfl) ?_
    simp [go_sem, ty3, hlt, hl, hf, markE_succ, markE_add, mB_def]
    repeat refine ⟨by first | omega | grind, ?_⟩
    refine h25 _ ?_
    clear h25 K25
    refine W_seqK fun K26 h26 => ?_
    refine W_reg ?_
    simp [go_sem, ty3, ty4, hlt, hl, hf, markE_succ, markE_add, mB_def]
    repeat refine ⟨by first | omega | grind, ?_⟩
    refine h26 _ ?_
    clear h26 K26
    refine W_cond rfl (fun hb27 => by first | (simp at hb27; done) | (simp at hb27; omega) | (simp at hb27; exact absurd hb27 (Int.not_lt.2 (hp _ (by omega))))) fun hb27 => ?_
    clear hb27
    refine W_skip ?_
    repeat refine ⟨by first | omega | grind, ?_⟩
    refine h8 _ ?_
    clear h8 K8
    refine W_reg ?_
    simp [go_sem, ty3, hlt, hl, hf, markE_succ, markE_add, mB_def]
    refine ⟨i + 1, ?_, ?_, ?_⟩
    · exact Sub.of_neat [0, 1, 5] [0] [] 2 (by decide) (by simp [go_sem, wrap_succ (show i < 9223372036854775807 by omega), hS, markE_succ, markE_add])
    · exact hlt
    · omega
  · obtain rfl : i = xs.length := by simp at hb7; omega
    clear hb7
    refine W_exit ?_
    simp [go_sem]
    repeat refine ⟨by first | omega | grind, ?_⟩
    refine h2 _ ?_
    clear h5 K5 h2 K2
    refine W_seqK fun K28 h28 => ?_
    refine W_reg ?_
    simp [go_sem, ty3]
    repeat refine ⟨by first | omega | grind, ?_⟩
    refine h28 _ ?_
    clear h28 K28
    refine W_ret ?_
    simp [go_sem, sumTo_full]

set_option maxRecDepth 100000 in
set_option maxHeartbeats 4000000 in
theorem mc_laws_markCoreS (xs : List GCore) (k : Int) (hx : xs.length ≤ 1048576) (hq : ∀ a ∈ xs, a.small) : MC1 Try.prog 68 4 (enc eCore xs) (enc eCore ((List.range xs.length).map (fCore k xs))) [.int .i64 k] [.int .i64 (markE k (xs.map nCore).sum)] := by
  refine MC1_of (n := 44) Try.func68 rfl rfl rfl rfl (by simp) fun a0 => ?_
  refine W_seqK fun K1 h1 => ?_
  refine W_reg ?_
  simp [go_sem, ty3]
  repeat refine ⟨by first | omega | grind, ?_⟩
  refine h1 _ ?_
  clear h1 K1
  refine W_seqK fun K2 h2 => ?_
  refine W_seqK fun K3 h3 => ?_
  refine W_reg ?_
  simp [go_sem, ty3]
  repeat refine ⟨by first | omega | grind, ?_⟩
  refine h3 _ ?_
  clear h3 K3
  refine W_block ?_
  refine W_loopI (α := Nat) (fun i => { env := [(0, true, .l (.ref 0 [] 4 0 xs.length)), (1, true, .l (.t (.int .i64 (markE k (sumTo nCore xs i))))), (5, true, .l (.t (.int .i64 i)))], box := [], row := [(0, ⟨.own, 4, enc eCore (upto (fCore k xs) xs i)⟩)], nxt := 1, sav := [([(0, true, .l (.ref 0 [] 4 0 xs.length))], a0)] }) (fun i => i ≤ xs.length) (fun i => xs.length - i) 0 ?_ ?_ ?_
  · exact Sub.of_to [0, 1, 5] 1 (by decide) (by simp [go_sem, upto_zero, sumTo_zero, markE_zero])
  · exact Nat.zero_le _
  rintro i hinv
  have hu := upto_len (fCore k xs) xs i hinv
  refine W_seqK fun K5 h5 => ?_
  refine W_seqK fun K6 h6 => ?_
  refine W_reg ?_
  simp [go_sem, ty3, ty4, ty27, ty107]
  repeat refine ⟨by first | omega | grind, ?_⟩
  refine h6 _ ?_
  clear h6 K6
  refine W_cond rfl (fun hb7 => ?_) fun hb7 => ?_
  · have hlt : i < xs.length := by simpa using hb7
    have hg := upto_get (fCore k xs) xs hlt
    have hg2 := upto_getE (fCore k xs) xs hlt (by omega)
    have hf : fCore k xs i = ⟨⟨marks (markE k (sumTo nCore xs i)) xs[i].hart.regs.length, markE k (sumTo nCore xs i + xs[i].hart.regs.length), markE k (sumTo nCore xs i + xs[i].hart.regs.length + 1)⟩, (List.range xs[i].cache.length).map (fBlock (markE k (sumTo nCore xs i + xs[i].hart.regs.length + 2)) xs[i].cache)⟩ := by rw [fCore_at hlt]; rfl
    have hS : sumTo nCore xs (i + 1) = sumTo nCore xs i + xs[i].hart.regs.length + 2 + (xs[i].cache.map nBlock).sum := by rw [sumTo_succ _ hlt]; have hn : nCore xs[i] = xs[i].hart.regs.length + 2 + (xs[i].cache.map nBlock).sum := rfl; first | rfl | (rw [hn]; omega) | omega
    clear hb7
    have hs := hq _ (List.getElem_mem hlt)
    unfold GCore.small GHart.small at hs
    try simp only [and_assoc] at hs
    obtain ⟨q0, q1, q2⟩ := hs
    refine W_skip ?_
    repeat refine ⟨by first | omega | grind, ?_⟩
    refine h5 _ ?_
    clear h5 K5
    refine W_seqK fun K8 h8 => ?_
    refine W_block ?_
    refine W_seqK fun K9 h9 => ?_
    refine W_reg ?_
    simp [go_sem, ty3, ty22, ty27, ty61, ty107, hlt, hu, hg, hg2, markE_succ, markE_add, mB_def]
    refine callG_true (by simp) (CallW_mut (mc_laws_markIntS xs[i].hart.regs (markE k (sumTo nCore xs i)) (by omega)) rfl rfl (by simp [go_sem, hlt, hu, hg, hg2, markE_succ, markE_add, mB_def]) (by simp [go_sem, hlt, hu, hg, hg2, markE_succ, markE_add, mB_def]) rfl ?_)
    simp [go_sem, ty3, hlt, hu, hg, hg2, markE_succ, markE_add, mB_def]
    repeat refine ⟨by first | omega | grind, ?_⟩
    refine h9 _ ?_
    clear h9 K9
    refine W_seqK fun K10 h10 => ?_
    refine W_reg ?_
    simp [go_sem, ty3, ty27, ty61, ty107, hlt, hu, hg, hg2, markE_succ, markE_add, mB_def]
    repeat refine ⟨by first | omega | grind, ?_⟩
    refine h10 _ ?_
    clear h10 K10
    refine W_seqK fun K11 h11 => ?_
    refine W_reg ?_
    simp [go_sem, ty3, hlt, hu, hg, hg2, markE_succ, markE_add, mB_def]
    repeat refine ⟨by first | omega | grind, ?_⟩
    refine h11 _ ?_
    clear h11 K11
    refine W_seqK fun K12 h12 => ?_
    refine W_reg ?_
    simp [go_sem, ty3, ty27, ty61, ty107, hlt, hu, hg, hg2, markE_succ, markE_add, mB_def]
    repeat refine ⟨by first | omega | grind, ?_⟩
    refine h12 _ ?_
    clear h12 K12
    refine W_seqK fun K13 h13 => ?_
    refine W_reg ?_
    simp [go_sem, ty3, hlt, hu, hg, hg2, markE_succ, markE_add, mB_def]
    repeat refine ⟨by first | omega | grind, ?_⟩
    refine h13 _ ?_
    clear h13 K13
    refine W_reg ?_
    simp [go_sem, ty3, ty27, ty105, ty107, ty198, hlt, hu, hg, hg2, markE_succ, markE_add, mB_def]
    refine callG_true (by simp) (CallW_mut (mc_laws_markBlockS xs[i].cache (markE k (sumTo nCore xs i + xs[i].hart.regs.length + 2)) q1 q2) rfl rfl (by simp [go_sem, hlt, hu, hg, hg2, markE_succ, markE_add, mB_def]) (by simp [go_sem, hlt, hu, hg, hg2, markE_succ, markE_add, mB_def]) rfl ?_)
    simp [go_sem, ty3, hlt, hu, hg, hg2, markE_succ, markE_add, mB_def]
    repeat refine ⟨by first | omega | grind, ?_⟩
    refine h8 _ ?_
    clear h8 K8
    refine W_reg ?_
    simp [go_sem, ty3, hlt, hu, hg, hg2, markE_succ, markE_add, mB_def]
    refine ⟨i + 1, ?_, ?_, ?_⟩
    · exact Sub.of_to [0, 1, 5] 1 (by decide) (by simp [go_sem, wrap_succ (show i < 9223372036854775807 by omega), hS, markE_succ, markE_add, mB_def, upto_step hlt hf])
    · exact hlt
    · omega
  · obtain rfl : i = xs.length := by simp at hb7; omega
    clear hb7
    have hfu := upto_full (fCore k xs) xs
    refine W_exit ?_
    simp [go_sem]
    repeat refine ⟨by first | omega | grind, ?_⟩
    refine h2 _ ?_
    clear h5 K5 h2 K2
    refine W_seqK fun K14 h14 => ?_
    refine W_reg ?_
    simp [go_sem, ty3]
    repeat refine ⟨by first | omega | grind, ?_⟩
    refine h14 _ ?_
    clear h14 K14
    refine W_ret ?_
    simp [go_sem, hfu, hu, sumTo_full]

set_option maxRecDepth 100000 in
set_option maxHeartbeats 4000000 in
theorem pc_laws_heldCoreS (xs : List GCore) (k : Int) (hx : xs.length ≤ 1048576) (hq : ∀ a ∈ xs, a.small) (hp : ∀ m, m ≤ (xs.map nCore).sum → 0 ≤ markE k m) : PC Try.prog 70 [(false, [.sl 4 (enc eCore ((List.range xs.length).map (fCore k xs)))]), (false, [.int .i64 k])] [(false, [.int .i64 (markE k (xs.map nCore).sum)])] := by
  have hl : ((List.range xs.length).map (fCore k xs)).length = xs.length := by simp
  refine PC_of (n := 52) Try.func70 rfl rfl rfl rfl (by simp) ?_
  refine W_seqK fun K1 h1 => ?_
  refine W_reg ?_
  simp [go_sem, ty3]
  repeat refine ⟨by first | omega | grind, ?_⟩
  refine h1 _ ?_
  clear h1 K1
  refine W_seqK fun K2 h2 => ?_
  refine W_seqK fun K3 h3 => ?_
  refine W_reg ?_
  simp [go_sem, ty3]
  repeat refine ⟨by first | omega | grind, ?_⟩
  refine h3 _ ?_
  clear h3 K3
  refine W_block ?_
  refine W_loopI (α := Nat) (fun i => ({ env := [(0, true, .l (.ref 0 [] 4 0 (xs.length))), (1, true, .l (.t (.int .i64 (markE k (sumTo nCore xs i))))), (5, true, .l (.t (.int .i64 (i))))], box := [], row := [(0, ⟨.ro, 4, enc eCore ((List.range xs.length).map (fCore k xs))⟩)], nxt := 2, sav := [] } : St)) (fun i => i ≤ xs.length) (fun i => xs.length - i) 0 ?_ ?_ ?_
  · exact Sub.of_neat [0, 1, 5] [0] [] 2 (by decide) (by simp [go_sem, sumTo_zero, markE_zero])
  · exact Nat.zero_le _
  rintro i hinv
  refine W_seqK fun K5 h5 => ?_
  refine W_seqK fun K6 h6 => ?_
  refine W_reg ?_
  simp [go_sem, ty3, ty4, ty27, ty107]
  repeat refine ⟨by first | omega | grind, ?_⟩
  refine h6 _ ?_
  clear h6 K6
  refine W_cond rfl (fun hb7 => ?_) fun hb7 => ?_
  · have hlt : i < xs.length := by simpa using hb7
    have hf : fCore k xs i = ⟨⟨marks (markE k (sumTo nCore xs i)) xs[i].hart.regs.length, markE k (sumTo nCore xs i + xs[i].hart.regs.length), markE k (sumTo nCore xs i + xs[i].hart.regs.length + 1)⟩, (List.range xs[i].cache.length).map (fBlock (markE k (sumTo nCore xs i + xs[i].hart.regs.length + 2)) xs[i].cache)⟩ := by rw [fCore_at hlt]; rfl
    have hS : sumTo nCore xs (i + 1) = sumTo nCore xs i + xs[i].hart.regs.length + 2 + (xs[i].cache.map nBlock).sum := by rw [sumTo_succ _ hlt]; have hn : nCore xs[i] = xs[i].hart.regs.length + 2 + (xs[i].cache.map nBlock).sum := rfl; first | rfl | (rw [hn]; omega) | omega
    have hT : sumTo nCore xs (i + 1) ≤ (xs.map nCore).sum := by obtain ⟨m, hm⟩ := sumTo_rest nCore xs (i + 1); omega
    rw [hS] at hT
    clear hb7
    have hs := hq _ (List.getElem_mem hlt)
    unfold GCore.small GHart.small at hs
    try simp only [and_assoc] at hs
    obtain ⟨q0, q1, q2⟩ := hs
    refine W_skip ?_
    repeat refine ⟨by first | omega | grind, ?_⟩
    refine h5 _ ?_
    clear h5 K5
    refine W_seqK fun K8 h8 => ?_
    refine W_block ?_
    refine W_seqK fun K9 h9 => ?_
    refine W_reg ?_
    simp [go_sem, ty3, ty22, ty27, ty61, ty107, hlt, hl, hf, markE_succ, markE_add, mB_def]
    refine callG_pc (fun hG => pc_laws_heldIntS xs[i].hart.regs.length (markE k (sumTo nCore xs i)) (by omega)) (by first | (simp; done) | (simp [inR_iff]; done) | (simp [inR_iff]; grind) | grind) (fun hG => by simp [go_sem, hlt, hl, hf, markE_succ, markE_add, mB_def]) rfl rfl (by first | exact Or.inl rfl | exact Or.inr rfl) ?_
    simp [go_sem, ty3, hlt, hl, hf, markE_succ, markE_add, mB_def]
    repeat refine ⟨by first | omega | grind, ?_⟩
    refine h9 _ ?_
    clear h9 K9
    refine W_seqK fun K10 h10 => ?_
    refine W_seqK fun K11 h11 => ?_
    refine W_reg ?_
    simp [go_sem, ty3, ty4, hlt, hl, hf, markE_succ, markE_add, mB_def]
    repeat refine ⟨by first | omega | grind, ?_⟩
    refine h11 _ ?_
    clear h11 K11
    refine W_cond rfl (fun hb12 => by first | (simp at hb12; done) | (simp at hb12; omega) | (simp at hb12; exact absurd hb12 (Int.not_lt.2 (hp _ (by omega))))) fun hb12 => ?_
    clear hb12
    refine W_skip ?_
    repeat refine ⟨by first | omega | grind, ?_⟩
    refine h10 _ ?_
    clear h10 K10
    refine W_seqK fun K13 h13 => ?_
    refine W_seqK fun K14 h14 => ?_
    refine W_reg ?_
    simp [go_sem, ty3, ty4, ty27, ty61, ty107, hlt, hl, hf, markE_succ, markE_add, mB_def]
    repeat refine ⟨by first | omega | grind, ?_⟩
    refine h14 _ ?_
    clear h14 K14
    refine W_cond rfl (fun hb15 => by first | (simp at hb15; done) | (simp at hb15; omega) | (simp at hb15; exact absurd hb15 (Int.not_lt.2 (hp _ (by omega))))) fun hb15 => ?_
    clear hb15
    refine W_skip ?_
    repeat refine ⟨by first | omega | grind, ?_⟩
    refine h13 _ ?_
    clear h13 K13
    refine W_seqK fun K16 h16 => ?_
    refine W_reg ?_
    simp [go_sem, ty3, hlt, hl, hf, markE_succ, markE_add, mB_def]
    repeat refine ⟨by first | omega | grind, ?_⟩
    refine h16 _ ?_
    clear h16 K16
    refine W_seqK fun K17 h17 => ?_
    refine W_seqK fun K18 h18 => ?_
    refine W_reg ?_
    simp [go_sem, ty3, ty4, ty27, ty61, ty107, hlt, hl, hf, markE_succ, markE_add, mB_def]
    repeat refine ⟨by first | omega | grind, ?_⟩
    refine h18 _ ?_
    clear h18 K18
    refine W_cond rfl (fun hb19 => by first | (simp at hb19; done) | (simp at hb19; omega) | (simp at hb19; exact absurd hb19 (Int.not_lt.2 (hp _ (by omega))))) fun hb19 => ?_
    clear hb19
    refine W_skip ?_
    repeat refine ⟨by first | omega | grind, ?_⟩
    refine h17 _ ?_
    clear h17 K17
    refine W_seqK fun K20 h20 => ?_
    refine W_reg ?_
    simp [go_sem, ty3, hlt, hl, hf, markE_succ, markE_add, mB_def]
    repeat refine ⟨by first | omega | grind, ?_⟩
    refine h20 _ ?_
    clear h20 K20
    refine W_seqK fun K21 h21 => ?_
    refine W_reg ?_
    simp [go_sem, ty3, ty27, ty105, ty107, ty198, hlt, hl, hf, markE_succ, markE_add, mB_def]
    refine callG_pc (fun hG => pc_laws_heldBlockS xs[i].cache (markE k (sumTo nCore xs i + xs[i].hart.regs.length + 2)) q1 q2 (fun m hm => by rw [markE_add]; exact hp _ (by omega))) (by first | (simp; done) | (simp [inR_iff]; done) | (simp [inR_iff]; grind) | grind) (fun hG => by simp [go_sem, hlt, hl, hf, markE_succ, markE_add, mB_def]) rfl rfl (by first | exact Or.inl rfl | exact Or.inr rfl) ?_
    simp [go_sem, ty3, hlt, hl, hf, markE_succ, markE_add, mB_def]
    repeat refine ⟨by first | omega | grind, ?_⟩
    refine h21 _ ?_
    clear h21 K21
    refine W_seqK fun K22 h22 => ?_
    refine W_reg ?_
    simp [go_sem, ty3, ty4, hlt, hl, hf, markE_succ, markE_add, mB_def]
    repeat refine ⟨by first | omega | grind, ?_⟩
    refine h22 _ ?_
    clear h22 K22
    refine W_cond rfl (fun hb23 => by first | (simp at hb23; done) | (simp at hb23; omega) | (simp at hb23; exact absurd hb23 (Int.not_lt.2 (hp _ (by omega))))) fun hb23 => ?_
    clear hb23
    refine W_skip ?_
    repeat refine ⟨by first | omega | grind, ?_⟩
    refine h8 _ ?_
    clear h8 K8
    refine W_reg ?_
    simp [go_sem, ty3, hlt, hl, hf, markE_succ, markE_add, mB_def]
    refine ⟨i + 1, ?_, ?_, ?_⟩
    · exact Sub.of_neat [0, 1, 5] [0] [] 2 (by decide) (by simp [go_sem, wrap_succ (show i < 9223372036854775807 by omega), hS, markE_succ, markE_add])
    · exact hlt
    · omega
  · obtain rfl : i = xs.length := by simp at hb7; omega
    clear hb7
    refine W_exit ?_
    simp [go_sem]
    repeat refine ⟨by first | omega | grind, ?_⟩
    refine h2 _ ?_
    clear h5 K5 h2 K2
    refine W_seqK fun K24 h24 => ?_
    refine W_reg ?_
    simp [go_sem, ty3]
    repeat refine ⟨by first | omega | grind, ?_⟩
    refine h24 _ ?_
    clear h24 K24
    refine W_ret ?_
    simp [go_sem, sumTo_full]
end Go.Tw
