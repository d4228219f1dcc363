/- Walks of functions: impl.WorldOk -/
import Derived.Test.YtafocmjoejchbaaGreatZr
import Derived.Test.YtafocmjoejchbaaGreatZt
set_option linter.unusedSimpArgs false
set_option linter.unusedVariables false
set_option linter.unnecessarySimpa false
namespace Go.Tw
open Go.Proofs

set_option maxRecDepth 100000 in
set_option maxHeartbeats 4000000 in
theorem pc_impl_WorldOk (w : GWorld) (hs : w.small) : PC Tryz.prog 104 [(true, eWorld w)] [(false, [.bool (worldOk w)])] := by
  have hs1 := hs
  unfold GWorld.small at hs1
  refine PC_of (n := 48) Tryz.func104 rfl rfl rfl rfl (by simp) ?_
  refine W_seqK fun K1 h1 => ?_
  refine W_reg ?_
  simp [go_sem, ty4, ty61]
  first | refine h1 _ ?_ | refine ⟨by omega, h1 _ ?_⟩ | refine ⟨by omega, by omega, h1 _ ?_⟩ | (repeat (refine ⟨by first | omega | grind, ?_⟩)); refine h1 _ ?_
  clear h1 K1
  refine W_seqK fun K2 h2 => ?_
  refine W_seqK fun K3 h3 => ?_
  refine W_reg ?_
  simp [go_sem, ty3, ty4, ty61]
  refine callG_pc (fun hG => pc_impl_from w.size 1 4) (by first | (simp; done) | (simp [inR_iff]; done) | (simp [inR_iff]; grind) | grind) (fun hG => by simp [go_sem]) rfl rfl (by first | exact Or.inl rfl | exact Or.inr rfl) ?_
  simp [go_sem, ty3, ty4, ty47, ty58, ty59, ty61, ty167]
  first | refine h3 _ ?_ | refine ⟨by omega, h3 _ ?_⟩ | refine ⟨by omega, by omega, h3 _ ?_⟩ | (repeat (refine ⟨by first | omega | grind, ?_⟩)); refine h3 _ ?_
  clear h3 K3
  refine W_cond rfl (fun hb4 => ?_) fun hb4 => ?_
  · have q : worldOk w = false := worldOk_hd (by unfold worldHd; simp at hb4 ⊢; grind)
    clear hb4
    refine W_seqK fun K5 h5 => ?_
    refine W_reg ?_
    simp [go_sem, ty4]
    first | refine h5 _ ?_ | refine ⟨by omega, h5 _ ?_⟩ | refine ⟨by omega, by omega, h5 _ ?_⟩ | (repeat (refine ⟨by first | omega | grind, ?_⟩)); refine h5 _ ?_
    clear h5 K5
    refine W_ret ?_
    simp [go_sem, q]
  · have hd : worldHd w = true := by unfold worldHd; simp at hb4 ⊢; grind
    obtain ⟨⟨n1, n2⟩, n3, n4⟩ := worldHd_facts hd
    clear hb4
    refine W_skip ?_
    first | refine h2 _ ?_ | refine ⟨by omega, h2 _ ?_⟩ | refine ⟨by omega, by omega, h2 _ ?_⟩ | (repeat (refine ⟨by first | omega | grind, ?_⟩)); refine h2 _ ?_
    clear h2 K2
    refine W_seqK fun K6 h6 => ?_
    refine W_seqK fun K7 h7 => ?_
    refine W_reg ?_
    simp [go_sem, ty3, ty47, ty58, ty61]
    first | refine h7 _ ?_ | refine ⟨by omega, h7 _ ?_⟩ | refine ⟨by omega, by omega, h7 _ ?_⟩ | (repeat (refine ⟨by first | omega | grind, ?_⟩)); refine h7 _ ?_
    clear h7 K7
    refine W_block ?_
    refine W_loopI (α := Nat) (fun i => ({ env := [(1, true, .l (.ptr 3 0)), (24, true, .l (.ref 1 [] 5 0 (w.nodes.length))), (25, true, .l (.t (.int .i64 (w.nodes.length)))), (26, true, .l (.t (.int .i64 (i))))], box := [(3, [.t (.int .i64 w.size), .ref 1 [] 5 0 w.nodes.length, .ref 2 [] 8 0 w.net.length])], row := [(1, ⟨.ro, 5, enc eNode w.nodes⟩), (2, ⟨.ro, 8, enc ePacket w.net⟩)], nxt := 20, sav := [] } : St)) (fun i => i ≤ w.nodes.length ∧ ∀ j, (hj : j < w.nodes.length) → j < i → nodeAt w.size j w.nodes[j] = true) (fun i => w.nodes.length - i) 0 ?_ ?_ ?_
    · exact Sub.of_neat [1, 24, 25, 26] [1, 2] [3] 20 (by decide) (by simp [go_sem])
    · simp
    rintro i hinv
    obtain ⟨hi, hall⟩ := hinv
    refine W_seqK fun K9 h9 => ?_
    refine W_reg ?_
    simp [go_sem, ty3]
    first | refine h9 _ ?_ | refine ⟨by omega, h9 _ ?_⟩ | refine ⟨by omega, by omega, h9 _ ?_⟩ | (repeat (refine ⟨by first | omega | grind, ?_⟩)); refine h9 _ ?_
    clear h9 K9
    refine W_seqK fun K10 h10 => ?_
    refine W_cond rfl (fun hb11 => ?_) fun hb11 => ?_
    · have hl : i < w.nodes.length := by simpa using hb11
      have hns := hs1.2.1 _ (List.getElem_mem hl)
      clear hb11
      refine W_skip ?_
      first | refine h10 _ ?_ | refine ⟨by omega, h10 _ ?_⟩ | refine ⟨by omega, by omega, h10 _ ?_⟩ | (repeat (refine ⟨by first | omega | grind, ?_⟩)); refine h10 _ ?_
      clear h10 K10
      refine W_seqK fun K12 h12 => ?_
      refine W_block ?_
      refine W_seqK fun K13 h13 => ?_
      refine W_reg ?_
      simp [go_sem, ty3, ty47, ty58, hl]
      first | refine h13 _ ?_ | refine ⟨by omega, h13 _ ?_⟩ | refine ⟨by omega, by omega, h13 _ ?_⟩ | (repeat (refine ⟨by first | omega | grind, ?_⟩)); refine h13 _ ?_
      clear h13 K13
      refine W_seqK fun K14 h14 => ?_
      refine W_reg ?_
      simp [go_sem, ty3, ty4, ty47, ty61, hl]
      refine callG_pc (fun hG => pc_impl_NodeOk w.nodes[i] w.size hns) (by first | (simp; done) | (simp [inR_iff]; done) | (simp [inR_iff]; grind) | grind) (fun hG => by simp [go_sem, hl, hl]) rfl rfl (by first | exact Or.inl rfl | exact Or.inr rfl) ?_
      simp [go_sem, ty3, ty4, ty47, hl]
      first | refine h14 _ ?_ | refine ⟨by omega, h14 _ ?_⟩ | refine ⟨by omega, by omega, h14 _ ?_⟩ | (repeat (refine ⟨by first | omega | grind, ?_⟩)); refine h14 _ ?_
      clear h14 K14
      refine W_cond rfl (fun hb15 => ?_) fun hb15 => ?_
      · have q : worldOk w = false := worldOk_bad hl (by unfold nodeAt; simp [hl] at hb15 ⊢; grind)
        refine W_seqK fun K16 h16 => ?_
        refine W_reg ?_
        simp [go_sem, ty4, hl]
        first | refine h16 _ ?_ | refine ⟨by omega, h16 _ ?_⟩ | refine ⟨by omega, by omega, h16 _ ?_⟩ | (repeat (refine ⟨by first | omega | grind, ?_⟩)); refine h16 _ ?_
        clear h16 K16
        refine W_ret ?_
        simp [go_sem, q]
      · have hok : nodeAt w.size i w.nodes[i] = true := by unfold nodeAt; simp [hl] at hb15 ⊢; grind
        clear hb15
        refine W_skip ?_
        first | refine h12 _ ?_ | refine ⟨by omega, h12 _ ?_⟩ | refine ⟨by omega, by omega, h12 _ ?_⟩ | (repeat (refine ⟨by first | omega | grind, ?_⟩)); refine h12 _ ?_
        clear h12 K12
        refine W_reg ?_
        simp [go_sem, ty3, hl]
        refine ⟨i + 1, ?_, ?_, ?_⟩
        · exact Sub.of_neat [1, 24, 25, 26] [1, 2] [3] 20 (by decide) (by simp [go_sem, wrap_succ (show i < 9223372036854775807 by omega)])
        · exact ⟨hl, fun j hj hji => by rcases Nat.lt_succ_iff_lt_or_eq.1 hji with h | rfl; exact hall j hj h; exact hok⟩
        · omega
    · obtain rfl : i = w.nodes.length := by simp at hb11; omega
      have hna : nodesAt w = true := nodesAt_good fun j hj => hall j hj hj
      clear hb11
      refine W_exit ?_
      simp [go_sem]
      first | refine h6 _ ?_ | refine ⟨by omega, h6 _ ?_⟩ | refine ⟨by omega, by omega, h6 _ ?_⟩ | (repeat (refine ⟨by first | omega | grind, ?_⟩)); refine h6 _ ?_
      clear h10 K10 h6 K6
      refine W_seqK fun K17 h17 => ?_
      refine W_reg ?_
      simp [go_sem, ty4, ty59, ty61, ty167]
      refine callG_quiet (fun hG => q_ContainsFunc_Packet (pr := fun p => !(packetOk p w.size))  rfl (by omega) (by exact ⟨⟨_, rfl, by simp [go_sem]⟩, trivial⟩) rfl (fun x hx => pcb_impl_WorldOk_1 x w (by have h9 := hs1.2.2.2 _ hx; unfold GPacket.small GMsg.small at h9; omega))) (by first | (simp; done) | (simp [inR_iff]; done) | (simp [inR_iff]; grind) | grind) ?_
      simp [go_sem, ty4]
      first | refine h17 _ ?_ | refine ⟨by omega, h17 _ ?_⟩ | refine ⟨by omega, by omega, h17 _ ?_⟩ | (repeat (refine ⟨by first | omega | grind, ?_⟩)); refine h17 _ ?_
      clear h17 K17
      refine W_ret ?_
      rw [worldOk_rest hd hna]
      simp [go_sem, all_not_any]
      first | done | grind
end Go.Tw
