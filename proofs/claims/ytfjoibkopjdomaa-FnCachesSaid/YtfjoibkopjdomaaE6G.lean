/- Walks of functions: spec.BlockOf -/
import Derived.Test.YtfjoibkopjdomaaE6D
import Derived.Test.YtfjoibkopjdomaaE6m
import Derived.Test.YtfjoibkopjdomaaE6g2
set_option linter.unusedSimpArgs false
set_option linter.unusedVariables false
set_option linter.unnecessarySimpa false
namespace Go.Tw
open Go.Proofs

set_option maxRecDepth 100000 in
set_option maxHeartbeats 4000000 in
theorem pc_spec_BlockOf (ws : List Int) (s : Int) (hx : ws.length ≤ 1048576) : PC Try.prog 129 [(false, [.sl 1 (enc eI ws)]), (false, [.int .i64 s])] [(true, eBlock (blockOf ws s))] := by
  refine PC_of (n := 44) Try.func129 rfl rfl rfl rfl (by simp) ?_
  refine W_seqK fun K1 h1 => ?_
  refine W_reg ?_
  simp [go_sem, ty62]
  first | refine h1 _ ?_ | refine ⟨by omega, h1 _ ?_⟩ | refine ⟨by omega, by omega, h1 _ ?_⟩ | (repeat (refine ⟨by first | omega | grind, ?_⟩)); refine h1 _ ?_
  clear h1 K1
  refine W_seqK fun K2 h2 => ?_
  refine W_seqK fun K3 h3 => ?_
  refine W_reg ?_
  simp [go_sem, ty3, ty4, ty24]
  refine callG_pc (fun hG => pc_spec_l1In s 0 23) (by first | (simp; done) | (simp [inR_iff]; done) | (simp [inR_iff]; grind) | grind) (fun hG => by simp [go_sem]) rfl rfl (by first | exact Or.inl rfl | exact Or.inr rfl) ?_
  simp [go_sem, ty4]
  first | refine h3 _ ?_ | refine ⟨by omega, h3 _ ?_⟩ | refine ⟨by omega, by omega, h3 _ ?_⟩ | (repeat (refine ⟨by first | omega | grind, ?_⟩)); refine h3 _ ?_
  clear h3 K3
  refine W_cond rfl (fun hb4 => ?_) fun hb4 => ?_
  · have q : blockOf ws s = ⟨0, []⟩ := if_neg (by simp [inR] at hb4; omega)
    clear hb4
    refine W_seqK fun K5 h5 => ?_
    refine W_reg ?_
    simp [go_sem, ty62, fw62]
    first | refine h5 _ ?_ | refine ⟨by omega, h5 _ ?_⟩ | refine ⟨by omega, by omega, h5 _ ?_⟩ | (repeat (refine ⟨by first | omega | grind, ?_⟩)); refine h5 _ ?_
    clear h5 K5
    refine W_ret ?_
    simp [go_sem, ty62, q]
  · have hc : ws.length = 4 ∧ 0 ≤ s ∧ s ≤ 23 := by simp [inR] at hb4; omega
    obtain ⟨hc4, hc0, hc1⟩ := hc
    clear hb4
    have hrem : s.tmod 4 = (((s % 4).toNat : Nat) : Int) := by rw [tmod_pos hc0]; omega
    obtain ⟨d, hd⟩ : ∃ d, d = (s % 4).toNat := ⟨_, rfl⟩
    have hd4 : d < 4 := by omega
    rw [← hd] at hrem
    refine W_skip ?_
    first | refine h2 _ ?_ | refine ⟨by omega, h2 _ ?_⟩ | refine ⟨by omega, by omega, h2 _ ?_⟩ | (repeat (refine ⟨by first | omega | grind, ?_⟩)); refine h2 _ ?_
    clear h2 K2
    refine W_seqK fun K6 h6 => ?_
    refine W_reg ?_
    simp [go_sem, ty3, ty62, fw62]
    first | refine h6 _ ?_ | refine ⟨by omega, h6 _ ?_⟩ | refine ⟨by omega, by omega, h6 _ ?_⟩ | (repeat (refine ⟨by first | omega | grind, ?_⟩)); refine h6 _ ?_
    clear h6 K6
    refine W_seqK fun K7 h7 => ?_
    refine W_seqK fun K8 h8 => ?_
    refine W_reg ?_
    simp [go_sem, ty3]
    first | refine h8 _ ?_ | refine ⟨by omega, h8 _ ?_⟩ | refine ⟨by omega, by omega, h8 _ ?_⟩ | (repeat (refine ⟨by first | omega | grind, ?_⟩)); refine h8 _ ?_
    clear h8 K8
    refine W_block ?_
    refine W_loopI (α := Nat × List GIns) (fun p => ({ env := [(0, true, .l (.ref 0 [] 1 0 (ws.length))), (4, true, .l (.ptr 2 0)), (5, true, .l (.ptr 4 0)), (6, true, .l (.t (.int .i64 (p.1))))], box := [(4, [.t (.int .i64 s), .ref 40 [] 5 0 p.2.length]), (2, [.t (.int .i64 0), .nil])], row := [(40, ⟨.own, 5, enc eIns p.2⟩), (0, ⟨.ro, 1, enc eI ws⟩)], nxt := 41, sav := [] } : St)) (fun p => p.1 ≤ 4 ∧ blk (ws.drop d) = p.2 ++ blk (ws.drop p.1) ∧ p.2.length ≤ p.1) (fun p => 4 - p.1) (d, []) ?_ ?_ ?_
    · exact (Sub.nilBox (k := 4) (j := 1) (nm := 40) (z := 5) (by rfl) (by rfl) (by rfl)).trans (Sub.of_tidy [0, 4, 5, 6] [40, 0] [4, 2] 41 (by decide) (by simp [go_sem, hrem]))
    · exact ⟨by omega, by simp, by simp⟩
    rintro p hinv
    obtain ⟨hi, hb, hl⟩ := hinv
    refine W_seqK fun K10 h10 => ?_
    refine W_seqK fun K11 h11 => ?_
    refine W_reg ?_
    simp [go_sem, ty3, ty4]
    first | refine h11 _ ?_ | refine ⟨by omega, h11 _ ?_⟩ | refine ⟨by omega, by omega, h11 _ ?_⟩ | (repeat (refine ⟨by first | omega | grind, ?_⟩)); refine h11 _ ?_
    clear h11 K11
    refine W_cond rfl (fun hb12 => ?_) fun hb12 => ?_
    · have hlt : p.1 < 4 := by simp at hb12; omega
      have hlw : p.1 < ws.length := by omega
      clear hb12
      refine W_skip ?_
      first | refine h10 _ ?_ | refine ⟨by omega, h10 _ ?_⟩ | refine ⟨by omega, by omega, h10 _ ?_⟩ | (repeat (refine ⟨by first | omega | grind, ?_⟩)); refine h10 _ ?_
      clear h10 K10
      refine W_seqK fun K13 h13 => ?_
      refine W_block ?_
      refine W_seqK fun K14 h14 => ?_
      refine W_reg ?_
      simp [go_sem, ty3, ty24, hlw]
      refine callG_pc (fun hG => pc_spec_Decode ws[p.1]) (by first | (simp; done) | (simp [inR_iff]; done) | (simp [inR_iff]; grind) | grind) (fun hG => by simp [go_sem]) rfl rfl (by first | exact Or.inl rfl | exact Or.inr rfl) ?_
      simp [go_sem, ty4, ty69, hlw]
      first | refine h14 _ ?_ | refine ⟨by omega, h14 _ ?_⟩ | refine ⟨by omega, by omega, h14 _ ?_⟩ | (repeat (refine ⟨by first | omega | grind, ?_⟩)); refine h14 _ ?_
      clear h14 K14
      refine W_seqK fun K15 h15 => ?_
      refine W_reg ?_
      simp [go_sem, ty60, ty62, ty69, hlw]
      first | refine h15 _ ?_ | refine ⟨by omega, h15 _ ?_⟩ | refine ⟨by omega, by omega, h15 _ ?_⟩ | (repeat (refine ⟨by first | omega | grind, ?_⟩)); refine h15 _ ?_
      clear h15 K15
      refine W_seqK fun K16 h16 => ?_
      refine W_reg ?_
      simp [go_sem, ty4, ty69, hlw]
      refine callG_pc (fun hG => pc_spec_Ends (decode ws[p.1])) (by first | (simp; done) | (simp [inR_iff]; done) | (simp [inR_iff]; grind) | grind) (fun hG => by simp [go_sem]) rfl rfl (by first | exact Or.inl rfl | exact Or.inr rfl) ?_
      simp [go_sem, hlw]
      first | refine h16 _ ?_ | refine ⟨by omega, h16 _ ?_⟩ | refine ⟨by omega, by omega, h16 _ ?_⟩ | (repeat (refine ⟨by first | omega | grind, ?_⟩)); refine h16 _ ?_
      clear h16 K16
      refine W_cond rfl (fun hb17 => ?_) fun hb17 => ?_
      · have he : ends (decode ws[p.1]) = true := by simpa [hlw] using hb17
        have q : blockOf ws s = ⟨s, p.2 ++ [decode ws[p.1]]⟩ := by unfold blockOf; rw [if_pos ⟨hc4, hc0, hc1⟩, ← hd, blk_end hb hlw he]
        refine W_seqK fun K18 h18 => ?_
        refine W_reg ?_
        simp [go_sem, ty62]
        first | refine h18 _ ?_ | refine ⟨by omega, h18 _ ?_⟩ | refine ⟨by omega, by omega, h18 _ ?_⟩ | (repeat (refine ⟨by first | omega | grind, ?_⟩)); refine h18 _ ?_
        clear h18 K18
        refine W_ret ?_
        simp [go_sem, ty62, q]
      · have he : ends (decode ws[p.1]) = false := by simpa [hlw] using hb17
        clear hb17
        refine W_skip ?_
        first | refine h13 _ ?_ | refine ⟨by omega, h13 _ ?_⟩ | refine ⟨by omega, by omega, h13 _ ?_⟩ | (repeat (refine ⟨by first | omega | grind, ?_⟩)); refine h13 _ ?_
        clear h13 K13
        refine W_reg ?_
        simp [go_sem, ty3]
        refine ⟨p.1 + 1, p.2 ++ [decode ws[p.1]], ?_, ?_, ?_⟩
        · exact (Sub.swp_row 50 40 rfl).trans (Sub.of_tidy [0, 4, 5, 6] [40, 0] [4, 2] 41 (by decide) (by simp [go_sem, wrap_succ (show p.1 < 9223372036854775807 by omega)]))
        · exact ⟨by simp; omega, blk_more hb hlw he, by simp; omega⟩
        · first | omega | (simp; omega)
    · have h4 : ws.length ≤ p.1 := by simp at hb12; omega
      clear hb12
      have q : blockOf ws s = ⟨s, p.2⟩ := by unfold blockOf; rw [if_pos ⟨hc4, hc0, hc1⟩, ← hd, blk_done hb h4]
      refine W_exit ?_
      simp [go_sem]
      first | refine h7 _ ?_ | refine ⟨by omega, h7 _ ?_⟩ | refine ⟨by omega, by omega, h7 _ ?_⟩ | (repeat (refine ⟨by first | omega | grind, ?_⟩)); refine h7 _ ?_
      clear h10 K10 h7 K7
      refine W_seqK fun K19 h19 => ?_
      refine W_reg ?_
      simp [go_sem, ty62]
      first | refine h19 _ ?_ | refine ⟨by omega, h19 _ ?_⟩ | refine ⟨by omega, by omega, h19 _ ?_⟩ | (repeat (refine ⟨by first | omega | grind, ?_⟩)); refine h19 _ ?_
      clear h19 K19
      refine W_ret ?_
      simp [go_sem, ty62, q]
end Go.Tw
