/- Walks of functions: spec.FlatRun -/
import Derived.Test.YtfjoibkopjdomaaE6n
set_option linter.unusedSimpArgs false
set_option linter.unusedVariables false
set_option linter.unnecessarySimpa false
namespace Go.Tw
open Go.Proofs

set_option maxRecDepth 100000 in
set_option maxHeartbeats 4000000 in
theorem pc_spec_FlatRun (mem : List Int) (hs : List GHart) (order : List Int) (hm : mem.length ≤ 1048576) (hh : hs.length ≤ 1048576) (hq : ∀ a ∈ hs, a.regs.length ≤ 1048576) (ho : order.length ≤ 1048576) : PC Try.prog 21 [(false, [.sl 1 (enc eI mem)]), (false, [.sl 3 (enc eHart hs)]), (false, [.sl 1 (enc eI order)])] [(false, [.sl 1 (enc eI (runM mem hs order))]), (false, [.sl 3 (enc eHart (runH mem hs order))])] := by
  refine PC_of (n := 69) Try.func21 rfl rfl rfl rfl (by simp) ?_
  refine W_seqK fun K1 h1 => ?_
  refine W_reg ?_
  simp [go_sem, ty3, ty24, ty26, ty33]
  first | refine h1 _ ?_ | refine ⟨by omega, h1 _ ?_⟩ | refine ⟨by omega, by omega, h1 _ ?_⟩ | (repeat (refine ⟨by first | omega | grind, ?_⟩)); refine h1 _ ?_
  clear h1 K1
  refine W_seqK fun K2 h2 => ?_
  refine W_reg ?_
  simp [go_sem, ty3, ty24]
  first | refine h2 _ ?_ | refine ⟨by omega, h2 _ ?_⟩ | refine ⟨by omega, by omega, h2 _ ?_⟩ | (repeat (refine ⟨by first | omega | grind, ?_⟩)); refine h2 _ ?_
  clear h2 K2
  refine W_seqK fun K3 h3 => ?_
  refine W_reg ?_
  simp [go_sem, ty26, ty33]
  first | refine h3 _ ?_ | refine ⟨by omega, h3 _ ?_⟩ | refine ⟨by omega, by omega, h3 _ ?_⟩ | (repeat (refine ⟨by first | omega | grind, ?_⟩)); refine h3 _ ?_
  clear h3 K3
  refine W_seqK fun K4 h4 => ?_
  refine W_seqK fun K5 h5 => ?_
  refine W_reg ?_
  simp [go_sem, ty3]
  first | refine h5 _ ?_ | refine ⟨by omega, h5 _ ?_⟩ | refine ⟨by omega, by omega, h5 _ ?_⟩ | (repeat (refine ⟨by first | omega | grind, ?_⟩)); refine h5 _ ?_
  clear h5 K5
  refine W_block ?_
  refine W_loopI (α := Nat) (fun i => ({ env := [(1, true, .l (.ref 1 [] 3 0 (hs).length)), (2, true, .l (.ref 2 [] 1 0 (order).length)), (8, true, .l (.ref 4 [] 1 0 (mem).length)), (9, true, .l (.ref 41 [] 3 0 ((hs.take i).length))), (10, true, .l (.t (.int .i64 (i))))], box := [], row := [(1, ⟨.ro, 3, enc eHart hs⟩), (2, ⟨.ro, 1, enc eI order⟩), (4, ⟨.own, 1, enc eI mem⟩), (41, ⟨.own, 3, enc eHart (hs.take i)⟩)], nxt := 61, sav := [] } : St)) (fun i => i ≤ hs.length) (fun i => hs.length - i) 0 ?_ ?_ ?_
  · exact (Sub.nilRow (t := 9) (nm := 41) (z := 3) (by rfl) (by rfl)).trans (Sub.of_neat [1, 2, 8, 9, 10] [1, 2, 4, 41] [] 61 (by decide) (by simp [go_sem]))
  · exact Nat.zero_le _
  rintro i hinv
  refine W_seqK fun K7 h7 => ?_
  refine W_seqK fun K8 h8 => ?_
  refine W_reg ?_
  simp [go_sem, ty3, ty4, ty26, ty33]
  first | refine h8 _ ?_ | refine ⟨by omega, h8 _ ?_⟩ | refine ⟨by omega, by omega, h8 _ ?_⟩ | (repeat (refine ⟨by first | omega | grind, ?_⟩)); refine h8 _ ?_
  clear h8 K8
  refine W_cond rfl (fun hb9 => ?_) fun hb9 => ?_
  · have hlt : i < hs.length := by simpa using hb9
    have hmin : min i hs.length = i := by omega
    have hmin2 : min (i + 1) hs.length = i + 1 := by omega
    have htk := List.take_append_getElem hlt
    clear hb9
    refine W_skip ?_
    first | refine h7 _ ?_ | refine ⟨by omega, h7 _ ?_⟩ | refine ⟨by omega, by omega, h7 _ ?_⟩ | (repeat (refine ⟨by first | omega | grind, ?_⟩)); refine h7 _ ?_
    clear h7 K7
    refine W_seqK fun K10 h10 => ?_
    refine W_block ?_
    refine W_reg ?_
    simp [go_sem, ty3, ty26, ty33, hlt, hmin]
    refine callG_pc (fun hG => pc_spec_l9Copy hs[i] (by have := hq _ (List.getElem_mem hlt); omega)) (by first | (simp; done) | (simp [inR_iff]; done) | (simp [inR_iff]; grind) | grind) (fun hG => by simp [go_sem, hlt, hmin]) rfl rfl (by first | exact Or.inl rfl | exact Or.inr rfl) ?_
    simp [go_sem, ty26, ty33, hlt, hmin]
    first | refine h10 _ ?_ | refine ⟨by omega, h10 _ ?_⟩ | refine ⟨by omega, by omega, h10 _ ?_⟩ | (repeat (refine ⟨by first | omega | grind, ?_⟩)); refine h10 _ ?_
    clear h10 K10
    refine W_reg ?_
    simp [go_sem, ty3, hlt, hmin]
    refine ⟨i + 1, ?_, ?_, ?_⟩
    · exact (Sub.swp_row 65 41 rfl).trans (Sub.of_neat [1, 2, 8, 9, 10] [1, 2, 4, 41] [] 61 (by decide) (by simp [go_sem, wrap_succ (show i < 9223372036854775807 by omega), hlt, hmin, hmin2, htk]))
    · exact hlt
    · omega
  · obtain rfl : i = hs.length := by simp at hb9; omega
    clear hb9
    refine W_exit ?_
    simp [go_sem]
    first | refine h4 _ ?_ | refine ⟨by omega, h4 _ ?_⟩ | refine ⟨by omega, by omega, h4 _ ?_⟩ | (repeat (refine ⟨by first | omega | grind, ?_⟩)); refine h4 _ ?_
    clear h7 K7 h4 K4
    refine W_seqK fun K11 h11 => ?_
    refine W_seqK fun K12 h12 => ?_
    refine W_reg ?_
    simp [go_sem, ty3]
    first | refine h12 _ ?_ | refine ⟨by omega, h12 _ ?_⟩ | refine ⟨by omega, by omega, h12 _ ?_⟩ | (repeat (refine ⟨by first | omega | grind, ?_⟩)); refine h12 _ ?_
    clear h12 K12
    refine W_block ?_
    refine W_loopI (α := Nat × Tr) (fun p => ({ env := [(2, true, .l (.ref 2 [] 1 0 (order).length)), (8, true, .l (.ref 50 [] 1 0 ((p.2.m).length))), (9, true, .l (.ref 51 [] 3 0 ((p.2.hs).length))), (11, true, .l (.t (.int .i64 (p.1))))], box := [], row := [(2, ⟨.ro, 1, enc eI order⟩), (50, ⟨.own, 1, enc eI p.2.m⟩), (51, ⟨.own, 3, enc eHart p.2.hs⟩)], nxt := 71, sav := [] } : St)) (fun p => p.1 ≤ order.length ∧ (0 < p.1 → order.length ≤ 2000) ∧ p.2 = trN ⟨mem, hs, []⟩ order p.1 ∧ TrOk hs.length p.2) (fun p => order.length - p.1) (0, ⟨mem, hs, []⟩) ?_ ?_ ?_
    · exact (Sub.swp_row 4 50 rfl).trans ((Sub.swp_row 41 51 rfl).trans (Sub.of_neat [2, 8, 9, 11] [2, 50, 51] [] 71 (by decide) (by simp [go_sem])))
    · exact ⟨Nat.zero_le _, fun h => absurd h (by simp), rfl, ⟨hm, rfl, hq⟩⟩
    rintro p hinv
    obtain ⟨hi, hio, htr, hok⟩ := hinv
    have hok3 := hok.2.2
    have hok2 := hok.2.1
    have hok1 := hok.1
    have hwl : IntKind.wrap .i64 ((p.2.hs.length : Int) - 1) = (p.2.hs.length : Int) - 1 := wrap_ok (by omega) (by omega)
    refine W_seqK fun K14 h14 => ?_
    refine W_seqK fun K15 h15 => ?_
    refine W_reg ?_
    simp [go_sem, ty3, ty4, ty24]
    first | refine h15 _ ?_ | refine ⟨by omega, h15 _ ?_⟩ | refine ⟨by omega, by omega, h15 _ ?_⟩ | (repeat (refine ⟨by first | omega | grind, ?_⟩)); refine h15 _ ?_
    clear h15 K15
    refine W_cond rfl (fun hb16 => ?_) fun hb16 => ?_
    · obtain ⟨hlt, qo⟩ : p.1 < order.length ∧ order.length ≤ 2000 := by simp at hb16; omega
      clear hb16
      refine W_skip ?_
      first | refine h14 _ ?_ | refine ⟨by omega, h14 _ ?_⟩ | refine ⟨by omega, by omega, h14 _ ?_⟩ | (repeat (refine ⟨by first | omega | grind, ?_⟩)); refine h14 _ ?_
      clear h14 K14
      refine W_seqK fun K17 h17 => ?_
      refine W_block ?_
      refine W_seqK fun K18 h18 => ?_
      refine W_reg ?_
      simp [go_sem, ty3, ty24, hlt, hwl]
      first | refine h18 _ ?_ | refine ⟨by omega, h18 _ ?_⟩ | refine ⟨by omega, by omega, h18 _ ?_⟩ | (repeat (refine ⟨by first | omega | grind, ?_⟩)); refine h18 _ ?_
      clear h18 K18
      refine W_seqK fun K19 h19 => ?_
      refine W_reg ?_
      simp [go_sem, ty3, ty4, ty26, ty33, hlt, hwl]
      refine callG_pc (fun hG => pc_spec_l1In order[p.1] 0 ((p.2.hs.length : Int) - 1)) (by first | (simp; done) | (simp [inR_iff]; done) | (simp [inR_iff]; grind) | grind) (fun hG => by simp [go_sem, hlt, hwl]) rfl rfl (by first | exact Or.inl rfl | exact Or.inr rfl) ?_
      simp [go_sem, hlt, hwl]
      first | refine h19 _ ?_ | refine ⟨by omega, h19 _ ?_⟩ | refine ⟨by omega, by omega, h19 _ ?_⟩ | (repeat (refine ⟨by first | omega | grind, ?_⟩)); refine h19 _ ?_
      clear h19 K19
      refine W_cond rfl (fun hb20 => ?_) fun hb20 => ?_
      · obtain ⟨j0, j1, j2⟩ : 0 ≤ order[p.1] ∧ order[p.1] < (p.2.hs.length : Int) ∧ (order[p.1]).toNat < p.2.hs.length := by rcases in_split p.2.hs.length order[p.1] with hin | ⟨hin, hx⟩; simp [hin] at hb20; exact hx
        clear hb20
        obtain ⟨h, hhd⟩ : ∃ h, p.2.hs[order[p.1].toNat] = h := ⟨_, rfl⟩
        have hhs : h.regs.length ≤ 1048576 := hhd ▸ hok3 _ (List.getElem_mem j2)
        obtain ⟨hst, hst2⟩ := trStep_flat j0 j2 hhd
        refine W_seqK fun K21 h21 => ?_
        refine W_reg ?_
        simp [go_sem, ty3, ty24, ty26, ty33, hlt, hwl, j0, j1, j2, hhd]
        refine callG_pc (fun hG => pc_spec_FlatStep p.2.m h (by omega) (by omega)) (by first | (simp; done) | (simp [inR_iff]; done) | (simp [inR_iff]; grind) | grind) (fun hG => by simp [go_sem, hlt, hwl, j0, j1, j2, hhd]) rfl rfl (by first | exact Or.inl rfl | exact Or.inr rfl) ?_
        simp [go_sem, ty3, ty24, ty26, hlt, hwl, j0, j1, j2, hhd]
        first | refine h21 _ ?_ | refine ⟨by omega, h21 _ ?_⟩ | refine ⟨by omega, by omega, h21 _ ?_⟩ | (repeat (refine ⟨by first | omega | grind, ?_⟩)); refine h21 _ ?_
        clear h21 K21
        refine W_seqK fun K22 h22 => ?_
        refine W_reg ?_
        simp [go_sem, ty3, ty24, hlt, hwl, j0, j1, j2, hhd]
        first | refine h22 _ ?_ | refine ⟨by omega, h22 _ ?_⟩ | refine ⟨by omega, by omega, h22 _ ?_⟩ | (repeat (refine ⟨by first | omega | grind, ?_⟩)); refine h22 _ ?_
        clear h22 K22
        refine W_reg ?_
        simp [go_sem, ty3, ty26, ty33, hlt, hwl, j0, j1, j2, hhd]
        first | refine h17 _ ?_ | refine ⟨by omega, h17 _ ?_⟩ | refine ⟨by omega, by omega, h17 _ ?_⟩ | (repeat (refine ⟨by first | omega | grind, ?_⟩)); refine h17 _ ?_
        clear h17 K17
        refine W_reg ?_
        simp [go_sem, ty3, hlt, hwl, j0, j1, j2, hhd]
        refine ⟨p.1 + 1, trStep p.2 order[p.1], ?_, ?_, ?_⟩
        · exact (Sub.swp_row 72 50 rfl).trans (Sub.of_neat [2, 8, 9, 11] [2, 50, 51] [] 71 (by decide) (by simp [go_sem, hst, wrap_succ (show p.1 < 9223372036854775807 by omega), List.length_set, hst2]))
        · exact ⟨hlt, fun _ => qo, by rw [trN_succ hlt, ← htr], TrOk.step hok _⟩
        · first | omega | (simp; omega)
      · have hin0 : inR order[p.1] 0 ((p.2.hs.length : Int) - 1) = false := by simpa using hb20
        have hst := trStep_out hin0
        clear hb20
        refine W_skip ?_
        first | refine h17 _ ?_ | refine ⟨by omega, h17 _ ?_⟩ | refine ⟨by omega, by omega, h17 _ ?_⟩ | (repeat (refine ⟨by first | omega | grind, ?_⟩)); refine h17 _ ?_
        clear h17 K17
        refine W_reg ?_
        simp [go_sem, ty3, hlt, hwl]
        refine ⟨p.1 + 1, trStep p.2 order[p.1], ?_, ?_, ?_⟩
        · exact Sub.of_neat [2, 8, 9, 11] [2, 50, 51] [] 71 (by decide) (by simp [go_sem, hst, wrap_succ (show p.1 < 9223372036854775807 by omega), List.length_set])
        · exact ⟨hlt, fun _ => qo, by rw [trN_succ hlt, ← htr], TrOk.step hok _⟩
        · first | omega | (simp; omega)
    · obtain ⟨q1, q2⟩ : runM mem hs order = p.2.m ∧ runH mem hs order = p.2.hs := by
        by_cases qo : order.length ≤ 2000
        · exact run_end qo htr (by simp at hb16; omega)
        · have hil : p.1 = 0 := by omega
          rw [htr, hil]
          exact runS_no (Or.inl (by omega))
      clear hb16
      refine W_exit ?_
      simp [go_sem]
      first | refine h11 _ ?_ | refine ⟨by omega, h11 _ ?_⟩ | refine ⟨by omega, by omega, h11 _ ?_⟩ | (repeat (refine ⟨by first | omega | grind, ?_⟩)); refine h11 _ ?_
      clear h14 K14 h11 K11
      refine W_seqK fun K23 h23 => ?_
      refine W_reg ?_
      simp [go_sem, ty3, ty24, ty26, ty33]
      first | refine h23 _ ?_ | refine ⟨by omega, h23 _ ?_⟩ | refine ⟨by omega, by omega, h23 _ ?_⟩ | (repeat (refine ⟨by first | omega | grind, ?_⟩)); refine h23 _ ?_
      clear h23 K23
      refine W_ret ?_
      simp [go_sem, q1, q2]
end Go.Tw
