/- Walks of functions: spec.Trace -/
import Derived.Test.YtgcjdkgddnnlpaaE8t
set_option linter.unusedSimpArgs false
set_option linter.unusedVariables false
set_option linter.unnecessarySimpa false
namespace Go.Tw
open Go.Proofs

set_option maxRecDepth 100000 in
set_option maxHeartbeats 4000000 in
theorem pc_spec_Trace (mem : List Int) (hs : List GHart) (order : List Int) (hm : mem.length ≤ 1048576) (hh : hs.length ≤ 1048576) (hq : ∀ a ∈ hs, a.regs.length ≤ 1048576) (ho : order.length ≤ 1048576) : PC Try.prog 43 [(false, [.sl 1 (enc eI mem)]), (false, [.sl 3 (enc eHart hs)]), (false, [.sl 1 (enc eI order)])] [(false, [.sl 5 (enc eEvent (trace mem hs order))])] := by
  refine PC_of (n := 74) Try.func43 rfl rfl rfl rfl (by simp) ?_
  refine W_seqK fun K1 h1 => ?_
  refine W_reg ?_
  simp [go_sem, ty41, ty54]
  repeat refine ⟨by first | omega | grind, ?_⟩
  refine h1 _ ?_
  clear h1 K1
  refine W_seqK fun K2 h2 => ?_
  refine W_reg ?_
  simp [go_sem, ty41, ty54]
  repeat refine ⟨by first | omega | grind, ?_⟩
  refine h2 _ ?_
  clear h2 K2
  refine W_seqK fun K3 h3 => ?_
  refine W_reg ?_
  simp [go_sem, ty3, ty22]
  repeat refine ⟨by first | omega | grind, ?_⟩
  refine h3 _ ?_
  clear h3 K3
  refine W_seqK fun K4 h4 => ?_
  refine W_reg ?_
  simp [go_sem, ty61, ty73]
  repeat refine ⟨by first | omega | grind, ?_⟩
  refine h4 _ ?_
  clear h4 K4
  refine W_seqK fun K5 h5 => ?_
  refine W_seqK fun K6 h6 => ?_
  refine W_reg ?_
  simp [go_sem, ty3]
  repeat refine ⟨by first | omega | grind, ?_⟩
  refine h6 _ ?_
  clear h6 K6
  refine W_block ?_
  refine W_loopI (α := Nat × Tr) (fun p => ({ env := [(2, true, .l (.ref 2 [] 1 0 (order.length))), (7, true, .l (.ref 40 [] 5 0 (p.2.evs.length))), (8, true, .l (.ref 50 [] 1 0 (p.2.m.length))), (9, true, .l (.ref 51 [] 3 0 (p.2.hs.length))), (10, true, .l (.t (.int .i64 (p.1))))], box := [], row := [(40, ⟨.own, 5, enc eEvent p.2.evs⟩), (50, ⟨.own, 1, enc eI p.2.m⟩), (51, ⟨.top, 3, enc eHart p.2.hs⟩), (2, ⟨.ro, 1, enc eI order⟩)], nxt := 60, sav := [] } : St)) (fun p => p.1 ≤ order.length ∧ (0 < p.1 → order.length ≤ 2000) ∧ p.2 = trN ⟨mem, hs, []⟩ order p.1 ∧ TrOk hs.length p.2) (fun p => order.length - p.1) (0, ⟨mem, hs, []⟩) ?_ ?_ ?_
  · exact (Sub.nilRow (t := 7) (nm := 40) (z := 5) (by rfl) (by rfl)).trans ((Sub.swp_row 5 50 rfl).trans ((Sub.swp_row 7 51 rfl).trans (Sub.of_neat [2, 7, 8, 9, 10] [40, 50, 51, 2] [] 60 (by decide) (by simp [go_sem, enc_nil]))))
  · exact ⟨Nat.zero_le _, fun h => absurd h (by simp), rfl, ⟨hm, rfl, hq⟩⟩
  rintro p hinv
  obtain ⟨hi, hio, htr, hok⟩ := hinv
  have hev : p.2.evs.length ≤ p.1 := by rw [htr]; have h9 := trN_evs ⟨mem, hs, []⟩ order p.1; simpa using h9
  have hok3 := hok.2.2
  have hok2 := hok.2.1
  have hok1 := hok.1
  have hwl : IntKind.wrap .i64 ((p.2.hs.length : Int) - 1) = (p.2.hs.length : Int) - 1 := wrap_ok (by omega) (by omega)
  refine W_seqK fun K8 h8 => ?_
  refine W_seqK fun K9 h9 => ?_
  refine W_reg ?_
  simp [go_sem, ty3, ty4, ty22]
  repeat refine ⟨by first | omega | grind, ?_⟩
  refine h9 _ ?_
  clear h9 K9
  refine W_cond rfl (fun hb10 => ?_) fun hb10 => ?_
  · obtain ⟨hlt, qo⟩ : p.1 < order.length ∧ order.length ≤ 2000 := by simp at hb10; omega
    clear hb10
    refine W_skip ?_
    repeat refine ⟨by first | omega | grind, ?_⟩
    refine h8 _ ?_
    clear h8 K8
    refine W_seqK fun K11 h11 => ?_
    refine W_block ?_
    refine W_seqK fun K12 h12 => ?_
    refine W_reg ?_
    simp [go_sem, ty3, ty22, hlt, hwl]
    repeat refine ⟨by first | omega | grind, ?_⟩
    refine h12 _ ?_
    clear h12 K12
    refine W_seqK fun K13 h13 => ?_
    refine W_seqK fun K14 h14 => ?_
    refine W_reg ?_
    simp [go_sem, ty3, ty4, ty61, ty73, hlt, hwl]
    refine callG_pc (fun hG => pc_spec_l1In order[p.1] 0 ((p.2.hs.length : Int) - 1)) (by first | (simp; done) | (simp [inR_iff]; done) | (simp [inR_iff]; grind) | grind) (fun hG => by simp [go_sem, hlt, hwl]) rfl rfl (by first | exact Or.inl rfl | exact Or.inr rfl) ?_
    simp [go_sem, ty4, hlt, hwl]
    repeat refine ⟨by first | omega | grind, ?_⟩
    refine h14 _ ?_
    clear h14 K14
    refine W_cond rfl (fun hb15 => ?_) fun hb15 => ?_
    · have hin0 : inR order[p.1] 0 ((p.2.hs.length : Int) - 1) = false := by simpa using hb15
      have hst := trStep_out hin0
      clear hb15
      refine W_exit ?_
      simp [go_sem]
      repeat refine ⟨by first | omega | grind, ?_⟩
      refine h11 _ ?_
      clear h13 K13 h11 K11
      refine W_reg ?_
      simp [go_sem, ty3, hlt, hwl]
      refine ⟨p.1 + 1, trStep p.2 order[p.1], ?_, ?_, ?_⟩
      · exact Sub.of_neat [2, 7, 8, 9, 10] [40, 50, 51, 2] [] 60 (by decide) (by simp [go_sem, hst, wrap_succ (show p.1 < 9223372036854775807 by omega), List.length_set])
      · exact ⟨hlt, fun _ => qo, by rw [trN_succ hlt, ← htr], TrOk.step hok _⟩
      · first | omega | (simp; omega)
    · obtain ⟨j0, j1, j2⟩ : 0 ≤ order[p.1] ∧ order[p.1] < (p.2.hs.length : Int) ∧ (order[p.1]).toNat < p.2.hs.length := by rcases in_split p.2.hs.length order[p.1] with hin | ⟨hin, hx⟩; simp [hin] at hb15; exact hx
      clear hb15
      obtain ⟨h, hhd⟩ : ∃ h, p.2.hs[order[p.1].toNat] = h := ⟨_, rfl⟩
      have hhs : h.regs.length ≤ 1048576 := hhd ▸ hok3 _ (List.getElem_mem j2)
      refine W_skip ?_
      repeat refine ⟨by first | omega | grind, ?_⟩
      refine h13 _ ?_
      clear h13 K13
      refine W_seqK fun K16 h16 => ?_
      refine W_reg ?_
      simp [go_sem, ty3, ty22, ty61, ty73, hlt, hwl, j0, j1, j2, hhd]
      refine callG_pc (fun hG => pc_spec_EventOf p.2.m h order[p.1] (by omega) (by omega)) (by first | (simp; done) | (simp [inR_iff]; done) | (simp [inR_iff]; grind) | grind) (fun hG => by simp [go_sem, hlt, hwl, j0, j1, j2, hhd]) rfl rfl (by first | exact Or.inl rfl | exact Or.inr rfl) ?_
      simp [go_sem, ty4, ty54, hlt, hwl, j0, j1, j2, hhd]
      repeat refine ⟨by first | omega | grind, ?_⟩
      refine h16 _ ?_
      clear h16 K16
      refine W_seqK fun K17 h17 => ?_
      refine W_seqK fun K18 h18 => ?_
      refine W_reg ?_
      simp [go_sem, ty4, hlt, hwl, j0, j1, j2, hhd]
      repeat refine ⟨by first | omega | grind, ?_⟩
      refine h18 _ ?_
      clear h18 K18
      refine W_cond rfl (fun hb19 => ?_) fun hb19 => ?_
      · have qe : evOk p.2.m h = true := by simpa using hb19
        have hst := trStep_at j0 j2 hhd qe
        obtain ⟨qf1, qf2⟩ := flat_yes qe
        have qr : evRes p.2.m h order[p.1] = eventOf p.2.m h order[p.1] := if_pos qe
        clear hb19
        refine W_reg ?_
        simp [go_sem, ty41, ty54, hlt, hwl, j0, j1, j2, hhd]
        repeat refine ⟨by first | omega | grind, ?_⟩
        refine h17 _ ?_
        clear h17 K17
        refine W_seqK fun K20 h20 => ?_
        refine W_reg ?_
        simp [go_sem, ty3, ty22, ty61, ty73, hlt, hwl, j0, j1, j2, hhd]
        refine callG_pc (fun hG => pc_spec_FlatStep p.2.m h (by omega) (by omega)) (by first | (simp; done) | (simp [inR_iff]; done) | (simp [inR_iff]; grind) | grind) (fun hG => by simp [go_sem, hlt, hwl, j0, j1, j2, hhd]) rfl rfl (by first | exact Or.inl rfl | exact Or.inr rfl) ?_
        simp [go_sem, ty3, ty22, ty61, hlt, hwl, j0, j1, j2, hhd]
        repeat refine ⟨by first | omega | grind, ?_⟩
        refine h20 _ ?_
        clear h20 K20
        refine W_seqK fun K21 h21 => ?_
        refine W_reg ?_
        simp [go_sem, ty3, ty22, hlt, hwl, j0, j1, j2, hhd]
        repeat refine ⟨by first | omega | grind, ?_⟩
        refine h21 _ ?_
        clear h21 K21
        refine W_reg ?_
        simp [go_sem, ty3, ty61, ty73, hlt, hwl, j0, j1, j2, hhd]
        repeat refine ⟨by first | omega | grind, ?_⟩
        refine h11 _ ?_
        clear h11 K11
        refine W_reg ?_
        simp [go_sem, ty3, hlt, hwl, j0, j1, j2, hhd]
        refine ⟨p.1 + 1, trStep p.2 order[p.1], ?_, ?_, ?_⟩
        · exact (Sub.swp_row 70 40 rfl).trans ((Sub.swp_row 71 50 rfl).trans (Sub.of_neat [2, 7, 8, 9, 10] [40, 50, 51, 2] [] 60 (by decide) (by simp [go_sem, hst, wrap_succ (show p.1 < 9223372036854775807 by omega), List.length_set, qf1, qf2, qr])))
        · exact ⟨hlt, fun _ => qo, by rw [trN_succ hlt, ← htr], TrOk.step hok _⟩
        · first | omega | (simp; omega)
      · have qe : evOk p.2.m h = false := by simpa using hb19
        have hst := trStep_not j2 hhd qe
        obtain ⟨qf1, qf2⟩ := flat_no qe
        have hset : p.2.hs.set (order[p.1]).toNat h = p.2.hs := by rw [← hhd]; exact List.set_getElem_self j2
        clear hb19
        refine W_skip ?_
        repeat refine ⟨by first | omega | grind, ?_⟩
        refine h17 _ ?_
        clear h17 K17
        refine W_seqK fun K22 h22 => ?_
        refine W_reg ?_
        simp [go_sem, ty3, ty22, ty61, ty73, hlt, hwl, j0, j1, j2, hhd]
        refine callG_pc (fun hG => pc_spec_FlatStep p.2.m h (by omega) (by omega)) (by first | (simp; done) | (simp [inR_iff]; done) | (simp [inR_iff]; grind) | grind) (fun hG => by simp [go_sem, hlt, hwl, j0, j1, j2, hhd]) rfl rfl (by first | exact Or.inl rfl | exact Or.inr rfl) ?_
        simp [go_sem, ty3, ty22, ty61, hlt, hwl, j0, j1, j2, hhd]
        repeat refine ⟨by first | omega | grind, ?_⟩
        refine h22 _ ?_
        clear h22 K22
        refine W_seqK fun K23 h23 => ?_
        refine W_reg ?_
        simp [go_sem, ty3, ty22, hlt, hwl, j0, j1, j2, hhd]
        repeat refine ⟨by first | omega | grind, ?_⟩
        refine h23 _ ?_
        clear h23 K23
        refine W_reg ?_
        simp [go_sem, ty3, ty61, ty73, hlt, hwl, j0, j1, j2, hhd]
        repeat refine ⟨by first | omega | grind, ?_⟩
        refine h11 _ ?_
        clear h11 K11
        refine W_reg ?_
        simp [go_sem, ty3, hlt, hwl, j0, j1, j2, hhd]
        refine ⟨p.1 + 1, trStep p.2 order[p.1], ?_, ?_, ?_⟩
        · exact (Sub.swp_row 69 50 rfl).trans (Sub.of_neat [2, 7, 8, 9, 10] [40, 50, 51, 2] [] 60 (by decide) (by simp [go_sem, hst, wrap_succ (show p.1 < 9223372036854775807 by omega), List.length_set, qf1, qf2, hset]))
        · exact ⟨hlt, fun _ => qo, by rw [trN_succ hlt, ← htr], TrOk.step hok _⟩
        · first | omega | (simp; omega)
  · have q : trace mem hs order = p.2.evs := by
        unfold trace
        by_cases qo : order.length ≤ 2000
        · have hil : p.1 = order.length := by simp at hb10; omega
          rw [if_pos qo, htr, hil]
        · have hil : p.1 = 0 := by omega
          rw [if_neg qo, htr, hil]
          rfl
    clear hb10
    refine W_exit ?_
    simp [go_sem]
    repeat refine ⟨by first | omega | grind, ?_⟩
    refine h5 _ ?_
    clear h8 K8 h5 K5
    refine W_seqK fun K24 h24 => ?_
    refine W_reg ?_
    simp [go_sem, ty41, ty54]
    repeat refine ⟨by first | omega | grind, ?_⟩
    refine h24 _ ?_
    clear h24 K24
    refine W_ret ?_
    simp [go_sem, q]
end Go.Tw
