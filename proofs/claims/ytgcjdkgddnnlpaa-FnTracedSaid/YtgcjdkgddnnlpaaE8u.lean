/- Walks of functions: impl.copyHarts, impl.Trace -/
import Derived.Test.YtgcjdkgddnnlpaaE8t
import Derived.Test.YtgcjdkgddnnlpaaBaseF
set_option linter.unusedSimpArgs false
set_option linter.unusedVariables false
set_option linter.unnecessarySimpa false
namespace Go.Tw
open Go.Proofs

set_option maxRecDepth 100000 in
set_option maxHeartbeats 4000000 in
theorem pc_impl_copyHarts (xs : List GHart) (hx : xs.length ≤ 1048576) (hq : ∀ a ∈ xs, a.regs.length ≤ 1048576) : PC Try.prog 103 [(false, [.sl 3 (enc eHart xs)])] [(false, [.sl 3 (enc eHart xs)])] := by
  refine PC_of (n := 20) Try.func103 rfl rfl rfl rfl (by simp) ?_
  refine W_seqK fun K1 h1 => ?_
  refine W_reg ?_
  simp [go_sem, ty61, ty73]
  repeat refine ⟨by first | omega | grind, ?_⟩
  refine h1 _ ?_
  clear h1 K1
  refine W_seqK fun K2 h2 => ?_
  refine W_reg ?_
  simp [go_sem, ty61, ty73]
  repeat refine ⟨by first | omega | grind, ?_⟩
  refine h2 _ ?_
  clear h2 K2
  refine W_seqK fun K3 h3 => ?_
  refine W_seqK fun K4 h4 => ?_
  refine W_reg ?_
  simp [go_sem, ty3, ty61, ty73]
  repeat refine ⟨by first | omega | grind, ?_⟩
  refine h4 _ ?_
  clear h4 K4
  refine W_block ?_
  refine W_loopI (α := Nat) (fun i => ({ env := [(3, true, .l (.ref 40 [] 3 0 (i))), (7, true, .l (.ref 0 [] 3 0 (xs.length))), (8, true, .l (.t (.int .i64 (xs.length)))), (9, true, .l (.t (.int .i64 (i))))], box := [], row := [(40, ⟨.own, 3, enc eHart (xs.take i)⟩), (0, ⟨.ro, 3, enc eHart xs⟩)], nxt := 41, sav := [] } : St)) (fun i => i ≤ xs.length) (fun i => xs.length - i) 0 ?_ ?_ ?_
  · exact (Sub.nilRow (t := 3) (nm := 40) (z := 3) (by rfl) (by rfl)).trans (Sub.of_neat [3, 7, 8, 9] [40, 0] [] 41 (by decide) (by simp [go_sem]))
  · exact Nat.zero_le _
  rintro i hinv
  refine W_seqK fun K6 h6 => ?_
  refine W_reg ?_
  simp [go_sem, ty3]
  repeat refine ⟨by first | omega | grind, ?_⟩
  refine h6 _ ?_
  clear h6 K6
  refine W_seqK fun K7 h7 => ?_
  refine W_cond rfl (fun hb8 => ?_) fun hb8 => ?_
  · have hlt : i < xs.length := by simpa using hb8
    have hmin : min i xs.length = i := by omega
    have htk := List.take_append_getElem hlt
    clear hb8
    refine W_skip ?_
    repeat refine ⟨by first | omega | grind, ?_⟩
    refine h7 _ ?_
    clear h7 K7
    refine W_seqK fun K9 h9 => ?_
    refine W_block ?_
    refine W_seqK fun K10 h10 => ?_
    refine W_reg ?_
    simp [go_sem, ty61, ty73, hlt, hmin]
    repeat refine ⟨by first | omega | grind, ?_⟩
    refine h10 _ ?_
    clear h10 K10
    refine W_reg ?_
    simp [go_sem, ty61, ty73, hlt, hmin]
    refine callG_pc (fun hG => pc_impl_copyHart xs[i] (hq _ (List.getElem_mem hlt))) (by first | (simp; done) | (simp [inR_iff]; done) | (simp [inR_iff]; grind) | grind) (fun hG => by simp [go_sem, hlt, hmin]) rfl rfl (by first | exact Or.inl rfl | exact Or.inr rfl) ?_
    simp [go_sem, ty61, ty73, hlt, hmin]
    repeat refine ⟨by first | omega | grind, ?_⟩
    refine h9 _ ?_
    clear h9 K9
    refine W_reg ?_
    simp [go_sem, ty3, hlt, hmin]
    refine ⟨i + 1, ?_, ?_, ?_⟩
    · exact (Sub.swp_row 47 40 rfl).trans (Sub.of_neat [3, 7, 8, 9] [40, 0] [] 41 (by decide) (by simp [go_sem, wrap_succ (show i < 9223372036854775807 by omega), hlt, hmin, htk]))
    · exact hlt
    · omega
  · obtain rfl : i = xs.length := by simp at hb8; omega
    clear hb8
    refine W_exit ?_
    simp [go_sem]
    repeat refine ⟨by first | omega | grind, ?_⟩
    refine h3 _ ?_
    clear h7 K7 h3 K3
    refine W_seqK fun K11 h11 => ?_
    refine W_reg ?_
    simp [go_sem, ty61, ty73]
    repeat refine ⟨by first | omega | grind, ?_⟩
    refine h11 _ ?_
    clear h11 K11
    refine W_ret ?_
    simp [go_sem]

set_option maxRecDepth 100000 in
set_option maxHeartbeats 4000000 in
theorem pc_impl_Trace (mem : List Int) (hs : List GHart) (order : List Int) (hm : mem.length ≤ 1048576) (hh : hs.length ≤ 1048576) (hq : ∀ a ∈ hs, a.regs.length ≤ 1048576) (ho : order.length ≤ 1048576) : PC Try.prog 42 [(false, [.sl 1 (enc eI mem)]), (false, [.sl 3 (enc eHart hs)]), (false, [.sl 1 (enc eI order)])] [(false, [.sl 5 (enc eEvent (trace mem hs order))])] := by
  refine PC_of (n := 63) Try.func42 rfl rfl rfl rfl (by simp) ?_
  refine W_seqK fun K1 h1 => ?_
  refine W_reg ?_
  simp [go_sem, ty41, ty54]
  repeat refine ⟨by first | omega | grind, ?_⟩
  refine h1 _ ?_
  clear h1 K1
  refine W_seqK fun K2 h2 => ?_
  refine W_reg ?_
  simp [go_sem, ty41, ty54]
  repeat refine ⟨by first | omega | grind, ?_⟩
  refine h2 _ ?_
  clear h2 K2
  refine W_seqK fun K3 h3 => ?_
  refine W_seqK fun K4 h4 => ?_
  refine W_reg ?_
  simp [go_sem, ty3, ty4, ty22]
  refine callG_pc (fun hG => pc_impl_memOk mem (by omega)) (by first | (simp; done) | (simp [inR_iff]; done) | (simp [inR_iff]; grind) | grind) (fun hG => by simp [go_sem]) rfl rfl (by first | exact Or.inl rfl | exact Or.inr rfl) ?_
  simp [go_sem, ty4]
  repeat refine ⟨by first | omega | grind, ?_⟩
  refine h4 _ ?_
  clear h4 K4
  refine W_cond rfl (fun hb5 => ?_) fun hb5 => ?_
  · have q : trace mem hs order = [] := trace_no (by simp at hb5; grind)
    clear hb5
    refine W_seqK fun K6 h6 => ?_
    refine W_reg ?_
    simp [go_sem, ty41, ty54]
    repeat refine ⟨by first | omega | grind, ?_⟩
    refine h6 _ ?_
    clear h6 K6
    refine W_ret ?_
    simp [go_sem, q]
  · obtain ⟨qo, qw⟩ : order.length ≤ 2000 ∧ wordsOk mem 24 = true := by simp at hb5; grind
    clear hb5
    refine W_skip ?_
    repeat refine ⟨by first | omega | grind, ?_⟩
    refine h3 _ ?_
    clear h3 K3
    refine W_seqK fun K7 h7 => ?_
    refine W_reg ?_
    simp [go_sem, ty3, ty22]
    refine callG_pc (fun hG => pc_slices_Clone_int_int mem (by omega)) (by first | (simp; done) | (simp [inR_iff]; done) | (simp [inR_iff]; grind) | grind) (fun hG => by simp [go_sem]) rfl rfl (by first | exact Or.inl rfl | exact Or.inr rfl) ?_
    simp [go_sem, ty3, ty22]
    repeat refine ⟨by first | omega | grind, ?_⟩
    refine h7 _ ?_
    clear h7 K7
    refine W_seqK fun K8 h8 => ?_
    refine W_reg ?_
    simp [go_sem, ty61, ty73]
    refine callG_pc (fun hG => pc_impl_copyHarts hs hh hq) (by first | (simp; done) | (simp [inR_iff]; done) | (simp [inR_iff]; grind) | grind) (fun hG => by simp [go_sem]) rfl rfl (by first | exact Or.inl rfl | exact Or.inr rfl) ?_
    simp [go_sem, ty61, ty73]
    repeat refine ⟨by first | omega | grind, ?_⟩
    refine h8 _ ?_
    clear h8 K8
    refine W_seqK fun K9 h9 => ?_
    refine W_seqK fun K10 h10 => ?_
    refine W_reg ?_
    simp [go_sem, ty3, ty22]
    repeat refine ⟨by first | omega | grind, ?_⟩
    refine h10 _ ?_
    clear h10 K10
    refine W_block ?_
    refine W_loopI (α := Nat × Tr) (fun p => ({ env := [(0, true, .l (.ref 50 [] 1 0 (p.2.m.length))), (1, true, .l (.ref 51 [] 3 0 (p.2.hs.length))), (7, true, .l (.ref 40 [] 5 0 (p.2.evs.length))), (24, true, .l (.ref 2 [] 1 0 (order.length))), (25, true, .l (.t (.int .i64 (order.length)))), (26, true, .l (.t (.int .i64 (p.1))))], box := [], row := [(40, ⟨.own, 5, enc eEvent p.2.evs⟩), (50, ⟨.own, 1, enc eI p.2.m⟩), (51, ⟨.own, 3, enc eHart p.2.hs⟩), (2, ⟨.ro, 1, enc eI order⟩)], nxt := 60, sav := [] } : St)) (fun p => p.1 ≤ order.length ∧ p.2 = trN ⟨mem, hs, []⟩ order p.1 ∧ TrOk hs.length p.2 ∧ wordsOk p.2.m 24 = true) (fun p => order.length - p.1) (0, ⟨mem, hs, []⟩) ?_ ?_ ?_
    · exact (Sub.nilRow (t := 7) (nm := 40) (z := 5) (by rfl) (by rfl)).trans ((Sub.swp_row 5 50 rfl).trans ((Sub.swp_row 6 51 rfl).trans (Sub.of_neat [0, 1, 7, 24, 25, 26] [40, 50, 51, 2] [] 60 (by decide) (by simp [go_sem, enc_nil]))))
    · exact ⟨Nat.zero_le _, rfl, ⟨hm, rfl, hq⟩, qw⟩
    rintro p hinv
    obtain ⟨hi, htr, hok, qw⟩ := hinv
    have hev : p.2.evs.length ≤ p.1 := by rw [htr]; have h9 := trN_evs ⟨mem, hs, []⟩ order p.1; simpa using h9
    have hok3 := hok.2.2
    have hok2 := hok.2.1
    have hwl : IntKind.wrap .i64 ((p.2.hs.length : Int) - 1) = (p.2.hs.length : Int) - 1 := wrap_ok (by omega) (by omega)
    refine W_seqK fun K12 h12 => ?_
    refine W_reg ?_
    simp [go_sem, ty3]
    repeat refine ⟨by first | omega | grind, ?_⟩
    refine h12 _ ?_
    clear h12 K12
    refine W_seqK fun K13 h13 => ?_
    refine W_cond rfl (fun hb14 => ?_) fun hb14 => ?_
    · have hlt : p.1 < order.length := by simpa using hb14
      clear hb14
      refine W_skip ?_
      repeat refine ⟨by first | omega | grind, ?_⟩
      refine h13 _ ?_
      clear h13 K13
      refine W_seqK fun K15 h15 => ?_
      refine W_block ?_
      refine W_seqK fun K16 h16 => ?_
      refine W_reg ?_
      simp [go_sem, ty3, ty22, hlt]
      repeat refine ⟨by first | omega | grind, ?_⟩
      refine h16 _ ?_
      clear h16 K16
      refine W_seqK fun K17 h17 => ?_
      rcases in_split p.2.hs.length order[p.1] with hin0 | ⟨hin1, j0, j1, j2⟩
      · refine W_reg ?_
        simp [go_sem, ty3, ty4, ty61, ty73, hwl, hin0]
        refine callG_pc (fun hG => pc_impl_from order[p.1] 0 ((p.2.hs.length : Int) - 1)) (by first | (simp; done) | (simp [inR_iff]; done) | (simp [inR_iff]; grind) | grind) (fun hG => by simp [go_sem]) rfl rfl (by first | exact Or.inl rfl | exact Or.inr rfl) ?_
        simp [go_sem, ty3, ty4, ty61, ty73, hwl, hin0]
        first | refine callG_pc (fun hG => pc_impl_goes h (by omega)) (by first | (simp; done) | (simp [inR_iff]; done) | (simp [inR_iff]; grind) | grind) (fun hG => by simp [go_sem, j0, j2, hhd]) rfl rfl (by first | exact Or.inl rfl | exact Or.inr rfl) ?_ | refine callG_false (.l (.t (.bool true))) ?_
        simp [go_sem, ty4, hwl, hin0]
        repeat refine ⟨by first | omega | grind, ?_⟩
        refine h17 _ ?_
        clear h17 K17
        refine W_cond rfl (fun hb18 => ?_) fun hb18 => ?_
        · simp at hb18
        · have hst := trStep_out hin0
          refine W_skip ?_
          repeat refine ⟨by first | omega | grind, ?_⟩
          refine h15 _ ?_
          clear h15 K15
          refine W_reg ?_
          simp [go_sem, ty3]
          refine ⟨p.1 + 1, trStep p.2 order[p.1], ?_, ?_, ?_⟩
          · exact Sub.of_neat [0, 1, 7, 24, 25, 26] [40, 50, 51, 2] [] 60 (by decide) (by simp [go_sem, hst, wrap_succ (show p.1 < 9223372036854775807 by omega), List.length_set])
          · exact ⟨hlt, by rw [trN_succ hlt, ← htr], TrOk.step hok _, trStep_words qw⟩
          · first | omega | (simp; omega)
      · refine W_reg ?_
        obtain ⟨h, hhd⟩ : ∃ h, p.2.hs[order[p.1].toNat] = h := ⟨_, rfl⟩
        have hhs : h.regs.length ≤ 1048576 := hhd ▸ hok3 _ (List.getElem_mem j2)
        simp [go_sem, ty3, ty4, ty61, ty73, hwl, hin1, j0, j1, j2, hhd]
        refine callG_pc (fun hG => pc_impl_from order[p.1] 0 ((p.2.hs.length : Int) - 1)) (by first | (simp; done) | (simp [inR_iff]; done) | (simp [inR_iff]; grind) | grind) (fun hG => by simp [go_sem]) rfl rfl (by first | exact Or.inl rfl | exact Or.inr rfl) ?_
        simp [go_sem, ty3, ty4, ty61, ty73, hwl, hin1, j0, j1, j2, hhd]
        first | refine callG_pc (fun hG => pc_impl_goes h (by omega)) (by first | (simp; done) | (simp [inR_iff]; done) | (simp [inR_iff]; grind) | grind) (fun hG => by simp [go_sem, j0, j2, hhd]) rfl rfl (by first | exact Or.inl rfl | exact Or.inr rfl) ?_ | refine callG_false (.l (.t (.bool true))) ?_
        simp [go_sem, ty4, hwl, hin1, j0, j1, j2, hhd]
        repeat refine ⟨by first | omega | grind, ?_⟩
        refine h17 _ ?_
        clear h17 K17
        refine W_cond rfl (fun hb19 => ?_) fun hb19 => ?_
        · have qgo : goes h = true := by simpa using hb19
          have hst := trStep_at j0 j2 hhd (by unfold evOk; rw [qw, qgo]; rfl)
          clear hb19
          refine W_seqK fun K20 h20 => ?_
          refine W_reg ?_
          simp [go_sem, ty3, ty22, ty41, ty54, ty61, ty73, j0, j1, j2, hhd]
          refine callG_pc (fun hG => pc_impl_eventOf p.2.m h order[p.1] qw qgo) (by first | (simp; done) | (simp [inR_iff]; done) | (simp [inR_iff]; grind) | grind) (fun hG => by simp [go_sem, j0, j2, hhd]) rfl rfl (by first | exact Or.inl rfl | exact Or.inr rfl) ?_
          simp [go_sem, ty41, ty54, j0, j1, j2, hhd]
          repeat refine ⟨by first | omega | grind, ?_⟩
          refine h20 _ ?_
          clear h20 K20
          refine W_reg ?_
          simp [go_sem, ty3, ty22, ty61, ty73, j0, j1, j2, hhd]
          refine callG_true (by simp) ((CallW_inline (n := 43) Try.func106 rfl rfl rfl rfl (by simp) fun a_ => ?_))
          refine W_seqK fun K21 h21 => ?_
          refine W_reg ?_
          simp [go_sem, ty61, j0, j2, hhd]
          repeat refine ⟨by first | omega | grind, ?_⟩
          refine h21 _ ?_
          clear h21 K21
          refine W_seqK fun K22 h22 => ?_
          refine W_reg ?_
          obtain ⟨qg, qs⟩ := goes_facts qgo
          obtain ⟨qw4, ql, ⟨qp0, qp3⟩, qst⟩ := hart_facts qg
          have qm := wordsOk_len qw
          have qp1 : h.pc < (p.2.m.length : Int) := by omega
          have qp2 : h.pc.toNat < p.2.m.length := by omega
          have qx : decode p.2.m[h.pc.toNat] = (xAt p.2.m h) := by simp [xAt, qp2]
          simp [go_sem, ty3, ty22, ty61, qp0, qp1, qp2, qx, j0, j2, hhd]
          refine callG_pc (fun hG => pc_impl_Decode (p.2.m.getD h.pc.toNat 0)) (by first | (simp; done) | (simp [inR_iff]; done) | (simp [inR_iff]; grind) | grind) (fun hG => by simp [go_sem, qp2, j0, j2, hhd]) rfl rfl (by first | exact Or.inl rfl | exact Or.inr rfl) ?_
          simp [go_sem, ty4, ty68, qp0, qp1, qp2, qx, j0, j2, hhd]
          repeat refine ⟨by first | omega | grind, ?_⟩
          refine h22 _ ?_
          clear h22 K22
          refine W_seqK fun K23 h23 => ?_
          refine W_reg ?_
          have qt : target (xAt p.2.m h) h.regs = tAt p.2.m h := rfl
          simp [go_sem, ty3, ty22, ty61, ty68, qt, j0, j2, hhd]
          refine callG_pc (fun hG => pc_impl_Target (xAt p.2.m h) h.regs) (by first | (simp; done) | (simp [inR_iff]; done) | (simp [inR_iff]; grind) | grind) (fun hG => by simp [go_sem, j0, j2, hhd]) rfl rfl (by first | exact Or.inl rfl | exact Or.inr rfl) ?_
          simp [go_sem, ty3, qt, j0, j2, hhd]
          repeat refine ⟨by first | omega | grind, ?_⟩
          refine h23 _ ?_
          clear h23 K23
          refine W_seqK fun K24 h24 => ?_
          refine W_reg ?_
          simp [go_sem, ty3, j0, j2, hhd]
          repeat refine ⟨by first | omega | grind, ?_⟩
          refine h24 _ ?_
          clear h24 K24
          refine W_seqK fun K25 h25 => ?_
          refine W_seqK fun K26 h26 => ?_
          refine W_reg ?_
          simp [go_sem, ty3, ty4, j0, j2, hhd]
          repeat refine ⟨by first | omega | grind, ?_⟩
          refine h26 _ ?_
          clear h26 K26
          refine W_cond rfl (fun hb27 => ?_) fun hb27 => ?_
          · have t0 : 0 ≤ tAt p.2.m h := by simpa using hb27
            have t1 : tAt p.2.m h ≤ 23 := by have t9 := target_range (xAt p.2.m h) h.regs; rw [qt] at t9; omega
            have t2 : (tAt p.2.m h).toNat < p.2.m.length := by omega
            have t3 : tAt p.2.m h < (p.2.m.length : Int) := by omega
            have qgt : gAt p.2.m h = p.2.m[(tAt p.2.m h).toNat] := by unfold gAt; rw [if_pos t0]; simp [t2]
            clear hb27
            refine W_reg ?_
            simp [go_sem, ty3, ty22, j0, j2, hhd, t0, t2, t3]
            repeat refine ⟨by first | omega | grind, ?_⟩
            refine h25 _ ?_
            clear h25 K25
            refine W_seqK fun K28 h28 => ?_
            refine W_reg ?_
            have qs1 : (work h (xAt p.2.m h) (gAt p.2.m h)).1 = stepH p.2.m h := rfl
            have qs2 : (work h (xAt p.2.m h) (gAt p.2.m h)).2 = putAt p.2.m h := rfl
            simp [go_sem, ty3, ty61, ty68, qs1, qs2, j0, j2, hhd, t0, t2, t3]
            refine callG_pc (fun hG => pc_impl_Work h (xAt p.2.m h) (gAt p.2.m h) (by omega)) (by first | (simp; done) | (simp [inR_iff]; done) | (simp [inR_iff]; grind) | grind) (fun hG => by simp [go_sem, qgt, j0, j2, hhd, t0, t2, t3]) rfl rfl (by first | exact Or.inl rfl | exact Or.inr rfl) ?_
            simp [go_sem, ty3, ty61, qs1, qs2, j0, j2, hhd, t0, t2, t3]
            repeat refine ⟨by first | omega | grind, ?_⟩
            refine h28 _ ?_
            clear h28 K28
            refine W_seqK fun K29 h29 => ?_
            refine W_seqK fun K30 h30 => ?_
            refine W_reg ?_
            simp [go_sem, ty3, ty4, j0, j2, hhd, t0, t2, t3]
            repeat refine ⟨by first | omega | grind, ?_⟩
            refine h30 _ ?_
            clear h30 K30
            refine W_cond rfl (fun hb31 => ?_) fun hb31 => ?_
            · have qsm : stepM p.2.m h = p.2.m.set (tAt p.2.m h).toNat (putAt p.2.m h) := by unfold stepM; rw [if_pos (by simpa using hb31)]
              clear hb31
              refine W_reg ?_
              simp [go_sem, ty3, ty22, j0, j2, hhd, t0, t2, t3]
              repeat refine ⟨by first | omega | grind, ?_⟩
              refine h29 _ ?_
              clear h29 K29
              refine W_seqK fun K32 h32 => ?_
              refine W_reg ?_
              simp [go_sem, ty61, j0, j2, hhd, t0, t2, t3]
              repeat refine ⟨by first | omega | grind, ?_⟩
              refine h32 _ ?_
              clear h32 K32
              refine W_ret ?_
              simp [go_sem, ty61]
              refine ⟨_, _, ⟨rfl, rfl⟩, ?_⟩
              simp [go_sem, ty61, ty73, j0, j1, j2, hhd]
              repeat refine ⟨by first | omega | grind, ?_⟩
              refine h15 _ ?_
              clear h15 K15
              refine W_reg ?_
              simp [go_sem, ty3]
              refine ⟨p.1 + 1, trStep p.2 order[p.1], ?_, ?_, ?_⟩
              · exact (Sub.swp_row 68 40 rfl).trans (Sub.of_neat [0, 1, 7, 24, 25, 26] [40, 50, 51, 2] [] 60 (by decide) (by simp [go_sem, hst, wrap_succ (show p.1 < 9223372036854775807 by omega), List.length_set, qsm]))
              · exact ⟨hlt, by rw [trN_succ hlt, ← htr], TrOk.step hok _, trStep_words qw⟩
              · first | omega | (simp; omega)
            · have qsm : stepM p.2.m h = p.2.m := by unfold stepM; rw [if_neg (by simpa using hb31)]
              clear hb31
              refine W_skip ?_
              repeat refine ⟨by first | omega | grind, ?_⟩
              refine h29 _ ?_
              clear h29 K29
              refine W_seqK fun K33 h33 => ?_
              refine W_reg ?_
              simp [go_sem, ty61, j0, j2, hhd, t0, t2, t3]
              repeat refine ⟨by first | omega | grind, ?_⟩
              refine h33 _ ?_
              clear h33 K33
              refine W_ret ?_
              simp [go_sem, ty61]
              refine ⟨_, _, ⟨rfl, rfl⟩, ?_⟩
              simp [go_sem, ty61, ty73, j0, j1, j2, hhd]
              repeat refine ⟨by first | omega | grind, ?_⟩
              refine h15 _ ?_
              clear h15 K15
              refine W_reg ?_
              simp [go_sem, ty3]
              refine ⟨p.1 + 1, trStep p.2 order[p.1], ?_, ?_, ?_⟩
              · exact (Sub.swp_row 68 40 rfl).trans (Sub.of_neat [0, 1, 7, 24, 25, 26] [40, 50, 51, 2] [] 60 (by decide) (by simp [go_sem, hst, wrap_succ (show p.1 < 9223372036854775807 by omega), List.length_set, qsm]))
              · exact ⟨hlt, by rw [trN_succ hlt, ← htr], TrOk.step hok _, trStep_words qw⟩
              · first | omega | (simp; omega)
          · have qn : ¬ 0 ≤ tAt p.2.m h := by simpa using hb27
            have qgt : gAt p.2.m h = 0 := by unfold gAt; rw [if_neg qn]
            clear hb27
            refine W_skip ?_
            repeat refine ⟨by first | omega | grind, ?_⟩
            refine h25 _ ?_
            clear h25 K25
            refine W_seqK fun K34 h34 => ?_
            refine W_reg ?_
            have qs1 : (work h (xAt p.2.m h) (gAt p.2.m h)).1 = stepH p.2.m h := rfl
            have qs2 : (work h (xAt p.2.m h) (gAt p.2.m h)).2 = putAt p.2.m h := rfl
            simp [go_sem, ty3, ty61, ty68, qs1, qs2, j0, j2, hhd]
            refine callG_pc (fun hG => pc_impl_Work h (xAt p.2.m h) (gAt p.2.m h) (by omega)) (by first | (simp; done) | (simp [inR_iff]; done) | (simp [inR_iff]; grind) | grind) (fun hG => by simp [go_sem, qgt, j0, j2, hhd]) rfl rfl (by first | exact Or.inl rfl | exact Or.inr rfl) ?_
            simp [go_sem, ty3, ty61, qs1, qs2, j0, j2, hhd]
            repeat refine ⟨by first | omega | grind, ?_⟩
            refine h34 _ ?_
            clear h34 K34
            refine W_seqK fun K35 h35 => ?_
            refine W_seqK fun K36 h36 => ?_
            refine W_reg ?_
            simp [go_sem, ty3, ty4, j0, j2, hhd]
            repeat refine ⟨by first | omega | grind, ?_⟩
            refine h36 _ ?_
            clear h36 K36
            refine W_cond rfl (fun hb37 => ?_) fun hb37 => ?_
            · exact absurd (put_at (mem := p.2.m) (h := h) (by simpa using hb37)).1 qn
            · have qsm : stepM p.2.m h = p.2.m := by unfold stepM; rw [if_neg (by simpa using hb37)]
              clear hb37
              refine W_skip ?_
              repeat refine ⟨by first | omega | grind, ?_⟩
              refine h35 _ ?_
              clear h35 K35
              refine W_seqK fun K38 h38 => ?_
              refine W_reg ?_
              simp [go_sem, ty61, j0, j2, hhd]
              repeat refine ⟨by first | omega | grind, ?_⟩
              refine h38 _ ?_
              clear h38 K38
              refine W_ret ?_
              simp [go_sem, ty61]
              refine ⟨_, _, ⟨rfl, rfl⟩, ?_⟩
              simp [go_sem, ty61, ty73, j0, j1, j2, hhd]
              repeat refine ⟨by first | omega | grind, ?_⟩
              refine h15 _ ?_
              clear h15 K15
              refine W_reg ?_
              simp [go_sem, ty3]
              refine ⟨p.1 + 1, trStep p.2 order[p.1], ?_, ?_, ?_⟩
              · exact (Sub.swp_row 68 40 rfl).trans (Sub.of_neat [0, 1, 7, 24, 25, 26] [40, 50, 51, 2] [] 60 (by decide) (by simp [go_sem, hst, wrap_succ (show p.1 < 9223372036854775807 by omega), List.length_set, qsm]))
              · exact ⟨hlt, by rw [trN_succ hlt, ← htr], TrOk.step hok _, trStep_words qw⟩
              · first | omega | (simp; omega)
        · have hst := trStep_not j2 hhd (by unfold evOk; rw [qw, show goes h = false by simpa using hb19]; rfl)
          clear hb19
          refine W_skip ?_
          repeat refine ⟨by first | omega | grind, ?_⟩
          refine h15 _ ?_
          clear h15 K15
          refine W_reg ?_
          simp [go_sem, ty3]
          refine ⟨p.1 + 1, trStep p.2 order[p.1], ?_, ?_, ?_⟩
          · exact Sub.of_neat [0, 1, 7, 24, 25, 26] [40, 50, 51, 2] [] 60 (by decide) (by simp [go_sem, hst, wrap_succ (show p.1 < 9223372036854775807 by omega), List.length_set])
          · exact ⟨hlt, by rw [trN_succ hlt, ← htr], TrOk.step hok _, trStep_words qw⟩
          · first | omega | (simp; omega)
    · have hil : p.1 = order.length := by simp at hb14; omega
      have q : trace mem hs order = p.2.evs := by unfold trace; rw [if_pos qo, htr, hil]
      clear hb14
      refine W_exit ?_
      simp [go_sem]
      repeat refine ⟨by first | omega | grind, ?_⟩
      refine h9 _ ?_
      clear h13 K13 h9 K9
      refine W_seqK fun K39 h39 => ?_
      refine W_reg ?_
      simp [go_sem, ty41, ty54]
      repeat refine ⟨by first | omega | grind, ?_⟩
      refine h39 _ ?_
      clear h39 K39
      refine W_ret ?_
      simp [go_sem, q]
end Go.Tw
