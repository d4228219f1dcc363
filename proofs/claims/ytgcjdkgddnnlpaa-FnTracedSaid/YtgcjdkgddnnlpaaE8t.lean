/- Walks of functions: impl.eventOf, spec.EventOf, impl.EventOf -/
import Derived.Test.YtgcjdkgddnnlpaaE8n
set_option linter.unusedSimpArgs false
set_option linter.unusedVariables false
set_option linter.unnecessarySimpa false
namespace Go.Tw
open Go.Proofs

set_option maxRecDepth 100000 in
set_option maxHeartbeats 4000000 in
theorem pc_impl_eventOf (mem : List Int) (h : GHart) (who : Int) (qw : wordsOk mem 24 = true) (qgo : goes h = true) : PC Try.prog 105 [(false, [.sl 1 (enc eI mem)]), (true, eHart h), (false, [.int .i64 who])] [(true, eEvent (eventOf mem h who))] := by
  obtain ⟨qg, qs⟩ := goes_facts qgo
  obtain ⟨qw4, ql, ⟨qp0, qp3⟩, qst⟩ := hart_facts qg
  have qm := wordsOk_len qw
  have qp1 : h.pc < (mem.length : Int) := by omega
  have qp2 : h.pc.toNat < mem.length := by omega
  refine PC_of (n := 53) Try.func105 rfl rfl rfl rfl (by simp) ?_
  refine W_seqK fun K1 h1 => ?_
  refine W_reg ?_
  simp [go_sem, ty54, ty61, qp0, qp1, qp2]
  repeat refine ⟨by first | omega | grind, ?_⟩
  refine h1 _ ?_
  clear h1 K1
  refine W_seqK fun K2 h2 => ?_
  refine W_reg ?_
  simp [go_sem, ty3, ty22, ty61, qp0, qp1, qp2]
  refine callG_pc (fun hG => pc_impl_Decode mem[h.pc.toNat]) (by first | (simp; done) | (simp [inR_iff]; done) | (simp [inR_iff]; grind) | grind) (fun hG => by simp [go_sem, qp0, qp1, qp2]) rfl rfl (by first | exact Or.inl rfl | exact Or.inr rfl) ?_
  simp [go_sem, ty4, ty68, qp0, qp1, qp2]
  repeat refine ⟨by first | omega | grind, ?_⟩
  refine h2 _ ?_
  clear h2 K2
  refine W_seqK fun K3 h3 => ?_
  refine W_drawS true (.op 0 (.op 1 (.op 2 (.op 3 (.op 4 (.op 5 (.fork 6 (.op 7 (.op 8 (.op 9 .nil))) 8 (.op 6 (.op 7 (.op 9 .nil)))))))))) mixed (by decide +kernel) rfl ?_
  simp (config := {maxSteps := 10000000}) [go_sem, ty3, ty22, ty61, ty68, qp0, qp1, qp2]
  refine ⟨?_, ?_⟩
  · try simp (config := {maxSteps := 10000000}) [go_sem, ty3, ty22, ty68, qp0, qp1, qp2]
    refine callG_pc (fun hG => pc_impl_Target (decode mem[h.pc.toNat]) h.regs) (by first | (simp; done) | (simp [inR_iff]; done) | (simp [inR_iff]; grind) | grind) (fun hG => by simp [go_sem, qp0, qp1, qp2]) rfl rfl (by first | exact Or.inl rfl | exact Or.inr rfl) ?_
    simp (config := {maxSteps := 10000000}) [go_sem, ty54, fw54, qp0, qp1, qp2]
    repeat refine ⟨by first | omega | grind, ?_⟩
    refine h3 _ ?_
    clear h3 K3
    refine W_seqK fun K4 h4 => ?_
    refine W_seqK fun K5 h5 => ?_
    refine W_reg ?_
    simp [go_sem, ty3, ty4, ty54, qp0, qp1, qp2]
    repeat refine ⟨by first | omega | grind, ?_⟩
    refine h5 _ ?_
    clear h5 K5
    refine W_cond rfl (fun hb6 => ?_) fun hb6 => ?_
    · have qn : (target (decode mem[h.pc.toNat]) h.regs) < 0 := by simpa using hb6
      clear hb6
      refine W_seqK fun K7 h7 => ?_
      refine W_reg ?_
      simp [go_sem, ty54, qp0, qp1, qp2]
      repeat refine ⟨by first | omega | grind, ?_⟩
      refine h7 _ ?_
      clear h7 K7
      refine W_ret ?_
      first | (simp [go_sem, ty54, eventOf, qp2, qn]; done) | (simp [go_sem, ty54, eventOf, qp2, qt2, qn]; done)
    · have qn : ¬ (target (decode mem[h.pc.toNat]) h.regs) < 0 := by simpa using hb6
      clear hb6
      have qrng := target_range (decode mem[h.pc.toNat]) h.regs
      have qt0 : 0 ≤ (target (decode mem[h.pc.toNat]) h.regs) := by omega
      have qt1 : (target (decode mem[h.pc.toNat]) h.regs) < (mem.length : Int) := by omega
      have qt2 : (target (decode mem[h.pc.toNat]) h.regs).toNat < mem.length := by omega
      refine W_skip ?_
      repeat refine ⟨by first | omega | grind, ?_⟩
      refine h4 _ ?_
      clear h4 K4
      refine W_seqK fun K8 h8 => ?_
      refine W_drawT true mixed (by decide +kernel) ?_
      simp [go_sem, ty3, ty22, ty54, ty61, ty68, qp0, qp1, qp2, qt0, qt1, qt2]
      refine callG_pc (fun hG => pc_impl_Work h (decode mem[h.pc.toNat]) (mem[(target (decode mem[h.pc.toNat]) h.regs).toNat]) (by omega)) (by first | (simp; done) | (simp [inR_iff]; done) | (simp [inR_iff]; grind) | grind) (fun hG => by simp [go_sem, qp0, qp1, qp2, qt0, qt1, qt2]) rfl rfl (by first | exact Or.inl rfl | exact Or.inr rfl) ?_
      simp [go_sem, ty3, ty54, ty61, qp0, qp1, qp2, qt0, qt1, qt2]
      repeat refine ⟨by first | omega | grind, ?_⟩
      refine h8 _ ?_
      clear h8 K8
      refine W_seqK fun K9 h9 => ?_
      refine W_seqK fun K10 h10 => ?_
      refine W_reg ?_
      simp [go_sem, ty3, ty4, ty68, qp0, qp1, qp2, qt0, qt1, qt2]
      repeat refine ⟨by first | omega | grind, ?_⟩
      refine h10 _ ?_
      clear h10 K10
      refine W_cond rfl (fun hb11 => ?_) fun hb11 => ?_
      · have qo : ¬ (decode mem[h.pc.toNat]).op = 5 := by simpa using hb11
        clear hb11
        refine W_reg ?_
        simp [go_sem, ty3, ty22, ty54, qp0, qp1, qp2, qt0, qt1, qt2]
        repeat refine ⟨by first | omega | grind, ?_⟩
        refine h9 _ ?_
        clear h9 K9
        refine W_seqK fun K12 h12 => ?_
        refine W_reg ?_
        simp [go_sem, ty54, qp0, qp1, qp2, qt0, qt1, qt2]
        repeat refine ⟨by first | omega | grind, ?_⟩
        refine h12 _ ?_
        clear h12 K12
        refine W_ret ?_
        first | (simp [go_sem, ty54, eventOf, qp2, qn, qo]; done) | (simp [go_sem, ty54, eventOf, qp2, qt2, qn, qo]; done)
      · have qo : (decode mem[h.pc.toNat]).op = 5 := by simpa using hb11
        clear hb11
        refine W_skip ?_
        repeat refine ⟨by first | omega | grind, ?_⟩
        refine h9 _ ?_
        clear h9 K9
        refine W_seqK fun K13 h13 => ?_
        refine W_reg ?_
        simp [go_sem, ty54, qp0, qp1, qp2, qt0, qt1, qt2]
        repeat refine ⟨by first | omega | grind, ?_⟩
        refine h13 _ ?_
        clear h13 K13
        refine W_ret ?_
        first | (simp [go_sem, ty54, eventOf, qp2, qn, qo]; done) | (simp [go_sem, ty54, eventOf, qp2, qt2, qn, qo]; done)
  · try simp (config := {maxSteps := 10000000}) [go_sem, ty3, ty22, ty54, ty68, qp0, qp1, qp2]
    refine callG_pc (fun hG => pc_impl_Target (decode mem[h.pc.toNat]) h.regs) (by first | (simp; done) | (simp [inR_iff]; done) | (simp [inR_iff]; grind) | grind) (fun hG => by simp [go_sem, qp0, qp1, qp2]) rfl rfl (by first | exact Or.inl rfl | exact Or.inr rfl) ?_
    simp (config := {maxSteps := 10000000}) [go_sem, ty54, fw54, qp0, qp1, qp2]
    repeat refine ⟨by first | omega | grind, ?_⟩
    refine h3 _ ?_
    clear h3 K3
    refine W_seqK fun K14 h14 => ?_
    refine W_seqK fun K15 h15 => ?_
    refine W_reg ?_
    simp [go_sem, ty3, ty4, ty54, qp0, qp1, qp2]
    repeat refine ⟨by first | omega | grind, ?_⟩
    refine h15 _ ?_
    clear h15 K15
    refine W_cond rfl (fun hb16 => ?_) fun hb16 => ?_
    · have qn : (target (decode mem[h.pc.toNat]) h.regs) < 0 := by simpa using hb16
      clear hb16
      refine W_seqK fun K17 h17 => ?_
      refine W_reg ?_
      simp [go_sem, ty54, qp0, qp1, qp2]
      repeat refine ⟨by first | omega | grind, ?_⟩
      refine h17 _ ?_
      clear h17 K17
      refine W_ret ?_
      first | (simp [go_sem, ty54, eventOf, qp2, qn]; done) | (simp [go_sem, ty54, eventOf, qp2, qt2, qn]; done)
    · have qn : ¬ (target (decode mem[h.pc.toNat]) h.regs) < 0 := by simpa using hb16
      clear hb16
      have qrng := target_range (decode mem[h.pc.toNat]) h.regs
      have qt0 : 0 ≤ (target (decode mem[h.pc.toNat]) h.regs) := by omega
      have qt1 : (target (decode mem[h.pc.toNat]) h.regs) < (mem.length : Int) := by omega
      have qt2 : (target (decode mem[h.pc.toNat]) h.regs).toNat < mem.length := by omega
      refine W_skip ?_
      repeat refine ⟨by first | omega | grind, ?_⟩
      refine h14 _ ?_
      clear h14 K14
      refine W_seqK fun K18 h18 => ?_
      refine W_drawT true mixed (by decide +kernel) ?_
      simp [go_sem, ty3, ty22, ty54, ty61, ty68, qp0, qp1, qp2, qt0, qt1, qt2]
      refine callG_pc (fun hG => pc_impl_Work h (decode mem[h.pc.toNat]) (mem[(target (decode mem[h.pc.toNat]) h.regs).toNat]) (by omega)) (by first | (simp; done) | (simp [inR_iff]; done) | (simp [inR_iff]; grind) | grind) (fun hG => by simp [go_sem, qp0, qp1, qp2, qt0, qt1, qt2]) rfl rfl (by first | exact Or.inl rfl | exact Or.inr rfl) ?_
      simp [go_sem, ty3, ty54, ty61, qp0, qp1, qp2, qt0, qt1, qt2]
      repeat refine ⟨by first | omega | grind, ?_⟩
      refine h18 _ ?_
      clear h18 K18
      refine W_seqK fun K19 h19 => ?_
      refine W_seqK fun K20 h20 => ?_
      refine W_reg ?_
      simp [go_sem, ty3, ty4, ty68, qp0, qp1, qp2, qt0, qt1, qt2]
      repeat refine ⟨by first | omega | grind, ?_⟩
      refine h20 _ ?_
      clear h20 K20
      refine W_cond rfl (fun hb21 => ?_) fun hb21 => ?_
      · have qo : ¬ (decode mem[h.pc.toNat]).op = 5 := by simpa using hb21
        clear hb21
        refine W_reg ?_
        simp [go_sem, ty3, ty22, ty54, qp0, qp1, qp2, qt0, qt1, qt2]
        repeat refine ⟨by first | omega | grind, ?_⟩
        refine h19 _ ?_
        clear h19 K19
        refine W_seqK fun K22 h22 => ?_
        refine W_reg ?_
        simp [go_sem, ty54, qp0, qp1, qp2, qt0, qt1, qt2]
        repeat refine ⟨by first | omega | grind, ?_⟩
        refine h22 _ ?_
        clear h22 K22
        refine W_ret ?_
        first | (simp [go_sem, ty54, eventOf, qp2, qn, qo]; done) | (simp [go_sem, ty54, eventOf, qp2, qt2, qn, qo]; done)
      · have qo : (decode mem[h.pc.toNat]).op = 5 := by simpa using hb21
        clear hb21
        refine W_skip ?_
        repeat refine ⟨by first | omega | grind, ?_⟩
        refine h19 _ ?_
        clear h19 K19
        refine W_seqK fun K23 h23 => ?_
        refine W_reg ?_
        simp [go_sem, ty54, qp0, qp1, qp2, qt0, qt1, qt2]
        repeat refine ⟨by first | omega | grind, ?_⟩
        refine h23 _ ?_
        clear h23 K23
        refine W_ret ?_
        first | (simp [go_sem, ty54, eventOf, qp2, qn, qo]; done) | (simp [go_sem, ty54, eventOf, qp2, qt2, qn, qo]; done)

set_option maxRecDepth 100000 in
set_option maxHeartbeats 4000000 in
theorem pc_spec_EventOf (mem : List Int) (h : GHart) (who : Int) (hx : h.regs.length ≤ 1048576) (hm : mem.length ≤ 1048576) : PC Try.prog 46 [(false, [.sl 1 (enc eI mem)]), (true, eHart h), (false, [.int .i64 who])] [(true, eEvent (evRes mem h who)), (false, [.bool (evOk mem h)])] := by
  refine PC_of (n := 68) Try.func46 rfl rfl rfl rfl (by simp) ?_
  refine W_seqK fun K1 h1 => ?_
  refine W_reg ?_
  simp [go_sem, ty4, ty54, ty61]
  repeat refine ⟨by first | omega | grind, ?_⟩
  refine h1 _ ?_
  clear h1 K1
  refine W_seqK fun K2 h2 => ?_
  refine W_seqK fun K3 h3 => ?_
  refine W_reg ?_
  simp [go_sem, ty3, ty4, ty22]
  refine callG_pc (fun hG => pc_spec_l1Words mem 24 (by omega)) (by first | (simp; done) | (simp [inR_iff]; done) | (simp [inR_iff]; grind) | grind) (fun hG => by simp [go_sem]) rfl rfl (by first | exact Or.inl rfl | exact Or.inr rfl) ?_
  simp [go_sem, ty4, ty61]
  refine callG_pc (fun hG => pc_spec_HartOk h (by omega)) (by first | (simp; done) | (simp [inR_iff]; done) | (simp [inR_iff]; grind) | grind) (fun hG => by simp [go_sem]) rfl rfl (by first | exact Or.inl rfl | exact Or.inr rfl) ?_
  simp [go_sem, ty3, ty4, ty61]
  repeat refine ⟨by first | omega | grind, ?_⟩
  refine h3 _ ?_
  clear h3 K3
  refine W_cond rfl (fun hb4 => ?_) fun hb4 => ?_
  · have qe : evOk mem h = false := by rw [← Bool.not_eq_true, evOk_iff]; simp at hb4 ⊢; grind
    clear hb4
    have qr : evRes mem h who = ⟨0, 0, 0, 0, 0⟩ := by unfold evRes; rw [if_neg (by simp [qe])]
    refine W_seqK fun K5 h5 => ?_
    refine W_reg ?_
    simp [go_sem, ty4, ty54, fw54]
    repeat refine ⟨by first | omega | grind, ?_⟩
    refine h5 _ ?_
    clear h5 K5
    refine W_ret ?_
    first | (simp [go_sem, ty54, qe, qr]; done) | (simp [go_sem, ty54, eventOf, qp2, qe, qr]; done) | (simp [go_sem, ty54, eventOf, qp2, qt2, qe, qr]; done)
  · have qe : evOk mem h = true := by rw [evOk_iff]; simp at hb4 ⊢; grind
    clear hb4
    have qr : evRes mem h who = eventOf mem h who := by unfold evRes; rw [if_pos qe]
    obtain ⟨qw, qg, qs⟩ := (evOk_iff mem h).1 qe
    obtain ⟨qw4, ql, ⟨qp0, qp3⟩, qst⟩ := hart_facts qg
    have qm := wordsOk_len qw
    have qp1 : h.pc < (mem.length : Int) := by omega
    have qp2 : h.pc.toNat < mem.length := by omega
    refine W_skip ?_
    repeat refine ⟨by first | omega | grind, ?_⟩
    refine h2 _ ?_
    clear h2 K2
    refine W_seqK fun K6 h6 => ?_
    refine W_reg ?_
    simp [go_sem, ty3, ty22, ty61, qp0, qp1, qp2]
    refine callG_pc (fun hG => pc_spec_Decode mem[h.pc.toNat]) (by first | (simp; done) | (simp [inR_iff]; done) | (simp [inR_iff]; grind) | grind) (fun hG => by simp [go_sem, qp0, qp1, qp2]) rfl rfl (by first | exact Or.inl rfl | exact Or.inr rfl) ?_
    simp [go_sem, ty4, ty68, qp0, qp1, qp2]
    repeat refine ⟨by first | omega | grind, ?_⟩
    refine h6 _ ?_
    clear h6 K6
    refine W_seqK fun K7 h7 => ?_
    refine W_drawS true (.op 0 (.op 1 (.op 2 (.op 3 (.op 4 (.op 5 (.fork 6 (.op 7 (.op 8 (.op 9 .nil))) 8 (.op 6 (.op 7 (.op 9 .nil)))))))))) mixed (by decide +kernel) rfl ?_
    simp (config := {maxSteps := 10000000}) [go_sem, ty3, ty22, ty61, ty68, qp0, qp1, qp2]
    refine ⟨?_, ?_⟩
    · try simp (config := {maxSteps := 10000000}) [go_sem, ty3, ty22, ty68, qp0, qp1, qp2]
      refine callG_pc (fun hG => pc_spec_Target (decode mem[h.pc.toNat]) h.regs) (by first | (simp; done) | (simp [inR_iff]; done) | (simp [inR_iff]; grind) | grind) (fun hG => by simp [go_sem, qp0, qp1, qp2]) rfl rfl (by first | exact Or.inl rfl | exact Or.inr rfl) ?_
      simp (config := {maxSteps := 10000000}) [go_sem, ty54, fw54, qp0, qp1, qp2]
      repeat refine ⟨by first | omega | grind, ?_⟩
      refine h7 _ ?_
      clear h7 K7
      refine W_seqK fun K8 h8 => ?_
      refine W_seqK fun K9 h9 => ?_
      refine W_reg ?_
      simp [go_sem, ty3, ty4, ty54, qp0, qp1, qp2]
      repeat refine ⟨by first | omega | grind, ?_⟩
      refine h9 _ ?_
      clear h9 K9
      refine W_cond rfl (fun hb10 => ?_) fun hb10 => ?_
      · have qn : (target (decode mem[h.pc.toNat]) h.regs) < 0 := by simpa using hb10
        clear hb10
        refine W_seqK fun K11 h11 => ?_
        refine W_reg ?_
        simp [go_sem, ty4, ty54, qp0, qp1, qp2]
        repeat refine ⟨by first | omega | grind, ?_⟩
        refine h11 _ ?_
        clear h11 K11
        refine W_ret ?_
        first | (simp [go_sem, ty54, qe, qr, qn]; done) | (simp [go_sem, ty54, eventOf, qp2, qe, qr, qn]; done) | (simp [go_sem, ty54, eventOf, qp2, qt2, qe, qr, qn]; done)
      · have qn : ¬ (target (decode mem[h.pc.toNat]) h.regs) < 0 := by simpa using hb10
        clear hb10
        have qrng := target_range (decode mem[h.pc.toNat]) h.regs
        have qt0 : 0 ≤ (target (decode mem[h.pc.toNat]) h.regs) := by omega
        have qt1 : (target (decode mem[h.pc.toNat]) h.regs) < (mem.length : Int) := by omega
        have qt2 : (target (decode mem[h.pc.toNat]) h.regs).toNat < mem.length := by omega
        refine W_skip ?_
        repeat refine ⟨by first | omega | grind, ?_⟩
        refine h8 _ ?_
        clear h8 K8
        refine W_seqK fun K12 h12 => ?_
        refine W_drawT true mixed (by decide +kernel) ?_
        simp [go_sem, ty3, ty22, ty54, ty61, ty68, qp0, qp1, qp2, qt0, qt1, qt2]
        refine callG_pc (fun hG => pc_spec_Work h (decode mem[h.pc.toNat]) (mem[(target (decode mem[h.pc.toNat]) h.regs).toNat]) (by omega)) (by first | (simp; done) | (simp [inR_iff]; done) | (simp [inR_iff]; grind) | grind) (fun hG => by simp [go_sem, qp0, qp1, qp2, qt0, qt1, qt2]) rfl rfl (by first | exact Or.inl rfl | exact Or.inr rfl) ?_
        simp [go_sem, ty3, ty54, ty61, qp0, qp1, qp2, qt0, qt1, qt2]
        repeat refine ⟨by first | omega | grind, ?_⟩
        refine h12 _ ?_
        clear h12 K12
        refine W_seqK fun K13 h13 => ?_
        refine W_seqK fun K14 h14 => ?_
        refine W_reg ?_
        simp [go_sem, ty3, ty4, ty68, qp0, qp1, qp2, qt0, qt1, qt2]
        repeat refine ⟨by first | omega | grind, ?_⟩
        refine h14 _ ?_
        clear h14 K14
        refine W_cond rfl (fun hb15 => ?_) fun hb15 => ?_
        · have qo : ¬ (decode mem[h.pc.toNat]).op = 5 := by simpa using hb15
          clear hb15
          refine W_reg ?_
          simp [go_sem, ty3, ty22, ty54, qp0, qp1, qp2, qt0, qt1, qt2]
          repeat refine ⟨by first | omega | grind, ?_⟩
          refine h13 _ ?_
          clear h13 K13
          refine W_seqK fun K16 h16 => ?_
          refine W_reg ?_
          simp [go_sem, ty4, ty54, qp0, qp1, qp2, qt0, qt1, qt2]
          repeat refine ⟨by first | omega | grind, ?_⟩
          refine h16 _ ?_
          clear h16 K16
          refine W_ret ?_
          first | (simp [go_sem, ty54, qe, qr, qn, qo]; done) | (simp [go_sem, ty54, eventOf, qp2, qe, qr, qn, qo]; done) | (simp [go_sem, ty54, eventOf, qp2, qt2, qe, qr, qn, qo]; done)
        · have qo : (decode mem[h.pc.toNat]).op = 5 := by simpa using hb15
          clear hb15
          refine W_skip ?_
          repeat refine ⟨by first | omega | grind, ?_⟩
          refine h13 _ ?_
          clear h13 K13
          refine W_seqK fun K17 h17 => ?_
          refine W_reg ?_
          simp [go_sem, ty4, ty54, qp0, qp1, qp2, qt0, qt1, qt2]
          repeat refine ⟨by first | omega | grind, ?_⟩
          refine h17 _ ?_
          clear h17 K17
          refine W_ret ?_
          first | (simp [go_sem, ty54, qe, qr, qn, qo]; done) | (simp [go_sem, ty54, eventOf, qp2, qe, qr, qn, qo]; done) | (simp [go_sem, ty54, eventOf, qp2, qt2, qe, qr, qn, qo]; done)
    · try simp (config := {maxSteps := 10000000}) [go_sem, ty3, ty22, ty54, ty68, qp0, qp1, qp2]
      refine callG_pc (fun hG => pc_spec_Target (decode mem[h.pc.toNat]) h.regs) (by first | (simp; done) | (simp [inR_iff]; done) | (simp [inR_iff]; grind) | grind) (fun hG => by simp [go_sem, qp0, qp1, qp2]) rfl rfl (by first | exact Or.inl rfl | exact Or.inr rfl) ?_
      simp (config := {maxSteps := 10000000}) [go_sem, ty54, fw54, qp0, qp1, qp2]
      repeat refine ⟨by first | omega | grind, ?_⟩
      refine h7 _ ?_
      clear h7 K7
      refine W_seqK fun K18 h18 => ?_
      refine W_seqK fun K19 h19 => ?_
      refine W_reg ?_
      simp [go_sem, ty3, ty4, ty54, qp0, qp1, qp2]
      repeat refine ⟨by first | omega | grind, ?_⟩
      refine h19 _ ?_
      clear h19 K19
      refine W_cond rfl (fun hb20 => ?_) fun hb20 => ?_
      · have qn : (target (decode mem[h.pc.toNat]) h.regs) < 0 := by simpa using hb20
        clear hb20
        refine W_seqK fun K21 h21 => ?_
        refine W_reg ?_
        simp [go_sem, ty4, ty54, qp0, qp1, qp2]
        repeat refine ⟨by first | omega | grind, ?_⟩
        refine h21 _ ?_
        clear h21 K21
        refine W_ret ?_
        first | (simp [go_sem, ty54, qe, qr, qn]; done) | (simp [go_sem, ty54, eventOf, qp2, qe, qr, qn]; done) | (simp [go_sem, ty54, eventOf, qp2, qt2, qe, qr, qn]; done)
      · have qn : ¬ (target (decode mem[h.pc.toNat]) h.regs) < 0 := by simpa using hb20
        clear hb20
        have qrng := target_range (decode mem[h.pc.toNat]) h.regs
        have qt0 : 0 ≤ (target (decode mem[h.pc.toNat]) h.regs) := by omega
        have qt1 : (target (decode mem[h.pc.toNat]) h.regs) < (mem.length : Int) := by omega
        have qt2 : (target (decode mem[h.pc.toNat]) h.regs).toNat < mem.length := by omega
        refine W_skip ?_
        repeat refine ⟨by first | omega | grind, ?_⟩
        refine h18 _ ?_
        clear h18 K18
        refine W_seqK fun K22 h22 => ?_
        refine W_drawT true mixed (by decide +kernel) ?_
        simp [go_sem, ty3, ty22, ty54, ty61, ty68, qp0, qp1, qp2, qt0, qt1, qt2]
        refine callG_pc (fun hG => pc_spec_Work h (decode mem[h.pc.toNat]) (mem[(target (decode mem[h.pc.toNat]) h.regs).toNat]) (by omega)) (by first | (simp; done) | (simp [inR_iff]; done) | (simp [inR_iff]; grind) | grind) (fun hG => by simp [go_sem, qp0, qp1, qp2, qt0, qt1, qt2]) rfl rfl (by first | exact Or.inl rfl | exact Or.inr rfl) ?_
        simp [go_sem, ty3, ty54, ty61, qp0, qp1, qp2, qt0, qt1, qt2]
        repeat refine ⟨by first | omega | grind, ?_⟩
        refine h22 _ ?_
        clear h22 K22
        refine W_seqK fun K23 h23 => ?_
        refine W_seqK fun K24 h24 => ?_
        refine W_reg ?_
        simp [go_sem, ty3, ty4, ty68, qp0, qp1, qp2, qt0, qt1, qt2]
        repeat refine ⟨by first | omega | grind, ?_⟩
        refine h24 _ ?_
        clear h24 K24
        refine W_cond rfl (fun hb25 => ?_) fun hb25 => ?_
        · have qo : ¬ (decode mem[h.pc.toNat]).op = 5 := by simpa using hb25
          clear hb25
          refine W_reg ?_
          simp [go_sem, ty3, ty22, ty54, qp0, qp1, qp2, qt0, qt1, qt2]
          repeat refine ⟨by first | omega | grind, ?_⟩
          refine h23 _ ?_
          clear h23 K23
          refine W_seqK fun K26 h26 => ?_
          refine W_reg ?_
          simp [go_sem, ty4, ty54, qp0, qp1, qp2, qt0, qt1, qt2]
          repeat refine ⟨by first | omega | grind, ?_⟩
          refine h26 _ ?_
          clear h26 K26
          refine W_ret ?_
          first | (simp [go_sem, ty54, qe, qr, qn, qo]; done) | (simp [go_sem, ty54, eventOf, qp2, qe, qr, qn, qo]; done) | (simp [go_sem, ty54, eventOf, qp2, qt2, qe, qr, qn, qo]; done)
        · have qo : (decode mem[h.pc.toNat]).op = 5 := by simpa using hb25
          clear hb25
          refine W_skip ?_
          repeat refine ⟨by first | omega | grind, ?_⟩
          refine h23 _ ?_
          clear h23 K23
          refine W_seqK fun K27 h27 => ?_
          refine W_reg ?_
          simp [go_sem, ty4, ty54, qp0, qp1, qp2, qt0, qt1, qt2]
          repeat refine ⟨by first | omega | grind, ?_⟩
          refine h27 _ ?_
          clear h27 K27
          refine W_ret ?_
          first | (simp [go_sem, ty54, qe, qr, qn, qo]; done) | (simp [go_sem, ty54, eventOf, qp2, qe, qr, qn, qo]; done) | (simp [go_sem, ty54, eventOf, qp2, qt2, qe, qr, qn, qo]; done)

set_option maxRecDepth 100000 in
set_option maxHeartbeats 4000000 in
theorem pc_impl_EventOf (mem : List Int) (h : GHart) (who : Int) (hx : h.regs.length ≤ 1048576) (hm : mem.length ≤ 1048576) : PC Try.prog 45 [(false, [.sl 1 (enc eI mem)]), (true, eHart h), (false, [.int .i64 who])] [(true, eEvent (evRes mem h who)), (false, [.bool (evOk mem h)])] := by
  refine PC_of (n := 21) Try.func45 rfl rfl rfl rfl (by simp) ?_
  refine W_seqK fun K1 h1 => ?_
  refine W_reg ?_
  simp [go_sem, ty4, ty54, ty61]
  repeat refine ⟨by first | omega | grind, ?_⟩
  refine h1 _ ?_
  clear h1 K1
  refine W_seqK fun K2 h2 => ?_
  refine W_seqK fun K3 h3 => ?_
  refine W_reg ?_
  simp [go_sem, ty3, ty4, ty22]
  refine callG_pc (fun hG => pc_impl_memOk mem (by omega)) (by first | (simp; done) | (simp [inR_iff]; done) | (simp [inR_iff]; grind) | grind) (fun hG => by simp [go_sem]) rfl rfl (by first | exact Or.inl rfl | exact Or.inr rfl) ?_
  simp [go_sem, ty4, ty61]
  refine callG_pc (fun hG => pc_impl_goes h (by omega)) (by first | (simp; done) | (simp [inR_iff]; done) | (simp [inR_iff]; grind) | grind) (fun hG => by simp [go_sem]) rfl rfl (by first | exact Or.inl rfl | exact Or.inr rfl) ?_
  simp [go_sem, ty4]
  repeat refine ⟨by first | omega | grind, ?_⟩
  refine h3 _ ?_
  clear h3 K3
  refine W_cond rfl (fun hb4 => ?_) fun hb4 => ?_
  · have qe : evOk mem h = false := by unfold evOk; simp at hb4 ⊢; grind
    clear hb4
    have qr : evRes mem h who = ⟨0, 0, 0, 0, 0⟩ := by unfold evRes; rw [if_neg (by simp [qe])]
    refine W_seqK fun K5 h5 => ?_
    refine W_reg ?_
    simp [go_sem, ty4, ty54, fw54]
    repeat refine ⟨by first | omega | grind, ?_⟩
    refine h5 _ ?_
    clear h5 K5
    refine W_ret ?_
    simp [go_sem, ty54, qe, qr]
  · have qe : evOk mem h = true := by unfold evOk; simp at hb4 ⊢; grind
    clear hb4
    have qr : evRes mem h who = eventOf mem h who := by unfold evRes; rw [if_pos qe]
    obtain ⟨qw, qgo⟩ : wordsOk mem 24 = true ∧ goes h = true := by simpa [evOk] using qe
    refine W_skip ?_
    repeat refine ⟨by first | omega | grind, ?_⟩
    refine h2 _ ?_
    clear h2 K2
    refine W_seqK fun K6 h6 => ?_
    refine W_reg ?_
    simp [go_sem, ty3, ty22, ty54, ty61]
    refine callG_pc (fun hG => pc_impl_eventOf mem h who qw qgo) (by first | (simp; done) | (simp [inR_iff]; done) | (simp [inR_iff]; grind) | grind) (fun hG => by simp [go_sem]) rfl rfl (by first | exact Or.inl rfl | exact Or.inr rfl) ?_
    simp [go_sem, ty4, ty54]
    repeat refine ⟨by first | omega | grind, ?_⟩
    refine h6 _ ?_
    clear h6 K6
    refine W_ret ?_
    simp [go_sem, ty54, qe, qr]
end Go.Tw
