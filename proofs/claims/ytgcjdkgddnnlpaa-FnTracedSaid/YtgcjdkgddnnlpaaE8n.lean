/- Walks of functions: spec.FlatStep -/
import Derived.Test.YtgcjdkgddnnlpaaE6h
import Derived.Test.YtgcjdkgddnnlpaaE6i
import Derived.Test.YtgcjdkgddnnlpaaE6j
import Derived.Test.YtgcjdkgddnnlpaaBaseF
set_option linter.unusedSimpArgs false
set_option linter.unusedVariables false
set_option linter.unnecessarySimpa false
namespace Go.Tw
open Go.Proofs

set_option maxRecDepth 100000 in
set_option maxHeartbeats 4000000 in
theorem pc_spec_FlatStep (mem : List Int) (h : GHart) (hm : mem.length ≤ 1048576) (hx : h.regs.length ≤ 1048576) : PC Try.prog 107 [(false, [.sl 1 (enc eI mem)]), (true, eHart h)] [(false, [.sl 1 (enc eI (flatM mem h))]), (true, eHart (flatH mem h))] := by
  refine PC_of (n := 66) Try.func107 rfl rfl rfl rfl (by simp) ?_
  refine W_seqK fun K1 h1 => ?_
  refine W_reg ?_
  simp [go_sem, ty3, ty22, ty61]
  repeat refine ⟨by first | omega | grind, ?_⟩
  refine h1 _ ?_
  clear h1 K1
  refine W_seqK fun K2 h2 => ?_
  refine W_reg ?_
  simp [go_sem, ty3, ty22]
  repeat refine ⟨by first | omega | grind, ?_⟩
  refine h2 _ ?_
  clear h2 K2
  refine W_seqK fun K3 h3 => ?_
  refine W_seqK fun K4 h4 => ?_
  refine W_reg ?_
  simp [go_sem, ty3, ty4, ty22]
  refine callG_pc (fun hG => pc_spec_l1Words mem 24 (by omega)) (by first | (simp; done) | (simp [inR_iff]; done) | (simp [inR_iff]; grind) | grind) (fun hG => by simp [go_sem]) rfl rfl (by first | exact Or.inl rfl | exact Or.inr rfl) ?_
  simp [go_sem, ty4, ty61]
  refine callG_pc (fun hG => pc_spec_HartOk h (by omega)) (by first | (simp; done) | (simp [inR_iff]; done) | (simp [inR_iff]; grind) | grind) (fun hG => by simp [go_sem]) rfl rfl (by first | exact Or.inl rfl | exact Or.inr rfl) ?_
  simp [go_sem, ty3, ty4, ty61]
  repeat refine ⟨by first | omega | grind, ?_⟩
  refine h4 _ ?_
  clear h4 K4
  refine W_cond rfl (fun hb5 => ?_) fun hb5 => ?_
  · have qe : evOk mem h = false := by rw [← Bool.not_eq_true, evOk_iff]; simp at hb5 ⊢; grind
    obtain ⟨qf1, qf2⟩ := flat_no qe
    clear hb5
    refine W_seqK fun K6 h6 => ?_
    refine W_reg ?_
    simp [go_sem, ty3, ty22, ty61]
    refine callG_pc (fun hG => pc_spec_l9Copy h (by omega)) (by first | (simp; done) | (simp [inR_iff]; done) | (simp [inR_iff]; grind) | grind) (fun hG => by simp [go_sem]) rfl rfl (by first | exact Or.inl rfl | exact Or.inr rfl) ?_
    simp [go_sem, ty3, ty22, ty61]
    repeat refine ⟨by first | omega | grind, ?_⟩
    refine h6 _ ?_
    clear h6 K6
    refine W_ret ?_
    simp [go_sem, ty61, qf1, qf2]
  · have qe : evOk mem h = true := by rw [evOk_iff]; simp at hb5 ⊢; grind
    obtain ⟨qf1, qf2⟩ := flat_yes qe
    have qw := (evOk_iff mem h).1 qe
    have qgo : goes h = true := by unfold goes; simp [qw.2.1, qw.2.2]
    replace qw := qw.1
    clear hb5
    refine W_skip ?_
    repeat refine ⟨by first | omega | grind, ?_⟩
    refine h3 _ ?_
    clear h3 K3
    refine W_seqK fun K7 h7 => ?_
    refine W_reg ?_
    obtain ⟨qg, qs⟩ := goes_facts qgo
    obtain ⟨qw4, ql, ⟨qp0, qp3⟩, qst⟩ := hart_facts qg
    have qm := wordsOk_len qw
    have qp1 : h.pc < (mem.length : Int) := by omega
    have qp2 : h.pc.toNat < mem.length := by omega
    have qx : decode mem[h.pc.toNat] = (xAt mem h) := by simp [xAt, qp2]
    simp [go_sem, ty3, ty22, ty61, qp0, qp1, qp2, qx]
    refine callG_pc (fun hG => pc_spec_Decode (mem.getD h.pc.toNat 0)) (by first | (simp; done) | (simp [inR_iff]; done) | (simp [inR_iff]; grind) | grind) (fun hG => by simp [go_sem, qp2]) rfl rfl (by first | exact Or.inl rfl | exact Or.inr rfl) ?_
    simp [go_sem, ty4, ty68, qp0, qp1, qp2, qx]
    repeat refine ⟨by first | omega | grind, ?_⟩
    refine h7 _ ?_
    clear h7 K7
    refine W_seqK fun K8 h8 => ?_
    refine W_reg ?_
    have qt : target (xAt mem h) h.regs = tAt mem h := rfl
    simp [go_sem, ty3, ty22, ty61, ty68, qt]
    refine callG_pc (fun hG => pc_spec_Target (xAt mem h) h.regs) (by first | (simp; done) | (simp [inR_iff]; done) | (simp [inR_iff]; grind) | grind) (fun hG => by simp [go_sem]) rfl rfl (by first | exact Or.inl rfl | exact Or.inr rfl) ?_
    simp [go_sem, ty3, qt]
    repeat refine ⟨by first | omega | grind, ?_⟩
    refine h8 _ ?_
    clear h8 K8
    refine W_seqK fun K9 h9 => ?_
    refine W_reg ?_
    simp [go_sem, ty3]
    repeat refine ⟨by first | omega | grind, ?_⟩
    refine h9 _ ?_
    clear h9 K9
    refine W_seqK fun K10 h10 => ?_
    refine W_seqK fun K11 h11 => ?_
    refine W_reg ?_
    simp [go_sem, ty3, ty4]
    repeat refine ⟨by first | omega | grind, ?_⟩
    refine h11 _ ?_
    clear h11 K11
    refine W_cond rfl (fun hb12 => ?_) fun hb12 => ?_
    · have t0 : 0 ≤ tAt mem h := by simpa using hb12
      have t1 : tAt mem h ≤ 23 := by have t9 := target_range (xAt mem h) h.regs; rw [qt] at t9; omega
      have t2 : (tAt mem h).toNat < mem.length := by omega
      have t3 : tAt mem h < (mem.length : Int) := by omega
      have qgt : gAt mem h = mem[(tAt mem h).toNat] := by unfold gAt; rw [if_pos t0]; simp [t2]
      clear hb12
      refine W_reg ?_
      simp [go_sem, ty3, ty22, t0, t2, t3]
      repeat refine ⟨by first | omega | grind, ?_⟩
      refine h10 _ ?_
      clear h10 K10
      refine W_seqK fun K13 h13 => ?_
      refine W_reg ?_
      have qs1 : (work h (xAt mem h) (gAt mem h)).1 = stepH mem h := rfl
      have qs2 : (work h (xAt mem h) (gAt mem h)).2 = putAt mem h := rfl
      simp [go_sem, ty3, ty61, ty68, qs1, qs2, t0, t2, t3]
      refine callG_pc (fun hG => pc_spec_Work h (xAt mem h) (gAt mem h) (by omega)) (by first | (simp; done) | (simp [inR_iff]; done) | (simp [inR_iff]; grind) | grind) (fun hG => by simp [go_sem, qgt, t0, t2, t3]) rfl rfl (by first | exact Or.inl rfl | exact Or.inr rfl) ?_
      simp [go_sem, ty3, ty61, qs1, qs2, t0, t2, t3]
      repeat refine ⟨by first | omega | grind, ?_⟩
      refine h13 _ ?_
      clear h13 K13
      refine W_seqK fun K14 h14 => ?_
      refine W_seqK fun K15 h15 => ?_
      refine W_reg ?_
      simp [go_sem, ty3, ty4, t0, t2, t3]
      repeat refine ⟨by first | omega | grind, ?_⟩
      refine h15 _ ?_
      clear h15 K15
      refine W_cond rfl (fun hb16 => ?_) fun hb16 => ?_
      · have qsm : stepM mem h = mem.set (tAt mem h).toNat (putAt mem h) := by unfold stepM; rw [if_pos (by simpa using hb16)]
        clear hb16
        refine W_reg ?_
        simp [go_sem, ty3, ty22, t0, t2, t3]
        repeat refine ⟨by first | omega | grind, ?_⟩
        refine h14 _ ?_
        clear h14 K14
        refine W_seqK fun K17 h17 => ?_
        refine W_drawT true mixed (by decide +kernel) ?_
        simp [go_sem, ty3, ty22, ty61, t0, t2, t3]
        repeat refine ⟨by first | omega | grind, ?_⟩
        refine h17 _ ?_
        clear h17 K17
        refine W_ret ?_
        simp [go_sem, ty61, qf1, qf2, t0, qsm]
      · have qsm : stepM mem h = mem := by unfold stepM; rw [if_neg (by simpa using hb16)]
        clear hb16
        refine W_skip ?_
        repeat refine ⟨by first | omega | grind, ?_⟩
        refine h14 _ ?_
        clear h14 K14
        refine W_seqK fun K18 h18 => ?_
        refine W_drawT true mixed (by decide +kernel) ?_
        simp [go_sem, ty3, ty22, ty61, t0, t2, t3]
        repeat refine ⟨by first | omega | grind, ?_⟩
        refine h18 _ ?_
        clear h18 K18
        refine W_ret ?_
        simp [go_sem, ty61, qf1, qf2, t0, qsm]
    · have qn : ¬ 0 ≤ tAt mem h := by simpa using hb12
      have qgt : gAt mem h = 0 := by unfold gAt; rw [if_neg qn]
      clear hb12
      refine W_skip ?_
      repeat refine ⟨by first | omega | grind, ?_⟩
      refine h10 _ ?_
      clear h10 K10
      refine W_seqK fun K19 h19 => ?_
      refine W_reg ?_
      have qs1 : (work h (xAt mem h) (gAt mem h)).1 = stepH mem h := rfl
      have qs2 : (work h (xAt mem h) (gAt mem h)).2 = putAt mem h := rfl
      simp [go_sem, ty3, ty61, ty68, qs1, qs2]
      refine callG_pc (fun hG => pc_spec_Work h (xAt mem h) (gAt mem h) (by omega)) (by first | (simp; done) | (simp [inR_iff]; done) | (simp [inR_iff]; grind) | grind) (fun hG => by simp [go_sem, qgt]) rfl rfl (by first | exact Or.inl rfl | exact Or.inr rfl) ?_
      simp [go_sem, ty3, ty61, qs1, qs2]
      repeat refine ⟨by first | omega | grind, ?_⟩
      refine h19 _ ?_
      clear h19 K19
      refine W_seqK fun K20 h20 => ?_
      refine W_seqK fun K21 h21 => ?_
      refine W_reg ?_
      simp [go_sem, ty3, ty4]
      repeat refine ⟨by first | omega | grind, ?_⟩
      refine h21 _ ?_
      clear h21 K21
      refine W_cond rfl (fun hb22 => ?_) fun hb22 => ?_
      · exact absurd (put_at (mem := mem) (h := h) (by simpa using hb22)).1 qn
      · have qsm : stepM mem h = mem := by unfold stepM; rw [if_neg (by simpa using hb22)]
        clear hb22
        refine W_skip ?_
        repeat refine ⟨by first | omega | grind, ?_⟩
        refine h20 _ ?_
        clear h20 K20
        refine W_seqK fun K23 h23 => ?_
        refine W_drawT true mixed (by decide +kernel) ?_
        simp [go_sem, ty3, ty22, ty61]
        repeat refine ⟨by first | omega | grind, ?_⟩
        refine h23 _ ?_
        clear h23 K23
        refine W_ret ?_
        simp [go_sem, ty61, qf1, qf2, qn, qsm]
end Go.Tw
