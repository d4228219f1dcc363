/- Walks of functions: laws.FnTraced -/
import Derived.Test.YtgcjdkgddnnlpaaE8E
import Derived.Test.YtgcjdkgddnnlpaaE8C
import Derived.Test.YtgcjdkgddnnlpaaE8p
import Derived.Test.YtgcjdkgddnnlpaaE8u
import Derived.Test.YtgcjdkgddnnlpaaE7R
set_option linter.unusedSimpArgs false
set_option linter.unusedVariables false
set_option linter.unnecessarySimpa false
namespace Go.Tw
open Go.Proofs

set_option maxRecDepth 100000 in
set_option maxHeartbeats 4000000 in
theorem pc_laws_FnTraced (code : List Int)  : PC Try.prog 9 [(false, [.sl 1 (enc eU code)])] [(false, [.bool true])] := by
  refine PC_of (n := 150) Try.func9 rfl rfl rfl rfl (by simp) ?_
  refine W_seqK fun K1 h1 => ?_
  refine W_reg ?_
  simp [go_sem, ty4]
  repeat refine ⟨by first | omega | grind, ?_⟩
  refine h1 _ ?_
  clear h1 K1
  refine W_seqK fun K2 h2 => ?_
  refine W_seqK fun K3 h3 => ?_
  refine W_reg ?_
  simp [go_sem, ty4, ty5, ty71]
  refine callG_pc (fun hG => pc_laws_big code) (by first | (simp; done) | (simp [inR_iff]; done) | (simp [inR_iff]; grind) | grind) (fun hG => by simp [go_sem]) rfl rfl (by first | exact Or.inl rfl | exact Or.inr rfl) ?_
  simp [go_sem]
  repeat refine ⟨by first | omega | grind, ?_⟩
  refine h3 _ ?_
  clear h3 K3
  refine W_cond rfl (fun hb4 => ?_) fun hb4 => ?_
  · skip
    refine W_seqK fun K5 h5 => ?_
    refine W_reg ?_
    simp [go_sem, ty4]
    repeat refine ⟨by first | omega | grind, ?_⟩
    refine h5 _ ?_
    clear h5 K5
    refine W_ret ?_
    simp [go_sem]
  · have hcs : code.length ≤ 1048576 := by simp at hb4; omega
    clear hb4
    refine W_skip ?_
    repeat refine ⟨by first | omega | grind, ?_⟩
    refine h2 _ ?_
    clear h2 K2
    refine W_seqK fun K6 h6 => ?_
    refine W_reg ?_
    simp [go_sem, ty5, ty71]
    refine callG_true (by simp) (CallW_E (pe_spec_DrawTrace code (by first | first | assumption | omega | (simp only [redo_len]; omega) | (simp; done) | (simp; omega))) (by simp [go_sem, enc, eI]) _ (fun _ => rfl) rfl ?_)
    rintro ⟨m7, hs7, o7⟩ hq7
    try dsimp only at hq7
    obtain ⟨u1_7, u2_7, u3_7, u4_7⟩ := hq7
    have u5_7 : ∀ a ∈ hs7, a.regs.length ≤ 1048576 := fun a ha => by have := u3_7 a ha; omega
    have u6_7 := trace_len m7 hs7 o7
    simp [go_sem, ty2, ty3, ty22, ty61, ty73]
    repeat refine ⟨by first | omega | grind, ?_⟩
    refine h6 _ ?_
    clear h6 K6
    refine W_seqK fun K8 h8 => ?_
    refine W_reg ?_
    simp [go_sem, ty3, ty22, ty41, ty54, ty61, ty73]
    refine callG_pc (fun hG => pc_impl_Trace m7 hs7 o7 (by first | assumption | omega | (simp only [redo_len]; omega)) (by first | assumption | omega | (simp only [redo_len]; omega)) (by first | assumption | omega | (simp only [redo_len]; omega)) (by first | assumption | omega | (simp only [redo_len]; omega))) (by first | (simp; done) | (simp [inR_iff]; done) | (simp [inR_iff]; grind) | grind) (fun hG => by simp [go_sem]) rfl rfl (by first | exact Or.inl rfl | exact Or.inr rfl) ?_
    simp [go_sem, ty41, ty54]
    repeat refine ⟨by first | omega | grind, ?_⟩
    refine h8 _ ?_
    clear h8 K8
    refine W_seqK fun K9 h9 => ?_
    refine W_reg ?_
    simp [go_sem, ty3, ty22, ty41, ty54, ty61, ty73]
    refine callG_pc (fun hG => pc_spec_Trace m7 hs7 o7 (by first | assumption | omega | (simp only [redo_len]; omega)) (by first | assumption | omega | (simp only [redo_len]; omega)) (by first | assumption | omega | (simp only [redo_len]; omega)) (by first | assumption | omega | (simp only [redo_len]; omega))) (by first | (simp; done) | (simp [inR_iff]; done) | (simp [inR_iff]; grind) | grind) (fun hG => by simp [go_sem]) rfl rfl (by first | exact Or.inl rfl | exact Or.inr rfl) ?_
    simp [go_sem, ty41, ty54]
    repeat refine ⟨by first | omega | grind, ?_⟩
    refine h9 _ ?_
    clear h9 K9
    refine W_seqK fun K10 h10 => ?_
    refine W_reg ?_
    simp [go_sem, ty5, ty71]
    refine callG_true (by simp) (CallW_E (pe_spec_DrawEventOf code (by first | first | assumption | omega | (simp only [redo_len]; omega) | (simp; done) | (simp; omega))) (by simp [go_sem, enc, eI]) _ (fun _ => rfl) rfl ?_)
    rintro ⟨m11, h11, who11⟩ hq11
    try dsimp only at hq11
    obtain ⟨a1_11, a2_11⟩ := hq11
    simp [go_sem, ty2, ty3, ty22, ty61]
    repeat refine ⟨by first | omega | grind, ?_⟩
    refine h10 _ ?_
    clear h10 K10
    refine W_seqK fun K12 h12 => ?_
    refine W_reg ?_
    simp [go_sem, ty3, ty22, ty61]
    refine callG_pc (fun hG => pc_impl_EventOf m11 h11 who11 (by first | assumption | omega | (simp only [redo_len]; omega)) (by first | assumption | omega | (simp only [redo_len]; omega))) (by first | (simp; done) | (simp [inR_iff]; done) | (simp [inR_iff]; grind) | grind) (fun hG => by simp [go_sem]) rfl rfl (by first | exact Or.inl rfl | exact Or.inr rfl) ?_
    simp [go_sem, ty4, ty54]
    repeat refine ⟨by first | omega | grind, ?_⟩
    refine h12 _ ?_
    clear h12 K12
    refine W_seqK fun K13 h13 => ?_
    refine W_reg ?_
    simp [go_sem, ty3, ty22, ty61]
    refine callG_pc (fun hG => pc_spec_EventOf m11 h11 who11 (by first | assumption | omega | (simp only [redo_len]; omega)) (by first | assumption | omega | (simp only [redo_len]; omega))) (by first | (simp; done) | (simp [inR_iff]; done) | (simp [inR_iff]; grind) | grind) (fun hG => by simp [go_sem]) rfl rfl (by first | exact Or.inl rfl | exact Or.inr rfl) ?_
    simp [go_sem, ty4, ty54]
    repeat refine ⟨by first | omega | grind, ?_⟩
    refine h13 _ ?_
    clear h13 K13
    refine W_seqK fun K14 h14 => ?_
    refine W_reg ?_
    simp [go_sem, ty5, ty71]
    refine callG_true (by simp) (CallW_E (pe_spec_DrawRedo code (by first | first | assumption | omega | (simp only [redo_len]; omega) | (simp; done) | (simp; omega))) (by simp [go_sem, enc, eI]) _ (fun _ => rfl) rfl ?_)
    rintro ⟨m15, es15⟩ hq15
    try dsimp only at hq15
    obtain ⟨b1_15, b2_15, -⟩ := hq15
    simp [go_sem, ty3, ty22, ty41, ty54]
    repeat refine ⟨by first | omega | grind, ?_⟩
    refine h14 _ ?_
    clear h14 K14
    refine W_seqK fun K16 h16 => ?_
    refine W_reg ?_
    simp [go_sem, ty5, ty71]
    refine callG_true (by simp) (CallW_E (pe_spec_DrawTraceOk code (by first | first | assumption | omega | (simp only [redo_len]; omega) | (simp; done) | (simp; omega))) (by simp [go_sem, enc, eI]) _ (fun _ => rfl) rfl ?_)
    rintro ⟨m17, es17⟩ hq17
    try dsimp only at hq17
    obtain ⟨c1_17, c2_17, -⟩ := hq17
    simp [go_sem, ty3, ty22, ty41, ty54]
    repeat refine ⟨by first | omega | grind, ?_⟩
    refine h16 _ ?_
    clear h16 K16
    refine W_seqK fun K18 h18 => ?_
    refine W_reg ?_
    simp [go_sem, ty5, ty54, ty71]
    refine callG_true (by simp) (CallW_E (pe_spec_DrawEventText code (by first | first | assumption | omega | (simp only [redo_len]; omega) | (simp; done) | (simp; omega))) (by simp [go_sem, enc, eI]) _ (fun _ => rfl) rfl ?_)
    rintro e19 hq19
    try dsimp only at hq19
    simp [go_sem, ty54]
    repeat refine ⟨by first | omega | grind, ?_⟩
    refine h18 _ ?_
    clear h18 K18
    refine W_seqK fun K20 h20 => ?_
    refine W_seqK fun K21 h21 => ?_
    refine W_drawO true [0, 1, 2, 3, 4, 5, 6, 7, 8, 9, 10, 11, 12, 13, 14, 15, 16, 18, 19, 17, 20, 21, 22, 23, 24, 25, 26, 28, 29, 27, 30, 31, 32, 33, 34, 36, 35, 37, 38, 39] mixed (by decide +kernel) ?_
    simp (config := {maxSteps := 10000000}) [go_sem, ty4, ty41, ty54]
    refine callG_pc (fun hG => pc_laws_sameEvents (trace m7 hs7 o7) (trace m7 hs7 o7) (by first | assumption | omega | (simp only [redo_len]; omega))) (by first | (simp; done) | (simp [inR_iff]; done) | (simp [inR_iff]; grind) | grind) (fun hG => by simp [go_sem]) rfl rfl (by first | exact Or.inl rfl | exact Or.inr rfl) ?_
    simp (config := {maxSteps := 10000000}) [go_sem, ty3, ty4, ty22, ty41, ty54, fk54]
    refine callG_pc (fun hG => pc_impl_Redo m15 es15 (by first | assumption | omega | (simp only [redo_len]; omega)) (by first | assumption | omega | (simp only [redo_len]; omega))) (by first | (simp; done) | (simp [inR_iff]; done) | (simp [inR_iff]; grind) | grind) (fun hG => by simp [go_sem]) rfl rfl (by first | exact Or.inl rfl | exact Or.inr rfl) ?_
    simp (config := {maxSteps := 10000000}) [go_sem, ty3, ty22, ty41, ty54, fk54]
    refine callG_pc (fun hG => pc_spec_Redo m15 es15 (by first | assumption | omega | (simp only [redo_len]; omega)) (by first | assumption | omega | (simp only [redo_len]; omega))) (by first | (simp; done) | (simp [inR_iff]; done) | (simp [inR_iff]; grind) | grind) (fun hG => by simp [go_sem]) rfl rfl (by first | exact Or.inl rfl | exact Or.inr rfl) ?_
    simp (config := {maxSteps := 10000000}) [go_sem, ty3, ty4, ty22, fk54]
    refine callG_pc (fun hG => pc_laws_sameInts (redo m15 es15) (redo m15 es15) (by first | assumption | omega | (simp only [redo_len]; omega))) (by first | (simp; done) | (simp [inR_iff]; done) | (simp [inR_iff]; grind) | grind) (fun hG => by simp [go_sem]) rfl rfl (by first | exact Or.inl rfl | exact Or.inr rfl) ?_
    simp (config := {maxSteps := 10000000}) [go_sem, ty3, ty4, ty22, ty41, ty54, fk54]
    refine callG_pc (fun hG => pc_impl_TraceOk m17 es17 (by first | assumption | omega | (simp only [redo_len]; omega)) (by first | assumption | omega | (simp only [redo_len]; omega))) (by first | (simp; done) | (simp [inR_iff]; done) | (simp [inR_iff]; grind) | grind) (fun hG => by simp [go_sem]) rfl rfl (by first | exact Or.inl rfl | exact Or.inr rfl) ?_
    simp (config := {maxSteps := 10000000}) [go_sem, ty3, ty4, ty22, ty41, ty54, fk54]
    refine callG_pc (fun hG => pc_spec_TraceOk m17 es17 (by first | assumption | omega | (simp only [redo_len]; omega)) (by first | assumption | omega | (simp only [redo_len]; omega))) (by first | (simp; done) | (simp [inR_iff]; done) | (simp [inR_iff]; grind) | grind) (fun hG => by simp [go_sem]) rfl rfl (by first | exact Or.inl rfl | exact Or.inr rfl) ?_
    simp (config := {maxSteps := 10000000}) [go_sem, ty4, ty9, ty54, fk54]
    refine callG_pc (fun hG => pc_impl_EventText e19 (by first | assumption | omega | (simp only [redo_len]; omega))) (by first | (simp; done) | (simp [inR_iff]; done) | (simp [inR_iff]; grind) | grind) (fun hG => by simp [go_sem]) rfl rfl (by first | exact Or.inl rfl | exact Or.inr rfl) ?_
    simp (config := {maxSteps := 10000000}) [go_sem, ty9, ty54, fk54]
    refine callG_pc (fun hG => pc_spec_EventText e19 (by first | assumption | omega | (simp only [redo_len]; omega))) (by first | (simp; done) | (simp [inR_iff]; done) | (simp [inR_iff]; grind) | grind) (fun hG => by simp [go_sem]) rfl rfl (by first | exact Or.inl rfl | exact Or.inr rfl) ?_
    simp (config := {maxSteps := 10000000}) [go_sem, ty4, ty9, fk54]
    repeat refine ⟨by first | omega | grind, ?_⟩
    refine h21 _ ?_
    clear h21 K21
    refine W_cond rfl (fun hb22 => by first | (simp at hb22; done) | (simp at hb22; omega)) fun hb22 => ?_
    clear hb22
    refine W_skip ?_
    repeat refine ⟨by first | omega | grind, ?_⟩
    refine h20 _ ?_
    clear h20 K20
    refine W_seqK fun K23 h23 => ?_
    refine W_seqK fun K24 h24 => ?_
    refine W_reg ?_
    simp [go_sem, ty3, ty4, ty22]
    refine callG_pc (fun hG => pc_laws_words m7 (by first | assumption | omega | (simp only [redo_len]; omega))) (by first | (simp; done) | (simp [inR_iff]; done) | (simp [inR_iff]; grind) | grind) (fun hG => by simp [go_sem]) rfl rfl (by first | exact Or.inl rfl | exact Or.inr rfl) ?_
    simp [go_sem, ty4]
    repeat refine ⟨by first | omega | grind, ?_⟩
    refine h24 _ ?_
    clear h24 K24
    refine W_cond rfl (fun hb25 => ?_) fun hb25 => ?_
    · have hno : trace m7 hs7 o7 = [] := trace_no (by by_cases h1 : 2000 < o7.length; exact Or.inl h1; refine Or.inr ?_; by_cases h2 : m7.all isW = true; (unfold wordsOk; have h3 : ¬ m7.length = 24 := by (simp [h2] at hb25; omega)); simp; omega; exact not_words (by simpa using h2))
      clear hb25
      refine W_seqK fun K26 h26 => ?_
      refine W_reg ?_
      simp [go_sem, ty3, ty4, ty41, ty54]
      repeat refine ⟨by first | omega | grind, ?_⟩
      refine h26 _ ?_
      clear h26 K26
      refine W_ret ?_
      simp [go_sem, hno]
    · have y3 : m7.all isW = true := by (cases h9 : m7.all isW); (rw [h9] at hb25; simp at hb25); rfl
      obtain ⟨y1, y2⟩ : m7.length = 24 ∧ o7.length ≤ 2000 := by simp at hb25; grind
      obtain ⟨v1, v2, v3⟩ := traced (m := m7) (hs := hs7) (order := o7) (all_words y3 y1) y2
      clear hb25
      refine W_skip ?_
      repeat refine ⟨by first | omega | grind, ?_⟩
      refine h23 _ ?_
      clear h23 K23
      refine W_seqK fun K27 h27 => ?_
      refine W_reg ?_
      simp [go_sem, ty3, ty22, ty61, ty73]
      refine callG_pc (fun hG => pc_impl_FlatRun m7 hs7 o7 (by first | assumption | omega | (simp only [redo_len]; omega)) (by first | assumption | omega | (simp only [redo_len]; omega)) (by first | assumption | omega | (simp only [redo_len]; omega)) (by first | assumption | omega | (simp only [redo_len]; omega))) (by first | (simp; done) | (simp [inR_iff]; done) | (simp [inR_iff]; grind) | grind) (fun hG => by simp [go_sem]) rfl rfl (by first | exact Or.inl rfl | exact Or.inr rfl) ?_
      simp [go_sem, ty3, ty22, ty61, ty73]
      repeat refine ⟨by first | omega | grind, ?_⟩
      refine h27 _ ?_
      clear h27 K27
      refine W_seqK fun K28 h28 => ?_
      refine W_reg ?_
      simp [go_sem, ty3, ty4, ty22, ty41, ty54, v1, v2]
      refine callG_pc (fun hG => pc_impl_TraceOk m7 (trace m7 hs7 o7) (by first | assumption | omega | (simp only [redo_len]; omega)) (by first | assumption | omega | (simp only [redo_len]; omega))) (by first | (simp; done) | (simp [inR_iff]; done) | (simp [inR_iff]; grind) | grind) (fun hG => by simp [go_sem]) rfl rfl (by first | exact Or.inl rfl | exact Or.inr rfl) ?_
      simp [go_sem, ty3, ty4, ty22, ty41, ty54, v1, v2]
      refine callG_pc (fun hG => pc_impl_Redo m7 (trace m7 hs7 o7) (by first | assumption | omega | (simp only [redo_len]; omega)) (by first | assumption | omega | (simp only [redo_len]; omega))) (by first | (simp; done) | (simp [inR_iff]; done) | (simp [inR_iff]; grind) | grind) (fun hG => by simp [go_sem]) rfl rfl (by first | exact Or.inl rfl | exact Or.inr rfl) ?_
      simp [go_sem, ty3, ty4, ty22, v1, v2]
      refine callG_pc (fun hG => pc_laws_sameInts (redo m7 (trace m7 hs7 o7)) (runM m7 hs7 o7) (by first | assumption | omega | (simp only [redo_len]; omega))) (by first | (simp; done) | (simp [inR_iff]; done) | (simp [inR_iff]; grind) | grind) (fun hG => by simp [go_sem, v2]) rfl rfl (by first | exact Or.inl rfl | exact Or.inr rfl) ?_
      simp [go_sem, ty3, ty4, ty22, ty41, ty54, v1, v2]
      repeat refine ⟨by first | omega | grind, ?_⟩
      refine h28 _ ?_
      clear h28 K28
      refine W_ret ?_
      simp [go_sem, v1, v2, v3]
end Go.Tw
