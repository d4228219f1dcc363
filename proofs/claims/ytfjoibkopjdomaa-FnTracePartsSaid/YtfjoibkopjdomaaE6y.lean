/- Walks of functions: laws.FnTraceParts -/
import Derived.Test.YtfjoibkopjdomaaE6w
import Derived.Test.YtfjoibkopjdomaaE6s
import Derived.Test.YtfjoibkopjdomaaE6r
import Derived.Test.YtfjoibkopjdomaaE6u
import Derived.Test.YtfjoibkopjdomaaE6v
import Derived.Test.YtfjoibkopjdomaaE6p
set_option linter.unusedSimpArgs false
set_option linter.unusedVariables false
set_option linter.unnecessarySimpa false
namespace Go.Tw
open Go.Proofs

set_option maxRecDepth 100000 in
set_option maxHeartbeats 4000000 in
theorem pc_laws_FnTraceParts (code : List Int) (hu : ∀ a ∈ code, 0 ≤ a ∧ a ≤ 255) : PC Try.prog 5 [(false, [.sl 1 (enc eU code)])] [(false, [.bool true])] := by
  refine PC_of (n := 66) Try.func5 rfl rfl rfl rfl (by simp) ?_
  refine W_seqK fun K1 h1 => ?_
  refine W_reg ?_
  simp [go_sem, ty4]
  first | refine h1 _ ?_ | refine ⟨by omega, h1 _ ?_⟩ | refine ⟨by omega, by omega, h1 _ ?_⟩ | (repeat (refine ⟨by first | omega | grind, ?_⟩)); refine h1 _ ?_
  clear h1 K1
  refine W_seqK fun K2 h2 => ?_
  refine W_seqK fun K3 h3 => ?_
  refine W_reg ?_
  simp [go_sem, ty4, ty5, ty22]
  refine callG_pc (fun hG => pc_laws_big code) (by first | (simp; done) | (simp [inR_iff]; done) | (simp [inR_iff]; grind) | grind) (fun hG => by simp [go_sem]) rfl rfl (by first | exact Or.inl rfl | exact Or.inr rfl) ?_
  simp [go_sem]
  first | refine h3 _ ?_ | refine ⟨by omega, h3 _ ?_⟩ | refine ⟨by omega, by omega, h3 _ ?_⟩ | (repeat (refine ⟨by first | omega | grind, ?_⟩)); refine h3 _ ?_
  clear h3 K3
  refine W_cond rfl (fun hb4 => ?_) fun hb4 => ?_
  · skip
    refine W_seqK fun K5 h5 => ?_
    refine W_reg ?_
    simp [go_sem, ty4]
    first | refine h5 _ ?_ | refine ⟨by omega, h5 _ ?_⟩ | refine ⟨by omega, by omega, h5 _ ?_⟩ | (repeat (refine ⟨by first | omega | grind, ?_⟩)); refine h5 _ ?_
    clear h5 K5
    refine W_ret ?_
    simp [go_sem]
  · first | have hs4 := szL_pos hb4 | simp at hb4
    refine W_skip ?_
    first | refine h2 _ ?_ | refine ⟨by omega, h2 _ ?_⟩ | refine ⟨by omega, by omega, h2 _ ?_⟩ | (repeat (refine ⟨by first | omega | grind, ?_⟩)); refine h2 _ ?_
    clear h2 K2
    refine W_seqK fun K6 h6 => ?_
    refine W_reg ?_
    simp [go_sem, ty5, ty22]
    refine callG_true (by simp) (CallW_E (pe_spec_DrawSteps code (by first | first | assumption | omega | (simp only [runM_len, runH_len, List.length_take, List.length_drop]; omega) | exact runH_regs (by assumption) _ | exact trace_small _ _ _ | (simp only [List.length_append]; omega) | (simp; done) | (simp; omega))) (by simp [go_sem, enc, eI]) _ (fun _ => rfl) rfl ?_)
    rintro ⟨m7, hs7, o7⟩ hq7
    try dsimp only at hq7
    obtain ⟨e1_7, e2_7, e3_7, e4_7, e5_7, e6_7⟩ := hq7
    have hq7 : ∀ a ∈ hs7, a.regs.length ≤ 1048576 := fun a ha => by have := e4_7 a ha; omega
    simp [go_sem, ty2, ty3, ty24, ty26, ty33]
    first | refine h6 _ ?_ | refine ⟨by omega, h6 _ ?_⟩ | refine ⟨by omega, by omega, h6 _ ?_⟩ | (repeat (refine ⟨by first | omega | grind, ?_⟩)); refine h6 _ ?_
    clear h6 K6
    refine W_seqK fun K8 h8 => ?_
    refine W_reg ?_
    simp [go_sem, ty3, ty24, ty26, ty33, ty42, ty45]
    refine callG_pc (fun hG => pc_impl_Trace m7 hs7 o7 (by first | assumption | omega | (simp only [runM_len, runH_len, List.length_take, List.length_drop]; omega) | exact runH_regs (by assumption) _ | exact trace_small _ _ _ | (simp only [List.length_append]; omega)) (by first | assumption | omega | (simp only [runM_len, runH_len, List.length_take, List.length_drop]; omega) | exact runH_regs (by assumption) _ | exact trace_small _ _ _ | (simp only [List.length_append]; omega)) (by first | assumption | omega | (simp only [runM_len, runH_len, List.length_take, List.length_drop]; omega) | exact runH_regs (by assumption) _ | exact trace_small _ _ _ | (simp only [List.length_append]; omega)) (by first | assumption | omega | (simp only [runM_len, runH_len, List.length_take, List.length_drop]; omega) | exact runH_regs (by assumption) _ | exact trace_small _ _ _ | (simp only [List.length_append]; omega))) (by first | (simp; done) | (simp [inR_iff]; done) | (simp [inR_iff]; grind) | grind) (fun hG => by simp [go_sem]) rfl rfl (by first | exact Or.inl rfl | exact Or.inr rfl) ?_
    simp [go_sem, ty42, ty45]
    first | refine h8 _ ?_ | refine ⟨by omega, h8 _ ?_⟩ | refine ⟨by omega, by omega, h8 _ ?_⟩ | (repeat (refine ⟨by first | omega | grind, ?_⟩)); refine h8 _ ?_
    clear h8 K8
    refine W_seqK fun K9 h9 => ?_
    refine W_reg ?_
    have hat := atC_range hu 1
    have hw1 : IntKind.wrap .i64 ((o7.length : Int) + 1) = (o7.length : Int) + 1 := wrap_ok (by omega) (by omega)
    obtain ⟨k, hk, hk2⟩ := tmod_nat hat.1 o7.length
    have hk3 := trace_parts (mem := m7) (hs := hs7) (order := o7) (by omega) k
    have hk4 := congrArg List.length hk3
    rw [List.length_append] at hk4
    have ht1 := trace_len m7 hs7 (o7.take k)
    have ht2 := trace_len (runM m7 hs7 (o7.take k)) (runH m7 hs7 (o7.take k)) (o7.drop k)
    simp [go_sem, ty3, ty5, ty22, hw1, hk]
    refine callG_pc (fun hG => pc_laws_at code 1 (by omega) (by omega) (by omega) hu) (by first | (simp; done) | (simp [inR_iff]; done) | (simp [inR_iff]; grind) | grind) (fun hG => by simp [go_sem]) rfl rfl (by first | exact Or.inl rfl | exact Or.inr rfl) ?_
    simp [go_sem, ty3, ty24, hw1, hk]
    first | refine h9 _ ?_ | refine ⟨by omega, h9 _ ?_⟩ | refine ⟨by omega, by omega, h9 _ ?_⟩ | (repeat (refine ⟨by first | omega | grind, ?_⟩)); refine h9 _ ?_
    clear h9 K9
    refine W_seqK fun K10 h10 => ?_
    refine W_reg ?_
    simp [go_sem, ty3, ty24, ty26, ty33, ty42, ty45, hk2]
    refine callG_pc (fun hG => pc_impl_Trace m7 hs7 (o7.take k) (by first | assumption | omega | (simp only [runM_len, runH_len, List.length_take, List.length_drop]; omega) | exact runH_regs (by assumption) _ | exact trace_small _ _ _ | (simp only [List.length_append]; omega)) (by first | assumption | omega | (simp only [runM_len, runH_len, List.length_take, List.length_drop]; omega) | exact runH_regs (by assumption) _ | exact trace_small _ _ _ | (simp only [List.length_append]; omega)) (by first | assumption | omega | (simp only [runM_len, runH_len, List.length_take, List.length_drop]; omega) | exact runH_regs (by assumption) _ | exact trace_small _ _ _ | (simp only [List.length_append]; omega)) (by first | assumption | omega | (simp only [runM_len, runH_len, List.length_take, List.length_drop]; omega) | exact runH_regs (by assumption) _ | exact trace_small _ _ _ | (simp only [List.length_append]; omega))) (by first | (simp; done) | (simp [inR_iff]; done) | (simp [inR_iff]; grind) | grind) (fun hG => by simp [go_sem]) rfl rfl (by first | exact Or.inl rfl | exact Or.inr rfl) ?_
    simp [go_sem, ty42, ty45, hk2]
    first | refine h10 _ ?_ | refine ⟨by omega, h10 _ ?_⟩ | refine ⟨by omega, by omega, h10 _ ?_⟩ | (repeat (refine ⟨by first | omega | grind, ?_⟩)); refine h10 _ ?_
    clear h10 K10
    refine W_seqK fun K11 h11 => ?_
    refine W_reg ?_
    simp [go_sem, ty3, ty24, ty26, ty33, hk2]
    refine callG_pc (fun hG => pc_impl_FlatRun m7 hs7 (o7.take k) (by first | assumption | omega | (simp only [runM_len, runH_len, List.length_take, List.length_drop]; omega) | exact runH_regs (by assumption) _ | exact trace_small _ _ _ | (simp only [List.length_append]; omega)) (by first | assumption | omega | (simp only [runM_len, runH_len, List.length_take, List.length_drop]; omega) | exact runH_regs (by assumption) _ | exact trace_small _ _ _ | (simp only [List.length_append]; omega)) (by first | assumption | omega | (simp only [runM_len, runH_len, List.length_take, List.length_drop]; omega) | exact runH_regs (by assumption) _ | exact trace_small _ _ _ | (simp only [List.length_append]; omega)) (by first | assumption | omega | (simp only [runM_len, runH_len, List.length_take, List.length_drop]; omega) | exact runH_regs (by assumption) _ | exact trace_small _ _ _ | (simp only [List.length_append]; omega))) (by first | (simp; done) | (simp [inR_iff]; done) | (simp [inR_iff]; grind) | grind) (fun hG => by simp [go_sem]) rfl rfl (by first | exact Or.inl rfl | exact Or.inr rfl) ?_
    simp [go_sem, ty3, ty24, ty26, ty33, hk2]
    first | refine h11 _ ?_ | refine ⟨by omega, h11 _ ?_⟩ | refine ⟨by omega, by omega, h11 _ ?_⟩ | (repeat (refine ⟨by first | omega | grind, ?_⟩)); refine h11 _ ?_
    clear h11 K11
    refine W_seqK fun K12 h12 => ?_
    refine W_reg ?_
    simp [go_sem, ty3, ty24, ty26, ty33, ty42, ty45, hk2]
    refine callG_pc (fun hG => pc_impl_Trace (runM m7 hs7 (o7.take k)) (runH m7 hs7 (o7.take k)) (o7.drop k) (by first | assumption | omega | (simp only [runM_len, runH_len, List.length_take, List.length_drop]; omega) | exact runH_regs (by assumption) _ | exact trace_small _ _ _ | (simp only [List.length_append]; omega)) (by first | assumption | omega | (simp only [runM_len, runH_len, List.length_take, List.length_drop]; omega) | exact runH_regs (by assumption) _ | exact trace_small _ _ _ | (simp only [List.length_append]; omega)) (by first | assumption | omega | (simp only [runM_len, runH_len, List.length_take, List.length_drop]; omega) | exact runH_regs (by assumption) _ | exact trace_small _ _ _ | (simp only [List.length_append]; omega)) (by first | assumption | omega | (simp only [runM_len, runH_len, List.length_take, List.length_drop]; omega) | exact runH_regs (by assumption) _ | exact trace_small _ _ _ | (simp only [List.length_append]; omega))) (by first | (simp; done) | (simp [inR_iff]; done) | (simp [inR_iff]; grind) | grind) (fun hG => by simp [go_sem]) rfl rfl (by first | exact Or.inl rfl | exact Or.inr rfl) ?_
    simp [go_sem, ty42, ty45, hk2]
    first | refine h12 _ ?_ | refine ⟨by omega, h12 _ ?_⟩ | refine ⟨by omega, by omega, h12 _ ?_⟩ | (repeat (refine ⟨by first | omega | grind, ?_⟩)); refine h12 _ ?_
    clear h12 K12
    refine W_seqK fun K13 h13 => ?_
    refine W_reg ?_
    simp [go_sem, ty3, ty24, ty26, ty33, ty42, ty45, hk3]
    refine callG_pc (fun hG => pc_spec_Trace m7 hs7 o7 (by first | assumption | omega | (simp only [runM_len, runH_len, List.length_take, List.length_drop]; omega) | exact runH_regs (by assumption) _ | exact trace_small _ _ _ | (simp only [List.length_append]; omega)) (by first | assumption | omega | (simp only [runM_len, runH_len, List.length_take, List.length_drop]; omega) | exact runH_regs (by assumption) _ | exact trace_small _ _ _ | (simp only [List.length_append]; omega)) (by first | assumption | omega | (simp only [runM_len, runH_len, List.length_take, List.length_drop]; omega) | exact runH_regs (by assumption) _ | exact trace_small _ _ _ | (simp only [List.length_append]; omega)) (by first | assumption | omega | (simp only [runM_len, runH_len, List.length_take, List.length_drop]; omega) | exact runH_regs (by assumption) _ | exact trace_small _ _ _ | (simp only [List.length_append]; omega))) (by first | (simp; done) | (simp [inR_iff]; done) | (simp [inR_iff]; grind) | grind) (fun hG => by simp [go_sem]) rfl rfl (by first | exact Or.inl rfl | exact Or.inr rfl) ?_
    simp [go_sem, ty4, ty42, ty45, hk3]
    refine callG_pc (fun hG => pc_laws_sameEvents (trace m7 hs7 o7) (trace m7 hs7 o7) (by first | assumption | omega | (simp only [runM_len, runH_len, List.length_take, List.length_drop]; omega) | exact runH_regs (by assumption) _ | exact trace_small _ _ _ | (simp only [List.length_append]; omega))) (by first | (simp; done) | (simp [inR_iff]; done) | (simp [inR_iff]; grind) | grind) (fun hG => by simp [go_sem]) rfl rfl (by first | exact Or.inl rfl | exact Or.inr rfl) ?_
    simp [go_sem, ty4, ty42, ty45, hk3]
    refine ⟨by omega, by omega, ?_⟩
    refine callG_pc (fun hG => pc_laws_sameEvents ((trace m7 hs7 (o7.take k)) ++ (trace (runM m7 hs7 (o7.take k)) (runH m7 hs7 (o7.take k)) (o7.drop k))) (trace m7 hs7 o7) (by first | assumption | omega | (simp only [runM_len, runH_len, List.length_take, List.length_drop]; omega) | exact runH_regs (by assumption) _ | exact trace_small _ _ _ | (simp only [List.length_append]; omega))) (by first | (simp; done) | (simp [inR_iff]; done) | (simp [inR_iff]; grind) | grind) (fun hG => by simp [go_sem, hk3, hk4]) rfl rfl (by first | exact Or.inl rfl | exact Or.inr rfl) ?_
    simp [go_sem, ty4, hk3]
    first | refine h13 _ ?_ | refine ⟨by omega, h13 _ ?_⟩ | refine ⟨by omega, by omega, h13 _ ?_⟩ | (repeat (refine ⟨by first | omega | grind, ?_⟩)); refine h13 _ ?_
    clear h13 K13
    refine W_ret ?_
    simp [go_sem, hk3]
end Go.Tw
