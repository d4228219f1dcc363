/- Walks of functions: impl.disturbs, impl.Apart -/
import Derived.Test.YtfjoibkopjdomaaE6A
set_option linter.unusedSimpArgs false
set_option linter.unusedVariables false
set_option linter.unnecessarySimpa false
namespace Go.Tw
open Go.Proofs

set_option maxRecDepth 100000 in
set_option maxHeartbeats 4000000 in
theorem pc_impl_disturbs (a : GEvent) (b : GEvent)  : PC Try.prog 104 [(true, eEvent a), (true, eEvent b)] [(false, [.bool (disturbs a b)])] := by
  have hw := writesOf_len b
  have hr := readsOf_len b
  have hwa := writesOf_len a
  refine PC_of (n := 16) Try.func104 rfl rfl rfl rfl (by simp) ?_
  refine W_seqK fun K1 h1 => ?_
  refine W_reg ?_
  simp [go_sem, ty4, ty45]
  first | refine h1 _ ?_ | refine ⟨by omega, h1 _ ?_⟩ | refine ⟨by omega, by omega, h1 _ ?_⟩ | (repeat (refine ⟨by first | omega | grind, ?_⟩)); refine h1 _ ?_
  clear h1 K1
  refine W_seqK fun K2 h2 => ?_
  refine W_drawS true (.op 0 (.op 2 (.fork 1 (.fork 3 (.fork 4 (.fork 5 (.op 6 (.op 7 .nil)) 6 (.op 5 (.op 7 .nil))) 6 (.op 4 (.op 5 (.op 7 .nil)))) 6 (.op 3 (.op 4 (.op 5 (.op 7 .nil))))) 6 (.op 1 (.op 3 (.op 4 (.op 5 (.op 7 .nil)))))))) mixed (by decide +kernel) rfl ?_
  simp (config := {maxSteps := 10000000}) [go_sem, ty45]
  refine ⟨?_, ?_⟩
  · try simp (config := {maxSteps := 10000000}) [go_sem, ty3, ty24, ty45]
    refine callG_pc (fun hG => pc_impl_ReadsOf b) (by first | (simp; done) | (simp [inR_iff]; done) | (simp [inR_iff]; grind) | grind) (fun hG => by simp [go_sem]) rfl rfl (by first | exact Or.inl rfl | exact Or.inr rfl) ?_
    simp (config := {maxSteps := 10000000}) [go_sem]
    refine ⟨?_, ?_⟩
    · try simp (config := {maxSteps := 10000000}) [go_sem, ty3, ty24, ty45]
      refine callG_pc (fun hG => pc_impl_WritesOf b) (by first | (simp; done) | (simp [inR_iff]; done) | (simp [inR_iff]; grind) | grind) (fun hG => by simp [go_sem]) rfl rfl (by first | exact Or.inl rfl | exact Or.inr rfl) ?_
      simp (config := {maxSteps := 10000000}) [go_sem]
      refine ⟨?_, ?_⟩
      · try simp (config := {maxSteps := 10000000}) [go_sem, ty24, ty196]
        refine ⟨?_, ?_⟩
        · try simp (config := {maxSteps := 10000000}) [go_sem, ty3, ty24, ty196]
          refine callG_pc (fun hG => pc_slices_Concat_int_int ([readsOf b, writesOf b]) (by first | omega | (simp; done) | (simp; omega)) (by first | omega | (simp; done) | (simp; omega))) (by first | (simp; done) | (simp [inR_iff]; done) | (simp [inR_iff]; grind) | grind) (fun hG => by simp [go_sem]; simp [enc, eIS]) rfl rfl (by first | exact Or.inl rfl | exact Or.inr rfl) ?_
          simp (config := {maxSteps := 10000000}) [go_sem, ty3, ty24]
          first | refine h2 _ ?_ | refine ⟨by omega, h2 _ ?_⟩ | refine ⟨by omega, by omega, h2 _ ?_⟩ | (repeat (refine ⟨by first | omega | grind, ?_⟩)); refine h2 _ ?_
          clear h2 K2
          refine W_seqK fun K3 h3 => ?_
          refine W_reg ?_
          simp [go_sem, ty3, ty24, ty45]
          refine callG_pc (fun hG => pc_impl_WritesOf a) (by first | (simp; done) | (simp [inR_iff]; done) | (simp [inR_iff]; grind) | grind) (fun hG => by simp [go_sem]) rfl rfl (by first | exact Or.inl rfl | exact Or.inr rfl) ?_
          simp [go_sem, ty3, ty4, ty24]
          refine callG_quiet (fun hG => q_ContainsFunc_Int (pr := fun n => (readsOf b ++ writesOf b).any fun y => decide (n = y))  rfl (by omega) (by exact ⟨⟨_, rfl, by simp [go_sem]⟩, trivial⟩) rfl (fun x hx => pcb_impl_disturbs_1 x (readsOf b ++ writesOf b) (by simp; omega))) (by first | (simp; done) | (simp [inR_iff]; done) | (simp [inR_iff]; grind) | grind) ?_
          simp [go_sem, ty4]
          first | refine h3 _ ?_ | refine ⟨by omega, h3 _ ?_⟩ | refine ⟨by omega, by omega, h3 _ ?_⟩ | (repeat (refine ⟨by first | omega | grind, ?_⟩)); refine h3 _ ?_
          clear h3 K3
          refine W_ret ?_
          rw [← disturbs_any]
          simp [go_sem]
        · try simp (config := {maxSteps := 10000000}) [go_sem, ty3, ty24, ty196]
          refine callG_pc (fun hG => pc_slices_Concat_int_int ([readsOf b, writesOf b]) (by first | omega | (simp; done) | (simp; omega)) (by first | omega | (simp; done) | (simp; omega))) (by first | (simp; done) | (simp [inR_iff]; done) | (simp [inR_iff]; grind) | grind) (fun hG => by simp [go_sem]; simp [enc, eIS]) rfl rfl (by first | exact Or.inl rfl | exact Or.inr rfl) ?_
          simp (config := {maxSteps := 10000000}) [go_sem, ty3, ty24]
          first | refine h2 _ ?_ | refine ⟨by omega, h2 _ ?_⟩ | refine ⟨by omega, by omega, h2 _ ?_⟩ | (repeat (refine ⟨by first | omega | grind, ?_⟩)); refine h2 _ ?_
          clear h2 K2
          refine W_seqK fun K4 h4 => ?_
          refine W_reg ?_
          simp [go_sem, ty3, ty24, ty45]
          refine callG_pc (fun hG => pc_impl_WritesOf a) (by first | (simp; done) | (simp [inR_iff]; done) | (simp [inR_iff]; grind) | grind) (fun hG => by simp [go_sem]) rfl rfl (by first | exact Or.inl rfl | exact Or.inr rfl) ?_
          simp [go_sem, ty3, ty4, ty24]
          refine callG_quiet (fun hG => q_ContainsFunc_Int (pr := fun n => (readsOf b ++ writesOf b).any fun y => decide (n = y))  rfl (by omega) (by exact ⟨⟨_, rfl, by simp [go_sem]⟩, trivial⟩) rfl (fun x hx => pcb_impl_disturbs_1 x (readsOf b ++ writesOf b) (by simp; omega))) (by first | (simp; done) | (simp [inR_iff]; done) | (simp [inR_iff]; grind) | grind) ?_
          simp [go_sem, ty4]
          first | refine h4 _ ?_ | refine ⟨by omega, h4 _ ?_⟩ | refine ⟨by omega, by omega, h4 _ ?_⟩ | (repeat (refine ⟨by first | omega | grind, ?_⟩)); refine h4 _ ?_
          clear h4 K4
          refine W_ret ?_
          rw [← disturbs_any]
          simp [go_sem]
      · try simp (config := {maxSteps := 10000000}) [go_sem, ty3, ty24, ty196]
        refine callG_pc (fun hG => pc_slices_Concat_int_int ([readsOf b, writesOf b]) (by first | omega | (simp; done) | (simp; omega)) (by first | omega | (simp; done) | (simp; omega))) (by first | (simp; done) | (simp [inR_iff]; done) | (simp [inR_iff]; grind) | grind) (fun hG => by simp [go_sem]; simp [enc, eIS]) rfl rfl (by first | exact Or.inl rfl | exact Or.inr rfl) ?_
        simp (config := {maxSteps := 10000000}) [go_sem, ty3, ty24]
        first | refine h2 _ ?_ | refine ⟨by omega, h2 _ ?_⟩ | refine ⟨by omega, by omega, h2 _ ?_⟩ | (repeat (refine ⟨by first | omega | grind, ?_⟩)); refine h2 _ ?_
        clear h2 K2
        refine W_seqK fun K5 h5 => ?_
        refine W_reg ?_
        simp [go_sem, ty3, ty24, ty45]
        refine callG_pc (fun hG => pc_impl_WritesOf a) (by first | (simp; done) | (simp [inR_iff]; done) | (simp [inR_iff]; grind) | grind) (fun hG => by simp [go_sem]) rfl rfl (by first | exact Or.inl rfl | exact Or.inr rfl) ?_
        simp [go_sem, ty3, ty4, ty24]
        refine callG_quiet (fun hG => q_ContainsFunc_Int (pr := fun n => (readsOf b ++ writesOf b).any fun y => decide (n = y))  rfl (by omega) (by exact ⟨⟨_, rfl, by simp [go_sem]⟩, trivial⟩) rfl (fun x hx => pcb_impl_disturbs_1 x (readsOf b ++ writesOf b) (by simp; omega))) (by first | (simp; done) | (simp [inR_iff]; done) | (simp [inR_iff]; grind) | grind) ?_
        simp [go_sem, ty4]
        first | refine h5 _ ?_ | refine ⟨by omega, h5 _ ?_⟩ | refine ⟨by omega, by omega, h5 _ ?_⟩ | (repeat (refine ⟨by first | omega | grind, ?_⟩)); refine h5 _ ?_
        clear h5 K5
        refine W_ret ?_
        rw [← disturbs_any]
        simp [go_sem]
    · try simp (config := {maxSteps := 10000000}) [go_sem, ty3, ty24, ty45]
      refine callG_pc (fun hG => pc_impl_WritesOf b) (by first | (simp; done) | (simp [inR_iff]; done) | (simp [inR_iff]; grind) | grind) (fun hG => by simp [go_sem]) rfl rfl (by first | exact Or.inl rfl | exact Or.inr rfl) ?_
      simp (config := {maxSteps := 10000000}) [go_sem, ty3, ty24, ty196]
      refine callG_pc (fun hG => pc_slices_Concat_int_int ([readsOf b, writesOf b]) (by first | omega | (simp; done) | (simp; omega)) (by first | omega | (simp; done) | (simp; omega))) (by first | (simp; done) | (simp [inR_iff]; done) | (simp [inR_iff]; grind) | grind) (fun hG => by simp [go_sem]; simp [enc, eIS]) rfl rfl (by first | exact Or.inl rfl | exact Or.inr rfl) ?_
      simp (config := {maxSteps := 10000000}) [go_sem, ty3, ty24]
      first | refine h2 _ ?_ | refine ⟨by omega, h2 _ ?_⟩ | refine ⟨by omega, by omega, h2 _ ?_⟩ | (repeat (refine ⟨by first | omega | grind, ?_⟩)); refine h2 _ ?_
      clear h2 K2
      refine W_seqK fun K6 h6 => ?_
      refine W_reg ?_
      simp [go_sem, ty3, ty24, ty45]
      refine callG_pc (fun hG => pc_impl_WritesOf a) (by first | (simp; done) | (simp [inR_iff]; done) | (simp [inR_iff]; grind) | grind) (fun hG => by simp [go_sem]) rfl rfl (by first | exact Or.inl rfl | exact Or.inr rfl) ?_
      simp [go_sem, ty3, ty4, ty24]
      refine callG_quiet (fun hG => q_ContainsFunc_Int (pr := fun n => (readsOf b ++ writesOf b).any fun y => decide (n = y))  rfl (by omega) (by exact ⟨⟨_, rfl, by simp [go_sem]⟩, trivial⟩) rfl (fun x hx => pcb_impl_disturbs_1 x (readsOf b ++ writesOf b) (by simp; omega))) (by first | (simp; done) | (simp [inR_iff]; done) | (simp [inR_iff]; grind) | grind) ?_
      simp [go_sem, ty4]
      first | refine h6 _ ?_ | refine ⟨by omega, h6 _ ?_⟩ | refine ⟨by omega, by omega, h6 _ ?_⟩ | (repeat (refine ⟨by first | omega | grind, ?_⟩)); refine h6 _ ?_
      clear h6 K6
      refine W_ret ?_
      rw [← disturbs_any]
      simp [go_sem]
  · try simp (config := {maxSteps := 10000000}) [go_sem, ty3, ty24, ty45]
    refine callG_pc (fun hG => pc_impl_ReadsOf b) (by first | (simp; done) | (simp [inR_iff]; done) | (simp [inR_iff]; grind) | grind) (fun hG => by simp [go_sem]) rfl rfl (by first | exact Or.inl rfl | exact Or.inr rfl) ?_
    simp (config := {maxSteps := 10000000}) [go_sem, ty3, ty24, ty45]
    refine callG_pc (fun hG => pc_impl_WritesOf b) (by first | (simp; done) | (simp [inR_iff]; done) | (simp [inR_iff]; grind) | grind) (fun hG => by simp [go_sem]) rfl rfl (by first | exact Or.inl rfl | exact Or.inr rfl) ?_
    simp (config := {maxSteps := 10000000}) [go_sem, ty3, ty24, ty196]
    refine callG_pc (fun hG => pc_slices_Concat_int_int ([readsOf b, writesOf b]) (by first | omega | (simp; done) | (simp; omega)) (by first | omega | (simp; done) | (simp; omega))) (by first | (simp; done) | (simp [inR_iff]; done) | (simp [inR_iff]; grind) | grind) (fun hG => by simp [go_sem]; simp [enc, eIS]) rfl rfl (by first | exact Or.inl rfl | exact Or.inr rfl) ?_
    simp (config := {maxSteps := 10000000}) [go_sem, ty3, ty24]
    first | refine h2 _ ?_ | refine ⟨by omega, h2 _ ?_⟩ | refine ⟨by omega, by omega, h2 _ ?_⟩ | (repeat (refine ⟨by first | omega | grind, ?_⟩)); refine h2 _ ?_
    clear h2 K2
    refine W_seqK fun K7 h7 => ?_
    refine W_reg ?_
    simp [go_sem, ty3, ty24, ty45]
    refine callG_pc (fun hG => pc_impl_WritesOf a) (by first | (simp; done) | (simp [inR_iff]; done) | (simp [inR_iff]; grind) | grind) (fun hG => by simp [go_sem]) rfl rfl (by first | exact Or.inl rfl | exact Or.inr rfl) ?_
    simp [go_sem, ty3, ty4, ty24]
    refine callG_quiet (fun hG => q_ContainsFunc_Int (pr := fun n => (readsOf b ++ writesOf b).any fun y => decide (n = y))  rfl (by omega) (by exact ⟨⟨_, rfl, by simp [go_sem]⟩, trivial⟩) rfl (fun x hx => pcb_impl_disturbs_1 x (readsOf b ++ writesOf b) (by simp; omega))) (by first | (simp; done) | (simp [inR_iff]; done) | (simp [inR_iff]; grind) | grind) ?_
    simp [go_sem, ty4]
    first | refine h7 _ ?_ | refine ⟨by omega, h7 _ ?_⟩ | refine ⟨by omega, by omega, h7 _ ?_⟩ | (repeat (refine ⟨by first | omega | grind, ?_⟩)); refine h7 _ ?_
    clear h7 K7
    refine W_ret ?_
    rw [← disturbs_any]
    simp [go_sem]

set_option maxRecDepth 100000 in
set_option maxHeartbeats 4000000 in
theorem pc_impl_Apart (a : GEvent) (b : GEvent)  : PC Try.prog 33 [(true, eEvent a), (true, eEvent b)] [(false, [.bool (apartE a b)])] := by
  refine PC_of (n := 22) Try.func33 rfl rfl rfl rfl (by simp) ?_
  refine W_seqK fun K1 h1 => ?_
  refine W_reg ?_
  simp [go_sem, ty4, ty45]
  first | refine h1 _ ?_ | refine ⟨by omega, h1 _ ?_⟩ | refine ⟨by omega, by omega, h1 _ ?_⟩ | (repeat (refine ⟨by first | omega | grind, ?_⟩)); refine h1 _ ?_
  clear h1 K1
  refine W_seqK fun K2 h2 => ?_
  refine W_reg ?_
  simp [go_sem, ty3, ty4, ty45]
  refine callG_pc (fun hG => pc_impl_disturbs a b) (by first | (simp; done) | (simp [inR_iff]; done) | (simp [inR_iff]; grind) | grind) (fun hG => by simp [go_sem]) rfl rfl (by first | exact Or.inl rfl | exact Or.inr rfl) ?_
  simp [go_sem, ty4, ty45]
  refine callG_pc (fun hG => pc_impl_disturbs b a) (by first | (simp; done) | (simp [inR_iff]; done) | (simp [inR_iff]; grind) | grind) (fun hG => by simp [go_sem]) rfl rfl (by first | exact Or.inl rfl | exact Or.inr rfl) ?_
  simp [go_sem, ty4]
  first | refine h2 _ ?_ | refine ⟨by omega, h2 _ ?_⟩ | refine ⟨by omega, by omega, h2 _ ?_⟩ | (repeat (refine ⟨by first | omega | grind, ?_⟩)); refine h2 _ ?_
  clear h2 K2
  refine W_ret ?_
  rw [← apart_impl]
  simp [go_sem]
  first | done | rfl
end Go.Tw
