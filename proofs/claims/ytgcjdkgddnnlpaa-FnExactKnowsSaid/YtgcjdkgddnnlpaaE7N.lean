/- Walks of functions: spec.Knows -/
import Derived.Test.YtgcjdkgddnnlpaaE7H
set_option linter.unusedSimpArgs false
set_option linter.unusedVariables false
set_option linter.unnecessarySimpa false
namespace Go.Tw
open Go.Proofs

set_option maxRecDepth 100000 in
set_option maxHeartbeats 4000000 in
theorem pc_spec_Knows (n : Int) (list : List GEvent) (i : Int) (k : Int) (hx : list.length ≤ 1048576) : PC Try.prog 19 [(false, [.int .i64 n]), (false, [.sl 5 (enc eEvent list)]), (false, [.int .i64 i]), (false, [.int .i64 k])] [(false, [.bool (knowsB (clocks n list) i k)])] := by
  have hl := clocks_len n list
  have hq : ∀ a ∈ clocks n list, a.length ≤ 1048576 := fun a ha => by have := clocks_each n list a ha; omega
  refine PC_of (n := 38) Try.func19 rfl rfl rfl rfl (by simp) ?_
  refine W_seqK fun K1 h1 => ?_
  refine W_reg ?_
  simp [go_sem, ty4]
  repeat refine ⟨by first | omega | grind, ?_⟩
  refine h1 _ ?_
  clear h1 K1
  refine W_seqK fun K2 h2 => ?_
  refine W_reg ?_
  simp [go_sem, ty3, ty22, ty41, ty45, ty54]
  refine callG_pc (fun hG => pc_spec_Clocks n list (by first | assumption | omega)) (by first | (simp; done) | (simp [inR_iff]; done) | (simp [inR_iff]; grind) | grind) (fun hG => by simp [go_sem]) rfl rfl (by first | exact Or.inl rfl | exact Or.inr rfl) ?_
  simp [go_sem, ty22, ty45]
  repeat refine ⟨by first | omega | grind, ?_⟩
  refine h2 _ ?_
  clear h2 K2
  refine W_seqK fun K3 h3 => ?_
  rcases knows_splitS (clocks n list) i k (by omega) with ⟨q1, q0⟩ | ⟨q1, q2, q0⟩ | ⟨q1, q2, q3, q0⟩ | ⟨a, b, rfl, rfl, hab, hal, hbl, hb2, hb3, q3⟩
  · refine W_drawT true mixed (by decide +kernel) ?_
    simp [go_sem, ty3, ty4, q1, q0]
    refine callG_pc (fun hG => pc_spec_l1In i 0 (IntKind.wrap .i64 (k - 1))) (by first | (simp; done) | (simp [inR_iff]; done) | (simp [inR_iff]; grind) | grind) (fun hG => by simp [go_sem]) rfl rfl (by first | exact Or.inl rfl | exact Or.inr rfl) ?_
    simp [go_sem, ty3, ty4, ty22, ty45, q1, q0]
    first | refine callG_false (.l (.t (.bool false))) ?_ | refine callG_pc (fun hG => pc_spec_ClockWithin [] [] (by simp)) (by first | (simp; done) | (simp [inR_iff]; done) | (simp [inR_iff]; grind) | grind) (fun hG => by simp [go_sem]) rfl rfl (by first | exact Or.inl rfl | exact Or.inr rfl) ?_
    simp [go_sem, ty4, q1, q0]
    repeat refine ⟨by first | omega | grind, ?_⟩
    refine h3 _ ?_
    clear h3 K3
    refine W_ret ?_
    simp [go_sem, q0]
    try (first | done | (intro _; omega))
  · refine W_drawT true mixed (by decide +kernel) ?_
    simp [go_sem, ty3, ty4, q1, q2, q0]
    refine callG_pc (fun hG => pc_spec_l1In i 0 (IntKind.wrap .i64 (k - 1))) (by first | (simp; done) | (simp [inR_iff]; done) | (simp [inR_iff]; grind) | grind) (fun hG => by simp [go_sem]) rfl rfl (by first | exact Or.inl rfl | exact Or.inr rfl) ?_
    simp [go_sem, ty3, ty4, ty22, ty45, q1, q2, q0]
    first | refine callG_false (.l (.t (.bool false))) ?_ | refine callG_pc (fun hG => pc_spec_ClockWithin [] [] (by simp)) (by first | (simp; done) | (simp [inR_iff]; done) | (simp [inR_iff]; grind) | grind) (fun hG => by simp [go_sem]) rfl rfl (by first | exact Or.inl rfl | exact Or.inr rfl) ?_
    simp [go_sem, ty4, q1, q2, q0]
    repeat refine ⟨by first | omega | grind, ?_⟩
    refine h3 _ ?_
    clear h3 K3
    refine W_ret ?_
    simp [go_sem, q0]
    try (first | done | (intro _; omega))
  · refine W_drawT true mixed (by decide +kernel) ?_
    simp [go_sem, ty3, ty4, q1, q2, q3, q0]
    refine callG_pc (fun hG => pc_spec_l1In i 0 (IntKind.wrap .i64 (k - 1))) (by first | (simp; done) | (simp [inR_iff]; done) | (simp [inR_iff]; grind) | grind) (fun hG => by simp [go_sem]) rfl rfl (by first | exact Or.inl rfl | exact Or.inr rfl) ?_
    simp [go_sem, ty3, ty4, ty22, ty45, q1, q2, q3, q0]
    first | refine callG_false (.l (.t (.bool false))) ?_ | refine callG_pc (fun hG => pc_spec_ClockWithin [] [] (by simp)) (by first | (simp; done) | (simp [inR_iff]; done) | (simp [inR_iff]; grind) | grind) (fun hG => by simp [go_sem]) rfl rfl (by first | exact Or.inl rfl | exact Or.inr rfl) ?_
    simp [go_sem, ty4, q1, q2, q3, q0]
    repeat refine ⟨by first | omega | grind, ?_⟩
    refine h3 _ ?_
    clear h3 K3
    refine W_ret ?_
    simp [go_sem, q0]
    try (first | done | (intro _; omega))
  · refine W_drawT true mixed (by decide +kernel) ?_
    have hk9 := knowsB_at hab hal hbl
    have ha0 : (0 : Int) ≤ (a : Int) := by omega
    have hb0 : (0 : Int) ≤ (b : Int) := by omega
    have ha1 : (a : Int) < ((clocks n list).length : Int) := by omega
    have hb1 : (b : Int) < ((clocks n list).length : Int) := by omega
    have hqa := hq _ (List.getElem_mem hal)
    have hab2 : (a : Int) < (b : Int) := by omega
    simp [go_sem, ty3, ty4, hb2, hb3, q3, hal, hbl, ha0, hb0, ha1, hb1, hk9]
    refine callG_pc (fun hG => pc_spec_l1In (a : Int) 0 (IntKind.wrap .i64 ((b : Int) - 1))) (by first | (simp; done) | (simp [inR_iff]; done) | (simp [inR_iff]; grind) | grind) (fun hG => by simp [go_sem]) rfl rfl (by first | exact Or.inl rfl | exact Or.inr rfl) ?_
    simp [go_sem, ty3, ty4, ty22, ty45, hb2, hb3, q3, hal, hbl, ha0, hb0, ha1, hb1, hk9]
    first | refine callG_false (.l (.t (.bool false))) ?_ | refine callG_pc (fun hG => pc_spec_ClockWithin ((clocks n list)[a]) ((clocks n list)[b]) (by omega)) (by first | (simp; done) | (simp [inR_iff]; done) | (simp [inR_iff]; grind) | grind) (fun hG => by simp [go_sem, hal, hbl]) rfl rfl (by first | exact Or.inl rfl | exact Or.inr rfl) ?_
    simp [go_sem, ty4, hb2, hb3, q3, hal, hbl, ha0, hb0, ha1, hb1, hk9]
    repeat refine ⟨by first | omega | grind, ?_⟩
    refine h3 _ ?_
    clear h3 K3
    refine W_ret ?_
    simp [go_sem, hk9]
    try (first | done | (intro _; omega))
end Go.Tw
