/- Walks of functions: impl.knows, impl.Knows -/
import Derived.Test.YtgcjdkgddnnlpaaE7J
set_option linter.unusedSimpArgs false
set_option linter.unusedVariables false
set_option linter.unnecessarySimpa false
namespace Go.Tw
open Go.Proofs

set_option maxRecDepth 100000 in
set_option maxHeartbeats 4000000 in
theorem pc_impl_knows (c : List (List Int)) (i : Int) (k : Int) (hx : c.length ≤ 1048576) (hq : ∀ a ∈ c, a.length ≤ 1048576) : PC Try.prog 73 [(false, [.sl 1 (enc eIS c)]), (false, [.int .i64 i]), (false, [.int .i64 k])] [(false, [.bool (knowsB c i k)])] := by
  refine PC_of (n := 35) Try.func73 rfl rfl rfl rfl (by simp) ?_
  refine W_seqK fun K1 h1 => ?_
  refine W_reg ?_
  simp [go_sem, ty4]
  repeat refine ⟨by first | omega | grind, ?_⟩
  refine h1 _ ?_
  clear h1 K1
  refine W_seqK fun K2 h2 => ?_
  rcases knows_splitI c i k (by omega) with ⟨q1, q0⟩ | ⟨q1, q2, q0⟩ | ⟨q1, q2, q3, q0⟩ | ⟨a, b, rfl, rfl, hab, hal, hbl, q2, q3⟩
  · refine W_drawT true mixed (by decide +kernel) ?_
    simp (config := {maxSteps := 10000000}) [go_sem, ty3, ty4, ty22, ty45, q1, q0]
    first | refine callG_false (.l (.t (.bool false))) ?_ | refine callG_pc (fun hG => pc_impl_from i 0 (IntKind.wrap .i64 ((c.length : Int) - 1))) (by first | (simp; done) | (simp [inR_iff]; done) | (simp [inR_iff]; grind) | grind) (fun hG => by simp [go_sem]) rfl rfl (by first | exact Or.inl rfl | exact Or.inr rfl) ?_
    simp (config := {maxSteps := 10000000}) [go_sem, ty3, ty4, ty22, ty45, q1, q0]
    first | refine callG_false (.l (.t (.bool false))) ?_ | refine callG_pc (fun hG => pc_impl_from k 0 (IntKind.wrap .i64 ((c.length : Int) - 1))) (by first | (simp; done) | (simp [inR_iff]; done) | (simp [inR_iff]; grind) | grind) (fun hG => by simp [go_sem]) rfl rfl (by first | exact Or.inl rfl | exact Or.inr rfl) ?_
    simp (config := {maxSteps := 10000000}) [go_sem, ty3, ty4, ty22, ty45, q1, q0]
    first | refine callG_false (.l (.t (.bool false))) ?_ | refine callG_pc (fun hG => pc_impl_ClockWithin [] [] (by simp)) (by first | (simp; done) | (simp [inR_iff]; done) | (simp [inR_iff]; grind) | grind) (fun hG => by simp [go_sem]) rfl rfl (by first | exact Or.inl rfl | exact Or.inr rfl) ?_
    simp (config := {maxSteps := 10000000}) [go_sem, ty4, q1, q0]
    repeat refine ⟨by first | omega | grind, ?_⟩
    refine h2 _ ?_
    clear h2 K2
    refine W_ret ?_
    simp [go_sem, q0]
  · refine W_drawT true mixed (by decide +kernel) ?_
    simp (config := {maxSteps := 10000000}) [go_sem, ty3, ty4, ty22, ty45, q1, q2, q0]
    first | refine callG_false (.l (.t (.bool false))) ?_ | refine callG_pc (fun hG => pc_impl_from i 0 (IntKind.wrap .i64 ((c.length : Int) - 1))) (by first | (simp; done) | (simp [inR_iff]; done) | (simp [inR_iff]; grind) | grind) (fun hG => by simp [go_sem]) rfl rfl (by first | exact Or.inl rfl | exact Or.inr rfl) ?_
    simp (config := {maxSteps := 10000000}) [go_sem, ty3, ty4, ty22, ty45, q1, q2, q0]
    first | refine callG_false (.l (.t (.bool false))) ?_ | refine callG_pc (fun hG => pc_impl_from k 0 (IntKind.wrap .i64 ((c.length : Int) - 1))) (by first | (simp; done) | (simp [inR_iff]; done) | (simp [inR_iff]; grind) | grind) (fun hG => by simp [go_sem]) rfl rfl (by first | exact Or.inl rfl | exact Or.inr rfl) ?_
    simp (config := {maxSteps := 10000000}) [go_sem, ty3, ty4, ty22, ty45, q1, q2, q0]
    first | refine callG_false (.l (.t (.bool false))) ?_ | refine callG_pc (fun hG => pc_impl_ClockWithin [] [] (by simp)) (by first | (simp; done) | (simp [inR_iff]; done) | (simp [inR_iff]; grind) | grind) (fun hG => by simp [go_sem]) rfl rfl (by first | exact Or.inl rfl | exact Or.inr rfl) ?_
    simp (config := {maxSteps := 10000000}) [go_sem, ty4, q1, q2, q0]
    repeat refine ⟨by first | omega | grind, ?_⟩
    refine h2 _ ?_
    clear h2 K2
    refine W_ret ?_
    simp [go_sem, q0]
  · refine W_drawT true mixed (by decide +kernel) ?_
    simp (config := {maxSteps := 10000000}) [go_sem, ty3, ty4, ty22, ty45, q1, q2, q3, q0]
    first | refine callG_false (.l (.t (.bool false))) ?_ | refine callG_pc (fun hG => pc_impl_from i 0 (IntKind.wrap .i64 ((c.length : Int) - 1))) (by first | (simp; done) | (simp [inR_iff]; done) | (simp [inR_iff]; grind) | grind) (fun hG => by simp [go_sem]) rfl rfl (by first | exact Or.inl rfl | exact Or.inr rfl) ?_
    simp (config := {maxSteps := 10000000}) [go_sem, ty3, ty4, ty22, ty45, q1, q2, q3, q0]
    first | refine callG_false (.l (.t (.bool false))) ?_ | refine callG_pc (fun hG => pc_impl_from k 0 (IntKind.wrap .i64 ((c.length : Int) - 1))) (by first | (simp; done) | (simp [inR_iff]; done) | (simp [inR_iff]; grind) | grind) (fun hG => by simp [go_sem]) rfl rfl (by first | exact Or.inl rfl | exact Or.inr rfl) ?_
    simp (config := {maxSteps := 10000000}) [go_sem, ty3, ty4, ty22, ty45, q1, q2, q3, q0]
    first | refine callG_false (.l (.t (.bool false))) ?_ | refine callG_pc (fun hG => pc_impl_ClockWithin [] [] (by simp)) (by first | (simp; done) | (simp [inR_iff]; done) | (simp [inR_iff]; grind) | grind) (fun hG => by simp [go_sem]) rfl rfl (by first | exact Or.inl rfl | exact Or.inr rfl) ?_
    simp (config := {maxSteps := 10000000}) [go_sem, ty4, q1, q2, q3, q0]
    repeat refine ⟨by first | omega | grind, ?_⟩
    refine h2 _ ?_
    clear h2 K2
    refine W_ret ?_
    simp [go_sem, q0]
  · refine W_drawT true mixed (by decide +kernel) ?_
    have hk9 := knowsB_at hab hal hbl
    have ha0 : (0 : Int) ≤ (a : Int) := by omega
    have hb0 : (0 : Int) ≤ (b : Int) := by omega
    have ha1 : (a : Int) < (c.length : Int) := by omega
    have hb1 : (b : Int) < (c.length : Int) := by omega
    have hqa := hq _ (List.getElem_mem hal)
    have hab2 : (a : Int) < (b : Int) := by omega
    simp (config := {maxSteps := 10000000}) [go_sem, ty3, ty4, ty22, ty45, q2, q3, hab, hab2, hal, hbl, ha0, hb0, ha1, hb1, hk9]
    first | refine callG_false (.l (.t (.bool false))) ?_ | refine callG_pc (fun hG => pc_impl_from (a : Int) 0 (IntKind.wrap .i64 ((c.length : Int) - 1))) (by first | (simp; done) | (simp [inR_iff]; done) | (simp [inR_iff]; grind) | grind) (fun hG => by simp [go_sem]) rfl rfl (by first | exact Or.inl rfl | exact Or.inr rfl) ?_
    simp (config := {maxSteps := 10000000}) [go_sem, ty3, ty4, ty22, ty45, q2, q3, hab, hab2, hal, hbl, ha0, hb0, ha1, hb1, hk9]
    first | refine callG_false (.l (.t (.bool false))) ?_ | refine callG_pc (fun hG => pc_impl_from (b : Int) 0 (IntKind.wrap .i64 ((c.length : Int) - 1))) (by first | (simp; done) | (simp [inR_iff]; done) | (simp [inR_iff]; grind) | grind) (fun hG => by simp [go_sem]) rfl rfl (by first | exact Or.inl rfl | exact Or.inr rfl) ?_
    simp (config := {maxSteps := 10000000}) [go_sem, ty3, ty4, ty22, ty45, q2, q3, hab, hab2, hal, hbl, ha0, hb0, ha1, hb1, hk9]
    first | refine callG_false (.l (.t (.bool false))) ?_ | refine callG_pc (fun hG => pc_impl_ClockWithin c[a] c[b] (by omega)) (by first | (simp; done) | (simp [inR_iff]; done) | (simp [inR_iff]; grind) | grind) (fun hG => by simp [go_sem, hal, hbl]) rfl rfl (by first | exact Or.inl rfl | exact Or.inr rfl) ?_
    simp (config := {maxSteps := 10000000}) [go_sem, ty4, q2, q3, hab, hab2, hal, hbl, ha0, hb0, ha1, hb1, hk9]
    repeat refine ⟨by first | omega | grind, ?_⟩
    refine h2 _ ?_
    clear h2 K2
    refine W_ret ?_
    simp [go_sem, hk9]

set_option maxRecDepth 100000 in
set_option maxHeartbeats 4000000 in
theorem pc_impl_Knows (n : Int) (list : List GEvent) (i : Int) (k : Int) (hx : list.length ≤ 1048576) : PC Try.prog 21 [(false, [.int .i64 n]), (false, [.sl 5 (enc eEvent list)]), (false, [.int .i64 i]), (false, [.int .i64 k])] [(false, [.bool (knowsB (clocks n list) i k)])] := by
  have hl := clocks_len n list
  have hq : ∀ a ∈ clocks n list, a.length ≤ 1048576 := fun a ha => by have := clocks_each n list a ha; omega
  refine PC_of (n := 15) Try.func21 rfl rfl rfl rfl (by simp) ?_
  refine W_seqK fun K1 h1 => ?_
  refine W_reg ?_
  simp [go_sem, ty4]
  repeat refine ⟨by first | omega | grind, ?_⟩
  refine h1 _ ?_
  clear h1 K1
  refine W_seqK fun K2 h2 => ?_
  refine W_reg ?_
  simp [go_sem, ty3, ty22, ty41, ty45, ty54]
  refine callG_pc (fun hG => pc_impl_Clocks n list (by first | assumption | omega)) (by first | (simp; done) | (simp [inR_iff]; done) | (simp [inR_iff]; grind) | grind) (fun hG => by simp [go_sem]) rfl rfl (by first | exact Or.inl rfl | exact Or.inr rfl) ?_
  simp [go_sem, ty3, ty4, ty22, ty45]
  refine callG_pc (fun hG => pc_impl_knows (clocks n list) i k (by first | assumption | omega) (by first | assumption | omega)) (by first | (simp; done) | (simp [inR_iff]; done) | (simp [inR_iff]; grind) | grind) (fun hG => by simp [go_sem]) rfl rfl (by first | exact Or.inl rfl | exact Or.inr rfl) ?_
  simp [go_sem, ty4]
  repeat refine ⟨by first | omega | grind, ?_⟩
  refine h2 _ ?_
  clear h2 K2
  refine W_ret ?_
  simp [go_sem]
end Go.Tw
