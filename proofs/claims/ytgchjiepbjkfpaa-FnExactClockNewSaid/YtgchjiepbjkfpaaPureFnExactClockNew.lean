/- FnExactClockNew: for every number, the program's ClockNew and the reference's return the same, in memory of the call's own; no condition of its own. -/
import Derived.Test.YtgchjiepbjkfpaaPFnExactClockNewx1
namespace Go.Proofs.Ytgchjiepbjkfpaa.Pure
open Go.RowKit Go.Proofs.Ytgchjiepbjkfpaa.PFnExactClockNew Go.Proofs.YtgchjiepbjkfpaaW.PrintWords Go.Proofs.YtgchjiepbjkfpaaW.PrintLast

/-- Whether the law holds at a number with so many rounds. -/
def cnAt (n : Int) : Bool := laws_FnExactClockNew.f 40 n == some true

theorem cn_small : ∀ m : Nat, m < 9 → cnAt (m : Int) = true := by
  intro m hm
  have h : m = 0 ∨ m = 1 ∨ m = 2 ∨ m = 3 ∨ m = 4 ∨ m = 5 ∨ m = 6 ∨ m = 7 ∨ m = 8 := by omega
  rcases h with rfl | rfl | rfl | rfl | rfl | rfl | rfl | rfl | rfl <;> decide +kernel

theorem in_not (n : Int) (h : n < 1 ∨ 8 < n) : spec_l1In.f n 1 8 = some false ∧ impl_from.f n 1 8 = some false := by
  unfold spec_l1In.f impl_from.f
  by_cases h1 : n ≥ 1
  · have h2 : ¬ (n ≤ 8) := by omega
    simp [h1, h2]
  · simp [h1]

theorem new_not (n : Int) (h : n < 1 ∨ 8 < n) : spec_ClockNew.f n = some [] ∧ impl_ClockNew.f n = some [] := by
  unfold spec_ClockNew.f impl_ClockNew.f
  rw [(in_not n h).1, (in_not n h).2]
  exact ⟨rfl, rfl⟩

theorem FnExactClockNew : laws_FnExactClockNew.Pure := by
  intro n _
  refine ⟨40, ?_⟩
  by_cases h : n < 1 ∨ 8 < n
  · unfold laws_FnExactClockNew.f
    rw [(new_not n h).1, (new_not n h).2]
    decide +kernel
  · have hn : n = (n.toNat : Int) := by omega
    have := cn_small n.toNat (by omega)
    rw [← hn] at this
    unfold cnAt at this
    exact eq_of_beq this

end Go.Proofs.Ytgchjiepbjkfpaa.Pure
