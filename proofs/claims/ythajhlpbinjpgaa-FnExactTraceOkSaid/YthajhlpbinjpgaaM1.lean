/- Plain functions: numbers that are written in order; lists. -/
import Derived.Test.YthajhlpbinjpgaaTw40
set_option linter.unusedSimpArgs false
set_option linter.unusedVariables false
namespace Go.Tw

def markE (k : Int) : Nat → Int
  | 0 => k
  | n + 1 => IntKind.wrap .i64 (markE k n + 1)

def marks (k : Int) : Nat → List Int
  | 0 => []
  | n + 1 => marks k n ++ [markE k n]

theorem marks_length (k : Int) : ∀ n, (marks k n).length = n
  | 0 => rfl
  | n + 1 => by simp [marks, marks_length k n]

theorem marks_take (k : Int) (n : Nat) : (marks k n).take n = marks k n := List.take_of_length_le (by rw [marks_length]; exact Nat.le_refl _)
attribute [go_sem] marks_length marks_take

theorem marks_step (k : Int) (xs : List Int) (i : Nat) (h : i < xs.length) : (marks k i ++ xs.drop i).set i (markE k i) = marks k (i + 1) ++ xs.drop (i + 1) := by
  rw [List.set_append_right _ _ (by rw [marks_length]; exact Nat.le_refl _), marks_length, Nat.sub_self, List.drop_eq_getElem_cons h, List.set_cons_zero]
  simp [marks]

theorem marks_step2 (k : Int) (xs : List Int) (i : Nat) (h : i < xs.length) : marks k i ++ (xs.drop i).set 0 (markE k i) = marks k (i + 1) ++ xs.drop (i + 1) := by
  rw [List.drop_eq_getElem_cons h, List.set_cons_zero]
  simp [marks]

theorem marks_get (k : Int) : ∀ (n i : Nat), i < n → (marks k n)[i]? = some (markE k i)
  | n + 1, i, h => by
    simp only [marks]
    by_cases hi : i < n
    · rw [List.getElem?_append_left (by rw [marks_length]; exact hi)]
      exact marks_get k n i hi
    · obtain rfl : i = n := by omega
      rw [List.getElem?_append_right (by rw [marks_length]; exact Nat.le_refl _), marks_length]
      simp

theorem markE_pos : ∀ (k : Int) (n : Nat), 0 ≤ k → k + n ≤ 9223372036854775807 → markE k n = k + n
  | k, 0, _, _ => by simp [markE]
  | k, n + 1, h0, h => by
    simp only [markE]
    rw [markE_pos k n h0 (by omega), wrap_ok (by omega) (by omega)]
    omega

theorem fill_step {α : Type} (xs : List α) (d : α) (i : Nat) (h : i < xs.length) : (xs.take i ++ List.replicate (xs.length - i) d).set i xs[i] = xs.take (i + 1) ++ List.replicate (xs.length - (i + 1)) d := by
  have e : xs.length - i = (xs.length - (i + 1)) + 1 := by omega
  have l : (xs.take i).length = i := by simp; omega
  rw [e, List.replicate_succ, List.set_append_right _ _ (by omega), l, Nat.sub_self, List.set_cons_zero, ← List.take_append_getElem h, List.append_assoc]
  rfl

theorem eq_of_take {α : Type} {xs ys : List α} (hl : xs.length = ys.length) (h : xs.take xs.length = ys.take xs.length) : xs = ys := by
  rw [List.take_length, hl, List.take_length] at h
  exact h

theorem take_succ_eq {α : Type} {xs ys : List α} {i : Nat} (h : xs.take i = ys.take i) (h1 : i < xs.length) (h2 : i < ys.length) (he : xs[i] = ys[i]) : xs.take (i + 1) = ys.take (i + 1) := by
  rw [← List.take_append_getElem h1, ← List.take_append_getElem h2, h, he]

theorem ne_of_get {α : Type} {xs ys : List α} {i : Nat} (h1 : i < xs.length) (h2 : i < ys.length) (he : xs[i] ≠ ys[i]) : xs ≠ ys := fun e => by subst e; exact he rfl

theorem ne_of_len {α : Type} {xs ys : List α} (h : xs.length ≠ ys.length) : xs ≠ ys := fun e => h (by rw [e])

def writesOf (e : GEvent) : List Int := if 0 ≤ e.put then [e.at_] else []
def readsOf (e : GEvent) : List Int := if 0 ≤ e.got then [e.pc, e.at_] else [e.pc]
/-- Two neighbours change places. -/
def turnAt (xs : List Int) (i : Int) : List Int := if 0 ≤ i ∧ i < xs.length - 1 then (xs.set i.toNat (xs.getD (i.toNat + 1) 0)).set (i.toNat + 1) (xs.getD i.toNat 0) else xs
/-- The first i elements by a rule. -/
def upto {α : Type} (f : Nat → α) (xs : List α) (i : Nat) : List α := (List.range i).map f ++ xs.drop i
theorem upto_zero {α : Type} (f : Nat → α) (xs : List α) : upto f xs 0 = xs := by simp [upto]
theorem upto_len {α : Type} (f : Nat → α) (xs : List α) (i : Nat) (h : i ≤ xs.length) : (upto f xs i).length = xs.length := by simp [upto]; omega
theorem upto_step {α : Type} {f : Nat → α} {xs : List α} {i : Nat} {v : α} (h : i < xs.length) (hv : f i = v) : (upto f xs i).set i v = upto f xs (i + 1) := by
  subst hv
  unfold upto
  rw [List.set_append_right _ _ (by simp), List.length_map, List.length_range, Nat.sub_self, List.drop_eq_getElem_cons h, List.set_cons_zero, List.range_succ]
  simp
theorem upto_full {α : Type} (f : Nat → α) (xs : List α) : upto f xs xs.length = (List.range xs.length).map f := by simp [upto]

theorem upto_get {α : Type} (f : Nat → α) (xs : List α) {i : Nat} (h : i < xs.length) : (upto f xs i)[i]? = some xs[i] := by
  unfold upto
  rw [List.getElem?_append_right (by simp)]
  simp [h]
theorem markE_succ (k : Int) (n : Nat) : IntKind.wrap .i64 (markE k n + 1) = markE k (n + 1) := rfl
def mEvent (k : Int) (i : Nat) : GEvent := ⟨markE k (5 * i), markE k (5 * i + 1), markE k (5 * i + 2), markE k (5 * i + 3), markE k (5 * i + 4)⟩
def mIns (k : Int) (i : Nat) : GIns := ⟨markE k (5 * i), markE k (5 * i + 1), markE k (5 * i + 2), markE k (5 * i + 3), markE k (5 * i + 4)⟩
def mRace (k : Int) (i : Nat) : GRace := ⟨markE k (2 * i), markE k (2 * i + 1)⟩
def joinAt (xs ys : List Int) (i : Nat) : Int := max (xs.getD i 0) (ys.getD i 0)
def clockJoin (xs ys : List Int) : List Int := if xs.length = ys.length then (List.range xs.length).map (joinAt xs ys) else xs
theorem clockJoin_len (xs ys : List Int) : (clockJoin xs ys).length = xs.length := by unfold clockJoin; split <;> simp
theorem turnAt_len (xs : List Int) (i : Int) : (turnAt xs i).length = xs.length := by unfold turnAt; split <;> simp
/-- What is left of a size. -/
def szL (left : Int) (n : Nat) : Int := if left - n < 0 then -1 else left - n
theorem szL_pos {l : Int} {n : Nat} (h : decide (szL l n < 0) = false) : szL l n = l - n ∧ (n : Int) ≤ l ∧ 0 ≤ szL l n := by
  unfold szL at *
  split at h <;> simp_all <;> omega
def inR (x lo hi : Int) : Bool := decide (lo ≤ x) && decide (x ≤ hi)
end Go.Tw
