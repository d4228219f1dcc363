/- The layer: trees, states, rules; plain functions. -/
import Derived.Test.YtjfjnpbeboafkaaGreatBaseD
import Derived.Shelf.Spec.SlicesGrow
set_option linter.unusedSimpArgs false
set_option linter.unusedVariables false
set_option linter.unnecessarySimpa false
namespace Go.Tw
def PE {α : Type} (P : Program) (f : FuncId) (args : List A) (Q : α → Prop) (res : α → List A) : Prop :=
  Ours P f ∧ ∀ w vs, Shapes args vs → (∀ (j : Nat) t v, (flatA args)[j]? = some t → (flatU vs)[j]? = some v → Rep w false v t fun _ => True) → Calls P f vs.toArray w fun
    | .returned r, w' => w.heap.size ≤ w'.heap.size ∧ (∀ b, b < w.heap.size → w'.heap[b]? = w.heap[b]?) ∧ w'.os = w.os ∧ w'.tape = w.tape ∧ w'.output = w.output ∧
        ∃ x, Q x ∧ ∃ us, r = oneU us ∧ Shapes (res x) us ∧ ∃ F : Nat → Blks, (∀ (j : Nat) t v, (flatA (res x))[j]? = some t → (flatU us)[j]? = some v → Rep w' true v t (F j)) ∧ (∀ j b, F j b → w.heap.size ≤ b) ∧ ∀ j j' b, F j b → F j' b → j = j'
    | _, _ => False
theorem PE.pc {α : Type} {P : Program} {f : FuncId} {args : List A} {Q : α → Prop} {res : α → List A} (h : PE P f args Q res) : ∀ w vs, Shapes args vs → (∀ (j : Nat) t v, (flatA args)[j]? = some t → (flatU vs)[j]? = some v → Rep w false v t fun _ => True) → Calls P f vs.toArray w fun
    | .returned r, w' => ∃ x, Q x ∧ (w.heap.size ≤ w'.heap.size ∧ (∀ b, b < w.heap.size → w'.heap[b]? = w.heap[b]?) ∧ w'.os = w.os ∧ w'.tape = w.tape ∧ w'.output = w.output ∧
        ∃ us, r = oneU us ∧ Shapes (res x) us ∧ ∃ F : Nat → Blks, (∀ (j : Nat) t v, (flatA (res x))[j]? = some t → (flatU us)[j]? = some v → Rep w' true v t (F j)) ∧ (∀ j b, F j b → w.heap.size ≤ b) ∧ ∀ j j' b, F j b → F j' b → j = j')
    | _, _ => False := fun w vs h1 h2 => Calls.mono (h.2 w vs h1 h2) fun e w' he => by
  cases e with
  | returned r => obtain ⟨a1, a2, a3, a4, a5, x, hx, rest⟩ := he; exact ⟨x, hx, a1, a2, a3, a4, a5, rest⟩
  | panicked => exact he
  | outgrown => exact he
section
variable {P : Program} {w0 w w' : World} {Al : Blks} {N : Nat} {g : Gh} {σ σ' : St} {a : Act}
end
end Go.Tw

namespace Go.Tw
theorem View.comp {u v v' : Value} {z n : Nat} (h : View u z 0 n v) (h' : View v z 0 n v') : View u z 0 n v' := by
  obtain ⟨oa, m, cap, o1, rfl, rfl, h1⟩ := h
  obtain ⟨oa', m', cap', o2, e, rfl, h2⟩ := h'
  cases e
  refine ⟨oa, m, cap, o2, rfl, by simp, ?_⟩
  rcases h1 with h1 | h1
  · exact Or.inl (by omega)
  · rcases h2 with h2 | h2
    · exact Or.inl (by omega)
    · refine Or.inr ?_
      rw [h2, h1]
      cases oa <;> simp [Addr.add]
def St.drawn (σ : St) (k : Nat) (ls : List L) (res : List A) : St := { σ with box := (k, ls) :: del [k] σ.box, row := rowsN .own σ.nxt (flatA res) ++ σ.row, nxt := σ.nxt + (flatA res).length }
section
variable {P : Program} {w0 w w' : World} {Al : Blks} {N : Nat} {g : Gh} {σ σ' : St} {a : Act}
end
end Go.Tw

namespace Go.Tw
section
variable {P : Program} {w0 w w' : World} {Al : Blks} {N : Nat} {g : Gh} {σ σ' : St} {a : Act}
end
attribute [go_sem] St.drawn
end Go.Tw

namespace Go.Tw
section
variable {P : Program} {w0 w w' : World} {Al : Blks} {N : Nat} {g : Gh} {σ σ' : St} {a : Act}
end
end Go.Tw
namespace Go.Tw
theorem W_seqJ {P : Program} {N : Nat} {K : Exit → St → Prop} {x y : Code} {σ : St} {α : Type} (I : α → St) (φ : α → Prop) (h1 : W P N x (Then (fun σ' => ∃ p, φ p ∧ Sub σ' (I p)) K) σ) (h2 : ∀ p, φ p → W P N y K (I p)) : W P N (.seq x y) K σ :=
  W_seqK fun K' hK => W_mono h1 fun e σ' h => by
    cases e with
    | normal => obtain ⟨p, hp, hs⟩ := h; exact hK _ (W_sub hs (h2 p hp))
    | _ => exact h
end Go.Tw

namespace Go.Tw
end Go.Tw

namespace Go.Tw
open Go.Proofs Go.Shelf
section
variable {P : Program} {ρ : Ren}
end
end Go.Tw

namespace Go.Tw
end Go.Tw
namespace Go.Tw
section
variable {P : Program} {w0 w w' : World} {Al : Blks} {N : Nat} {g : Gh} {σ σ' : St} {a : Act}
end
end Go.Tw
namespace Go.Tw
section
variable {P : Program} {w0 w w' : World} {Al : Blks} {N : Nat} {g : Gh} {σ σ' : St} {a : Act}
theorem RepLs.app : ∀ {ls ks : List L} {vs us : List Value}, RepLs w g σ ls vs → RepLs w g σ ks us → RepLs w g σ (ls ++ ks) (vs ++ us)
  | [], _, [], _, _, h' => h'
  | [], _, _ :: _, _, h, _ => h.elim
  | _ :: _, _, [], _, h, _ => h.elim
  | _ :: _, _, _ :: _, _, h, h' => ⟨h.1, RepLs.app h.2 h'⟩
end
end Go.Tw
namespace Go.Tw
section
variable {P : Program} {w0 w w' : World} {Al : Blks} {N : Nat} {g : Gh} {σ σ' : St} {a : Act}
end
end Go.Tw

namespace Go.Tw
section
variable {P : Program} {w0 w w' : World} {Al : Blks} {N : Nat} {g : Gh} {σ σ' : St} {a : Act}
end
end Go.Tw

namespace Go.Tw
def StepI (P : Program) (N : Nat) (k : Bool) (ops : List Oper) (i : Nat) (σ : St) (next : St → Prop) : Prop := ∃ o, ops[i]? = some o ∧ Step P N k ops o σ next
def RunI (P : Program) (N : Nat) (k : Bool) (ops : List Oper) (K : St → Prop) : Sch → St → Prop
  | .nil, σ => K σ
  | .op i r, σ => StepI P N k ops i σ (RunI P N k ops K r)
  | .fork i a j b, σ => StepI P N k ops i σ (RunI P N k ops K a) ∧ StepI P N k ops j σ (RunI P N k ops K b)
  | .fork3 i a j b m c, σ => StepI P N k ops i σ (RunI P N k ops K a) ∧ StepI P N k ops j σ (RunI P N k ops K b) ∧ StepI P N k ops m σ (RunI P N k ops K c)
  | .fork4 i a j b m c n d, σ => StepI P N k ops i σ (RunI P N k ops K a) ∧ StepI P N k ops j σ (RunI P N k ops K b) ∧ StepI P N k ops m σ (RunI P N k ops K c) ∧ StepI P N k ops n σ (RunI P N k ops K d)
  | .sub r, σ => ∃ σ', Sub σ σ' ∧ RunI P N k ops K r σ'
section
variable {P : Program} {N : Nat} {k : Bool} {ops : List Oper} {K : St → Prop} {σ : St}
theorem StepI_iff {i : Nat} {o : Oper} {n : St → Prop} (h : ops[i]? = some o) : StepI P N k ops i σ n ↔ Step P N k ops o σ n :=
  ⟨fun ⟨_, e, q⟩ => by rw [h] at e; cases e; exact q, fun q => ⟨o, h, q⟩⟩
theorem RunI_to : ∀ (s : Sch) {os : SchO} (_ : s.ops ops = some os) (σ : St), RunI P N k ops K s σ → RunS P N k ops K os σ
  | .nil, os, h, σ, R => by simp only [Sch.ops, Option.some.injEq] at h; subst h; exact R
  | .op i r, os, h, σ, R => by
    simp only [Sch.ops] at h
    split at h
    · rename_i o r' e1 e2
      cases h
      exact Step_mono (RunI_to r e2) ((StepI_iff e1).1 R)
    · cases h
  | .fork i a j b, os, h, σ, R => by
    simp only [Sch.ops] at h
    split at h
    · rename_i o a' p b' e1 e2 e3 e4
      cases h
      exact ⟨Step_mono (RunI_to a e2) ((StepI_iff e1).1 R.1), Step_mono (RunI_to b e4) ((StepI_iff e3).1 R.2)⟩
    · cases h
  | .fork3 i a j b m c, os, h, σ, R => by
    simp only [Sch.ops] at h
    split at h
    · rename_i o a' p b' q c' e1 e2 e3 e4 e5 e6
      cases h
      exact ⟨Step_mono (RunI_to a e2) ((StepI_iff e1).1 R.1), Step_mono (RunI_to b e4) ((StepI_iff e3).1 R.2.1), Step_mono (RunI_to c e6) ((StepI_iff e5).1 R.2.2)⟩
    · cases h
  | .fork4 i a j b m c n d, os, h, σ, R => by
    simp only [Sch.ops] at h
    split at h
    · rename_i o a' p b' q c' r d' e1 e2 e3 e4 e5 e6 e7 e8
      cases h
      exact ⟨Step_mono (RunI_to a e2) ((StepI_iff e1).1 R.1), Step_mono (RunI_to b e4) ((StepI_iff e3).1 R.2.1), Step_mono (RunI_to c e6) ((StepI_iff e5).1 R.2.2.1), Step_mono (RunI_to d e8) ((StepI_iff e7).1 R.2.2.2)⟩
    · cases h
  | .sub r, os, h, σ, R => by
    simp only [Sch.ops] at h
    split at h
    · rename_i r' e1
      cases h
      obtain ⟨σ', h1, h2⟩ := R
      exact ⟨σ', h1, RunI_to r e1 σ' h2⟩
    · cases h
theorem Step_bare {o : Oper} {n : St → Prop} (hg : o.guard = none) (h : Step P N k [] o σ n) : Step P N k ops o σ n := by
  unfold Step at *
  rw [hg] at *
  exact h
theorem StepI_go {i : Nat} {s : Sch} {o : Oper} (ho : ops[i]? = some o) (hg : o.guard = none) (h : ∀ K' : St → Prop, (∀ σ, RunI P N k ops K s σ → K' σ) → Step P N k [] o σ K') : StepI P N k ops i σ (RunI P N k ops K s) :=
  ⟨o, ho, Step_bare hg (h _ fun _ q => q)⟩
theorem RunI_f2 {i j : Nat} {a b : Sch} (h1 : StepI P N k ops i σ (RunI P N k ops K a)) (h2 : StepI P N k ops j σ (RunI P N k ops K b)) : RunI P N k ops K (.fork i a j b) σ := ⟨h1, h2⟩
theorem RunI_f3 {i j m : Nat} {a b c : Sch} (h1 : StepI P N k ops i σ (RunI P N k ops K a)) (h2 : StepI P N k ops j σ (RunI P N k ops K b)) (h3 : StepI P N k ops m σ (RunI P N k ops K c)) : RunI P N k ops K (.fork3 i a j b m c) σ := ⟨h1, h2, h3⟩
theorem RunI_f4 {i j m n : Nat} {a b c d : Sch} (h1 : StepI P N k ops i σ (RunI P N k ops K a)) (h2 : StepI P N k ops j σ (RunI P N k ops K b)) (h3 : StepI P N k ops m σ (RunI P N k ops K c)) (h4 : StepI P N k ops n σ (RunI P N k ops K d)) : RunI P N k ops K (.fork4 i a j b m c n d) σ := ⟨h1, h2, h3, h4⟩
theorem RunI_end (h : K σ) : RunI P N k ops K .nil σ := h
end
theorem W_drawI {P : Program} {N : Nat} {σ : St} (kc : Bool) {id : Nat} {l : List Oper} {K : Exit → St → Prop} (s : Sch) (hm : P.follows .mixedOrders = true)
    (hc : ((s.len == l.length && Region.noSelect l.toArray && checkS kc l.toArray s (Array.replicate l.length false)) && (s.ops l).isSome) = true) (h : RunI P N kc l (K .normal) s σ) : W P N (.region id l.toArray true) K σ := by
  rw [Bool.and_eq_true] at hc
  obtain ⟨os, e⟩ := Option.isSome_iff_exists.1 hc.2
  exact W_drawS kc s hm hc.1 e (RunI_to s e σ h)
end Go.Tw

namespace Go.Tw
section
variable {P : Program} {w0 w w' : World} {Al : Blks} {N : Nat} {g : Gh} {σ σ' : St} {a : Act}
end
end Go.Tw

namespace Go.Tw
def markE (k : Int) : Nat → Int
  | 0 => k
  | n + 1 => IntKind.wrap .i64 (markE k n + 1)
def marks (k : Int) : Nat → List Int
  | 0 => []
  | n + 1 => marks k n ++ [markE k n]
theorem marks_length (k : Int) : ∀ n, (marks k n).length = n
  | 0 => rfl
  | n + 1 => by simp [marks, marks_length k n]
theorem marks_take (k : Int) (n : Nat) : (marks k n).take n = marks k n := List.take_of_length_le (by rw [marks_length]; exact Nat.le_refl _)
attribute [go_sem] marks_length marks_take
theorem marks_step2 (k : Int) (xs : List Int) (i : Nat) (h : i < xs.length) : marks k i ++ (xs.drop i).set 0 (markE k i) = marks k (i + 1) ++ xs.drop (i + 1) := by
  rw [List.drop_eq_getElem_cons h, List.set_cons_zero]
  simp [marks]
theorem marks_get (k : Int) : ∀ (n i : Nat), i < n → (marks k n)[i]? = some (markE k i)
  | n + 1, i, h => by
    simp only [marks]
    by_cases hi : i < n
    · rw [List.getElem?_append_left (by rw [marks_length]; exact hi)]
      exact marks_get k n i hi
    · obtain rfl : i = n := by omega
      rw [List.getElem?_append_right (by rw [marks_length]; exact Nat.le_refl _), marks_length]
      simp
theorem markE_pos : ∀ (k : Int) (n : Nat), 0 ≤ k → k + n ≤ 9223372036854775807 → markE k n = k + n
  | k, 0, _, _ => by simp [markE]
  | k, n + 1, h0, h => by
    simp only [markE]
    rw [markE_pos k n h0 (by omega), wrap_ok (by omega) (by omega)]
    omega
theorem fill_step {α : Type} (xs : List α) (d : α) (i : Nat) (h : i < xs.length) : (xs.take i ++ List.replicate (xs.length - i) d).set i xs[i] = xs.take (i + 1) ++ List.replicate (xs.length - (i + 1)) d := by
  have e : xs.length - i = (xs.length - (i + 1)) + 1 := by omega
  have l : (xs.take i).length = i := by simp; omega
  rw [e, List.replicate_succ, List.set_append_right _ _ (by omega), l, Nat.sub_self, List.set_cons_zero, ← List.take_append_getElem h, List.append_assoc]
  rfl
theorem eq_of_take {α : Type} {xs ys : List α} (hl : xs.length = ys.length) (h : xs.take xs.length = ys.take xs.length) : xs = ys := by
  rw [List.take_length, hl, List.take_length] at h
  exact h
theorem take_succ_eq {α : Type} {xs ys : List α} {i : Nat} (h : xs.take i = ys.take i) (h1 : i < xs.length) (h2 : i < ys.length) (he : xs[i] = ys[i]) : xs.take (i + 1) = ys.take (i + 1) := by
  rw [← List.take_append_getElem h1, ← List.take_append_getElem h2, h, he]
theorem ne_of_get {α : Type} {xs ys : List α} {i : Nat} (h1 : i < xs.length) (h2 : i < ys.length) (he : xs[i] ≠ ys[i]) : xs ≠ ys := fun e => by subst e; exact he rfl
theorem ne_of_len {α : Type} {xs ys : List α} (h : xs.length ≠ ys.length) : xs ≠ ys := fun e => h (by rw [e])
def upto {α : Type} (f : Nat → α) (xs : List α) (i : Nat) : List α := (List.range i).map f ++ xs.drop i
theorem upto_zero {α : Type} (f : Nat → α) (xs : List α) : upto f xs 0 = xs := by simp [upto]
theorem upto_len {α : Type} (f : Nat → α) (xs : List α) (i : Nat) (h : i ≤ xs.length) : (upto f xs i).length = xs.length := by simp [upto]; omega
theorem upto_step {α : Type} {f : Nat → α} {xs : List α} {i : Nat} {v : α} (h : i < xs.length) (hv : f i = v) : (upto f xs i).set i v = upto f xs (i + 1) := by
  subst hv
  unfold upto
  rw [List.set_append_right _ _ (by simp), List.length_map, List.length_range, Nat.sub_self, List.drop_eq_getElem_cons h, List.set_cons_zero, List.range_succ]
  simp
theorem upto_full {α : Type} (f : Nat → α) (xs : List α) : upto f xs xs.length = (List.range xs.length).map f := by simp [upto]
theorem upto_get {α : Type} (f : Nat → α) (xs : List α) {i : Nat} (h : i < xs.length) : (upto f xs i)[i]? = some xs[i] := by
  unfold upto
  rw [List.getElem?_append_right (by simp)]
  simp [h]
theorem markE_succ (k : Int) (n : Nat) : IntKind.wrap .i64 (markE k n + 1) = markE k (n + 1) := rfl
def mIns (k : Int) (i : Nat) : GIns := ⟨markE k (5 * i), markE k (5 * i + 1), markE k (5 * i + 2), markE k (5 * i + 3), markE k (5 * i + 4)⟩
def szL (left : Int) (n : Nat) : Int := if left - n < 0 then -1 else left - n
theorem szL_pos {l : Int} {n : Nat} (h : decide (szL l n < 0) = false) : szL l n = l - n ∧ (n : Int) ≤ l ∧ 0 ≤ szL l n := by
  unfold szL at *
  split at h <;> simp_all <;> omega
def inR (x lo hi : Int) : Bool := decide (lo ≤ x) && decide (x ≤ hi)
end Go.Tw

namespace Go.Tw
end Go.Tw

namespace Go.Tw
theorem inR_iff (x lo hi : Int) : inR x lo hi = true ↔ lo ≤ x ∧ x ≤ hi := by simp [inR]
attribute [go_sem] inR_iff
def isW (x : Int) : Bool := inR x 0 65535
def wordsOk (xs : List Int) (n : Int) : Bool := decide ((xs.length : Int) = n) && xs.all isW
theorem wordsOk_any (xs : List Int) (n : Int) : (decide ((xs.length : Int) = n) && !(xs.any fun x => !(inR x 0 65535))) = wordsOk xs n := by
  unfold wordsOk isW
  congr 1
  induction xs with
  | nil => rfl
  | cons x xs ih => simp only [List.any_cons, List.all_cons, Bool.not_or, Bool.not_not, ih]
theorem wordsOk_false {xs : List Int} {n : Int} {i : Nat} (h : i < xs.length) (hw : isW xs[i] = false) : wordsOk xs n = false := by
  unfold wordsOk
  have : xs.all isW = false := by
    rw [List.all_eq_false]
    exact ⟨_, List.getElem_mem h, by simp [hw]⟩
  rw [this, Bool.and_false]
theorem wordsOk_all {xs : List Int} {n : Int} (h : ∀ j, (hj : j < xs.length) → isW xs[j] = true) : wordsOk xs n = decide ((xs.length : Int) = n) := by
  unfold wordsOk
  have : xs.all isW = true := by
    rw [List.all_eq_true]
    intro x hx
    obtain ⟨j, hj, rfl⟩ := List.getElem_of_mem hx
    exact h j hj
  rw [this, Bool.and_true]
theorem wordsOk_get {xs : List Int} {n : Int} (h : wordsOk xs n = true) {j : Nat} (hj : j < xs.length) : 0 ≤ xs[j] ∧ xs[j] ≤ 65535 := by
  unfold wordsOk at h
  rw [Bool.and_eq_true, List.all_eq_true] at h
  have := h.2 _ (List.getElem_mem hj)
  simpa [isW, inR] using this
theorem wordsOk_len {xs : List Int} {n : Int} (h : wordsOk xs n = true) : (xs.length : Int) = n := by
  unfold wordsOk at h
  rw [Bool.and_eq_true, decide_eq_true_eq] at h
  exact h.1
end Go.Tw
namespace Go.Tw
end Go.Tw

namespace Go.Tw
def offL (c : Int) : Nat := if c = 82 then 1 else if c = 65 then 2 else if c = 66 then 3 else 4
theorem offL_cases (c : Int) : (c = 82 ∧ offL c = 1) ∨ (c = 65 ∧ offL c = 2) ∨ (c = 66 ∧ offL c = 3) ∨ ((c ≠ 82 ∧ c ≠ 65 ∧ c ≠ 66) ∧ offL c = 4) := by
  unfold offL
  by_cases h1 : c = 82
  · simp [h1]
  by_cases h2 : c = 65
  · simp [h2]
  by_cases h3 : c = 66
  · simp [h3]
  simp [h1, h2, h3]
end Go.Tw
namespace Go.Tw
def formS (op : Int) : ByteArray :=
  if op = 1 then ⟨#[82, 78]⟩ else if op = 2 ∨ op = 10 then ⟨#[82, 65, 66]⟩ else if op = 3 ∨ op = 4 then ⟨#[82, 65, 78]⟩ else if op = 5 then ⟨#[65, 66, 78]⟩
  else if op = 6 then ⟨#[82, 65, 66, 78]⟩ else if op = 7 then ⟨#[65, 78]⟩ else if op = 8 then ⟨#[78]⟩ else ⟨#[]⟩
def formOk (op : Int) : Bool := inR op 1 10
end Go.Tw
namespace Go.Tw
def fld (v most : Int) (has : Bool) : Bool := inR v 0 most && (has || decide (v = 0))
def hasR (op : Int) : Bool := decide (op = 1 ∨ op = 2 ∨ op = 3 ∨ op = 4 ∨ op = 6 ∨ op = 10)
def hasA (op : Int) : Bool := decide (op = 2 ∨ op = 3 ∨ op = 4 ∨ op = 5 ∨ op = 6 ∨ op = 7 ∨ op = 10)
def hasB (op : Int) : Bool := decide (op = 2 ∨ op = 5 ∨ op = 6 ∨ op = 10)
def hasN (op : Int) : Bool := decide (op = 1 ∨ op = 3 ∨ op = 4 ∨ op = 5 ∨ op = 6 ∨ op = 7 ∨ op = 8)
def insOk (x : GIns) : Bool := inR x.op 1 10 && fld x.r 3 (hasR x.op) && fld x.a 3 (hasA x.op) && fld x.b 3 (hasB x.op) && fld x.n 63 (hasN x.op)
def chr (s : ByteArray) (i : Nat) : Int := ((s.data.getD i 0).toNat : Int)
def upd1 (y x : GIns) (c : Int) : GIns := if c = 82 then { y with r := x.r } else if c = 65 then { y with a := x.a } else if c = 66 then { y with b := x.b } else { y with n := x.n }
def restN (s : ByteArray) (x : GIns) : Nat → GIns
  | 0 => ⟨x.op, 0, 0, 0, 0⟩
  | i + 1 => upd1 (restN s x i) x (chr s i)
end Go.Tw
namespace Go.Tw
theorem formS_size (op : Int) : (formS op).size ≤ 4 := by
  unfold formS
  by_cases h1 : op = 1
  · rw [if_pos h1]; decide
  rw [if_neg h1]
  by_cases h2 : op = 2 ∨ op = 10
  · rw [if_pos h2]; decide
  rw [if_neg h2]
  by_cases h3 : op = 3 ∨ op = 4
  · rw [if_pos h3]; decide
  rw [if_neg h3]
  by_cases h5 : op = 5
  · rw [if_pos h5]; decide
  rw [if_neg h5]
  by_cases h6 : op = 6
  · rw [if_pos h6]; decide
  rw [if_neg h6]
  by_cases h7 : op = 7
  · rw [if_pos h7]; decide
  rw [if_neg h7]
  by_cases h8 : op = 8
  · rw [if_pos h8]; decide
  rw [if_neg h8]
  decide
theorem insOk_rest (x : GIns) : (formOk x.op && decide (restN (formS x.op) x (formS x.op).size = x) && inR x.r 0 3 && inR x.a 0 3 && inR x.b 0 3 && inR x.n 0 63) = insOk x := by
  obtain ⟨op, r, a, b, n⟩ := x
  by_cases h : 1 ≤ op ∧ op ≤ 10
  · have h' : op = 1 ∨ op = 2 ∨ op = 3 ∨ op = 4 ∨ op = 5 ∨ op = 6 ∨ op = 7 ∨ op = 8 ∨ op = 9 ∨ op = 10 := by omega
    rcases h' with rfl | rfl | rfl | rfl | rfl | rfl | rfl | rfl | rfl | rfl <;>
    · rw [Bool.eq_iff_iff]
      simp [formOk, formS, restN, upd1, chr, insOk, fld, hasR, hasA, hasB, hasN, inR, ByteArray.size]
      try omega
  · have h1 : inR op 1 10 = false := by simp [inR]; omega
    simp [formOk, insOk, h1]
end Go.Tw

namespace Go.Tw
theorem tmod_pos {n k : Int} (h : 0 ≤ n) : n.tmod k = n % k := Int.tmod_eq_emod_of_nonneg h
theorem tdiv_pos {n k : Int} (h : 0 ≤ n) : n.tdiv k = n / k := Int.tdiv_eq_ediv_of_nonneg h
theorem tmod_neg {n k : Int} (h : n < 0) : n.tmod k = -((-n) % k) := by
  have := Int.neg_tmod (-n) k
  rw [Int.neg_neg] at this
  rw [this, tmod_pos (by omega)]
def addr (n : Int) : Int := n % 24
theorem tmod24 (n : Int) : -24 < n.tmod 24 ∧ n.tmod 24 < 24 ∧ (n.tmod 24) % 24 = n % 24 := by
  by_cases h : 0 ≤ n
  · rw [tmod_pos h]; omega
  · rw [tmod_neg (by omega)]; omega
theorem tmod65536 (n : Int) : -65536 < n.tmod 65536 ∧ n.tmod 65536 < 65536 ∧ (n.tmod 65536) % 65536 = n % 65536 := by
  by_cases h : 0 ≤ n
  · rw [tmod_pos h]; omega
  · rw [tmod_neg (by omega)]; omega
theorem addr_impl (n : Int) : (IntKind.wrap .i64 (n.tmod 24 + 24)).tmod 24 = addr n := by
  unfold addr
  have h := tmod24 n
  generalize n.tmod 24 = m at h ⊢
  rw [wrap_ok (by omega) (by omega), tmod_pos (by omega)]
  omega
theorem addr_spec_neg {n : Int} (h : n.tmod 24 < 0) : IntKind.wrap .i64 (n.tmod 24 + 24) = addr n := by
  unfold addr
  by_cases h0 : 0 ≤ n
  · rw [tmod_pos h0] at h; omega
  · rw [tmod_neg (by omega)] at h ⊢; rw [wrap_ok (by omega) (by omega)]; omega
theorem addr_spec_pos {n : Int} (h : ¬ n.tmod 24 < 0) : n.tmod 24 = addr n := by
  unfold addr
  by_cases h0 : 0 ≤ n
  · rw [tmod_pos h0]
  · rw [tmod_neg (by omega)] at h ⊢; omega
theorem addr_range (n : Int) : 0 ≤ addr n ∧ addr n ≤ 23 := by unfold addr; omega
def word (n : Int) : Int := n % 65536
theorem word_impl (n : Int) : (IntKind.wrap .i64 (IntKind.wrap .i64 (n.tmod 65536 + 65535) + 1)).tmod 65536 = word n := by
  unfold word
  have h := tmod65536 n
  generalize n.tmod 65536 = m at h ⊢
  rw [wrap_ok (n := m + 65535) (by omega) (by omega), wrap_ok (by omega) (by omega), tmod_pos (by omega)]
  omega
theorem and_mask (n : Int) : (BitVec.ofInt 64 n &&& BitVec.ofInt 64 65535).toNat = (n % 65536).toNat := by
  rw [BitVec.toNat_and, show (BitVec.ofInt 64 65535).toNat = 2 ^ 16 - 1 from by decide, Nat.and_two_pow_sub_one_eq_mod, BitVec.toNat_ofInt]
  omega
theorem word_spec (n : Int) : IntKind.wrap .i64 ((BitVec.ofInt 64 n &&& BitVec.ofInt 64 65535).toNat : Int) = word n := by
  rw [and_mask, wrap_ok (by omega) (by omega)]
  unfold word
  omega
theorem word_spec2 (n : Int) : IntKind.wrap .i64 ((BitVec.ofInt 64 n &&& 65535#64).toNat : Int) = word n := by rw [← word_spec n]; rfl
def hasBits (op : Int) : Int := if op = 1 then 9 else if op = 2 then 7 else if op = 3 then 11 else if op = 4 then 11 else if op = 5 then 14 else if op = 6 then 15 else if op = 7 then 10 else if op = 8 then 8 else if op = 10 then 7 else 0
def bitN (h k : Int) : Bool := decide (IntKind.wrap .i64 ((BitVec.ofInt 64 h &&& BitVec.ofInt 64 k).toNat : Int) ≠ 0)
theorem bit1 (h : Int) : (IntKind.wrap .i64 ((BitVec.ofInt 64 h &&& 1#64).toNat : Int) != 0) = bitN h 1 := by
  rw [show (1#64 : BitVec 64) = BitVec.ofInt 64 1 from rfl]
  unfold bitN
  by_cases q : IntKind.wrap .i64 ((BitVec.ofInt 64 h &&& BitVec.ofInt 64 1).toNat : Int) = 0
  · rw [q]; rfl
  · rw [decide_eq_true q]; simpa using q
theorem bit2 (h : Int) : (IntKind.wrap .i64 ((BitVec.ofInt 64 h &&& 2#64).toNat : Int) != 0) = bitN h 2 := by
  rw [show (2#64 : BitVec 64) = BitVec.ofInt 64 2 from rfl]
  unfold bitN
  by_cases q : IntKind.wrap .i64 ((BitVec.ofInt 64 h &&& BitVec.ofInt 64 2).toNat : Int) = 0
  · rw [q]; rfl
  · rw [decide_eq_true q]; simpa using q
theorem bit4 (h : Int) : (IntKind.wrap .i64 ((BitVec.ofInt 64 h &&& 4#64).toNat : Int) != 0) = bitN h 4 := by
  rw [show (4#64 : BitVec 64) = BitVec.ofInt 64 4 from rfl]
  unfold bitN
  by_cases q : IntKind.wrap .i64 ((BitVec.ofInt 64 h &&& BitVec.ofInt 64 4).toNat : Int) = 0
  · rw [q]; rfl
  · rw [decide_eq_true q]; simpa using q
theorem bit8 (h : Int) : (IntKind.wrap .i64 ((BitVec.ofInt 64 h &&& 8#64).toNat : Int) != 0) = bitN h 8 := by
  rw [show (8#64 : BitVec 64) = BitVec.ofInt 64 8 from rfl]
  unfold bitN
  by_cases q : IntKind.wrap .i64 ((BitVec.ofInt 64 h &&& BitVec.ofInt 64 8).toNat : Int) = 0
  · rw [q]; rfl
  · rw [decide_eq_true q]; simpa using q
theorem insOk_bits (x : GIns) : (inR x.op 1 10 && fld x.r 3 (bitN (hasBits x.op) 1) && fld x.a 3 (bitN (hasBits x.op) 2) && fld x.b 3 (bitN (hasBits x.op) 4) && fld x.n 63 (bitN (hasBits x.op) 8)) = insOk x := by
  obtain ⟨op, r, a, b, n⟩ := x
  by_cases h : 1 ≤ op ∧ op ≤ 10
  · have h' : op = 1 ∨ op = 2 ∨ op = 3 ∨ op = 4 ∨ op = 5 ∨ op = 6 ∨ op = 7 ∨ op = 8 ∨ op = 9 ∨ op = 10 := by omega
    have e1 : bitN (hasBits op) 1 = hasR op := by rcases h' with rfl | rfl | rfl | rfl | rfl | rfl | rfl | rfl | rfl | rfl <;> decide
    have e2 : bitN (hasBits op) 2 = hasA op := by rcases h' with rfl | rfl | rfl | rfl | rfl | rfl | rfl | rfl | rfl | rfl <;> decide
    have e3 : bitN (hasBits op) 4 = hasB op := by rcases h' with rfl | rfl | rfl | rfl | rfl | rfl | rfl | rfl | rfl | rfl <;> decide
    have e4 : bitN (hasBits op) 8 = hasN op := by rcases h' with rfl | rfl | rfl | rfl | rfl | rfl | rfl | rfl | rfl | rfl <;> decide
    simp only [e1, e2, e3, e4, insOk]
  · have h1 : inR op 1 10 = false := by simp [inR]; omega
    simp [insOk, h1]
def decIns (w : Int) : GIns := ⟨w % 16, w / 16 % 4, w / 64 % 4, w / 256 % 4, w / 1024⟩
def decOk (w : Int) : Bool := isW w && insOk (decIns w)
def decode (w : Int) : GIns := if decOk w = true then decIns w else ⟨0, 0, 0, 0, 0⟩
def aims (x : GIns) : Bool := decide (x.op = 4 ∨ x.op = 5 ∨ x.op = 6)
def target (x : GIns) (regs : List Int) : Int := if insOk x = true ∧ aims x = true ∧ regs.length = 4 then addr (IntKind.wrap .i64 (regs.getD x.a.toNat 0 + x.n)) else -1
def hartOk (h : GHart) : Bool := wordsOk h.regs 4 && inR h.pc 0 23 && inR h.state 0 2
theorem insOk_range {x : GIns} (h : insOk x = true) : (1 ≤ x.op ∧ x.op ≤ 10) ∧ (0 ≤ x.r ∧ x.r ≤ 3) ∧ (0 ≤ x.a ∧ x.a ≤ 3) ∧ (0 ≤ x.b ∧ x.b ≤ 3) ∧ (0 ≤ x.n ∧ x.n ≤ 63) := by
  simp [insOk, fld, inR] at h
  omega
end Go.Tw

namespace Go.Tw
def work (h : GHart) (x : GIns) (got : Int) : GHart × Int :=
  if hartOk h = true ∧ h.state = 0 ∧ isW got = true then
    if insOk x = true then
      if x.op = 1 then (⟨h.regs.set x.r.toNat x.n, addr (h.pc + 1), 0⟩, -1)
      else if x.op = 2 then (⟨h.regs.set x.r.toNat (word (h.regs.getD x.a.toNat 0 + h.regs.getD x.b.toNat 0)), addr (h.pc + 1), 0⟩, -1)
      else if x.op = 10 then (⟨h.regs.set x.r.toNat (word (h.regs.getD x.a.toNat 0 - h.regs.getD x.b.toNat 0)), addr (h.pc + 1), 0⟩, -1)
      else if x.op = 3 then (⟨h.regs.set x.r.toNat (word (h.regs.getD x.a.toNat 0 + x.n)), addr (h.pc + 1), 0⟩, -1)
      else if x.op = 4 then (⟨h.regs.set x.r.toNat got, addr (h.pc + 1), 0⟩, -1)
      else if x.op = 5 then (⟨h.regs, addr (h.pc + 1), 0⟩, h.regs.getD x.b.toNat 0)
      else if x.op = 6 then (⟨h.regs.set x.r.toNat got, addr (h.pc + 1), 0⟩, word (got + h.regs.getD x.b.toNat 0))
      else if x.op = 7 then (⟨h.regs, if h.regs.getD x.a.toNat 0 = 0 then addr x.n else addr (h.pc + 1), 0⟩, -1)
      else if x.op = 8 then (⟨h.regs, addr x.n, 0⟩, -1)
      else (⟨h.regs, h.pc, 1⟩, -1)
    else (⟨h.regs, h.pc, 2⟩, -1)
  else (h, -1)
theorem work_no {h : GHart} {x : GIns} {got : Int} (q : ¬ (hartOk h = true ∧ h.state = 0 ∧ isW got = true)) : work h x got = (h, -1) := if_neg q
theorem hart_facts {h : GHart} (q : hartOk h = true) : wordsOk h.regs 4 = true ∧ (h.regs.length : Int) = 4 ∧ (0 ≤ h.pc ∧ h.pc ≤ 23) ∧ (0 ≤ h.state ∧ h.state ≤ 2) := by
  unfold hartOk at q
  rw [Bool.and_eq_true, Bool.and_eq_true] at q
  obtain ⟨⟨q1, q2⟩, q3⟩ := q
  exact ⟨q1, wordsOk_len q1, (inR_iff _ _ _).1 q2, (inR_iff _ _ _).1 q3⟩
end Go.Tw

namespace Go.Tw
theorem target_range (x : GIns) (regs : List Int) : target x regs = -1 ∨ (0 ≤ target x regs ∧ target x regs ≤ 23) := by
  unfold target
  split
  · right; exact addr_range _
  · left; rfl
end Go.Tw

namespace Go.Tw
theorem mem_le_sum {α : Type} {f : α → Nat} : ∀ {xs : List α} {a : α}, a ∈ xs → f a ≤ (xs.map f).sum
  | x :: xs, a, h => by
    simp only [List.map_cons, List.sum_cons]
    rcases List.mem_cons.1 h with rfl | h
    · omega
    · have := mem_le_sum (f := f) h
      omega
def GMsg.tot (x : GMsg) : Nat := x.list.length
def GMsg.small (x : GMsg) : Prop := (x.list.length ≤ 1048576)
theorem GMsg.small_of (x : GMsg) (h : x.tot ≤ 1048576) : x.small := by
  unfold GMsg.tot at h
  unfold GMsg.small
  exact by omega
def GSender.tot (x : GSender) : Nat := x.queue.length + (x.queue.map fun a => a.tot).sum
def GSender.small (x : GSender) : Prop := (x.queue.length ≤ 1048576) ∧ (∀ a ∈ x.queue, a.small)
theorem GSender.small_of (x : GSender) (h : x.tot ≤ 1048576) : x.small := by
  unfold GSender.tot at h
  unfold GSender.small
  exact ⟨by omega, fun a ha => GMsg.small_of a (by have := mem_le_sum (f := fun a : GMsg => a.tot) ha; omega)⟩
def GPacket.tot (x : GPacket) : Nat := x.msg.tot
def GPacket.small (x : GPacket) : Prop := (x.msg.small)
theorem GPacket.small_of (x : GPacket) (h : x.tot ≤ 1048576) : x.small := by
  unfold GPacket.tot at h
  unfold GPacket.small
  exact GMsg.small_of _ (by omega)
def GFrame.tot (x : GFrame) : Nat := x.list.length
def GFrame.small (x : GFrame) : Prop := (x.list.length ≤ 1048576)
theorem GFrame.small_of (x : GFrame) (h : x.tot ≤ 1048576) : x.small := by
  unfold GFrame.tot at h
  unfold GFrame.small
  exact by omega
def GHome.tot (x : GHome) : Nat := x.list.length + x.readers.length + x.queue.length
def GHome.small (x : GHome) : Prop := (x.list.length ≤ 1048576) ∧ (x.readers.length ≤ 1048576) ∧ (x.queue.length ≤ 1048576)
theorem GHome.small_of (x : GHome) (h : x.tot ≤ 1048576) : x.small := by
  unfold GHome.tot at h
  unfold GHome.small
  exact ⟨by omega, by omega, by omega⟩
def GTold.tot (x : GTold) : Nat := x.msg.tot
def GTold.small (x : GTold) : Prop := (x.msg.small)
theorem GTold.small_of (x : GTold) (h : x.tot ≤ 1048576) : x.small := by
  unfold GTold.tot at h
  unfold GTold.small
  exact GMsg.small_of _ (by omega)
def GNode.tot (x : GNode) : Nat := x.frames.length + (x.frames.map fun a => a.tot).sum + x.homes.length + (x.homes.map fun a => a.tot).sum + x.out.length + (x.out.map fun a => a.tot).sum + x.in_.length
def GNode.small (x : GNode) : Prop := (x.frames.length ≤ 1048576) ∧ (∀ a ∈ x.frames, a.small) ∧ (x.homes.length ≤ 1048576) ∧ (∀ a ∈ x.homes, a.small) ∧ (x.out.length ≤ 1048576) ∧ (∀ a ∈ x.out, a.small) ∧ (x.in_.length ≤ 1048576)
theorem GNode.small_of (x : GNode) (h : x.tot ≤ 1048576) : x.small := by
  unfold GNode.tot at h
  unfold GNode.small
  exact ⟨by omega, fun a ha => GFrame.small_of a (by have := mem_le_sum (f := fun a : GFrame => a.tot) ha; omega), by omega, fun a ha => GHome.small_of a (by have := mem_le_sum (f := fun a : GHome => a.tot) ha; omega), by omega, fun a ha => GSender.small_of a (by have := mem_le_sum (f := fun a : GSender => a.tot) ha; omega), by omega⟩
def GWorld.tot (x : GWorld) : Nat := x.nodes.length + (x.nodes.map fun a => a.tot).sum + x.net.length + (x.net.map fun a => a.tot).sum
def GWorld.small (x : GWorld) : Prop := (x.nodes.length ≤ 1048576) ∧ (∀ a ∈ x.nodes, a.small) ∧ (x.net.length ≤ 1048576) ∧ (∀ a ∈ x.net, a.small)
theorem GWorld.small_of (x : GWorld) (h : x.tot ≤ 1048576) : x.small := by
  unfold GWorld.tot at h
  unfold GWorld.small
  exact ⟨by omega, fun a ha => GNode.small_of a (by have := mem_le_sum (f := fun a : GNode => a.tot) ha; omega), by omega, fun a ha => GPacket.small_of a (by have := mem_le_sum (f := fun a : GPacket => a.tot) ha; omega)⟩
def GHart.tot (x : GHart) : Nat := x.regs.length
def GHart.small (x : GHart) : Prop := (x.regs.length ≤ 1048576)
theorem GHart.small_of (x : GHart) (h : x.tot ≤ 1048576) : x.small := by
  unfold GHart.tot at h
  unfold GHart.small
  exact by omega
def GBlock.tot (x : GBlock) : Nat := x.list.length
def GBlock.small (x : GBlock) : Prop := (x.list.length ≤ 1048576)
theorem GBlock.small_of (x : GBlock) (h : x.tot ≤ 1048576) : x.small := by
  unfold GBlock.tot at h
  unfold GBlock.small
  exact by omega
def GCore.tot (x : GCore) : Nat := x.hart.tot + x.cache.length + (x.cache.map fun a => a.tot).sum
def GCore.small (x : GCore) : Prop := (x.hart.small) ∧ (x.cache.length ≤ 1048576) ∧ (∀ a ∈ x.cache, a.small)
theorem GCore.small_of (x : GCore) (h : x.tot ≤ 1048576) : x.small := by
  unfold GCore.tot at h
  unfold GCore.small
  exact ⟨GHart.small_of _ (by omega), by omega, fun a ha => GBlock.small_of a (by have := mem_le_sum (f := fun a : GBlock => a.tot) ha; omega)⟩
def GFlock.tot (x : GFlock) : Nat := x.world.tot + x.cores.length + (x.cores.map fun a => a.tot).sum
def GFlock.small (x : GFlock) : Prop := (x.world.small) ∧ (x.cores.length ≤ 1048576) ∧ (∀ a ∈ x.cores, a.small)
theorem GFlock.small_of (x : GFlock) (h : x.tot ≤ 1048576) : x.small := by
  unfold GFlock.tot at h
  unfold GFlock.small
  exact ⟨GWorld.small_of _ (by omega), by omega, fun a ha => GCore.small_of a (by have := mem_le_sum (f := fun a : GCore => a.tot) ha; omega)⟩
end Go.Tw

namespace Go.Tw
theorem szL_add {l : Int} {n : Nat} (m : Nat) (h : 0 ≤ szL l n) : szL (szL l n) m = szL l (n + m) := by
  unfold szL at *
  split at h
  · omega
  · rw [if_neg (by omega : ¬ l - n < 0)]
    by_cases h2 : l - n - m < 0
    · rw [if_pos h2, if_pos (by omega)]
    · rw [if_neg h2, if_neg (by omega)]; omega
theorem szL_neg {l : Int} {n : Nat} (m : Nat) (h : szL l n < 0) : szL l (n + m) = -1 := by
  unfold szL at *
  split at h
  · rw [if_pos (by omega)]
  · omega
theorem szL_le {l : Int} {n : Nat} (h : 0 ≤ l) : -1 ≤ szL l n ∧ szL l n ≤ l := by unfold szL; split <;> omega
def sumTo {α : Type} (f : α → Nat) (xs : List α) (i : Nat) : Nat := ((xs.take i).map f).sum
theorem sumTo_zero {α : Type} (f : α → Nat) (xs : List α) : sumTo f xs 0 = 0 := rfl
theorem sumTo_succ {α : Type} (f : α → Nat) {xs : List α} {i : Nat} (h : i < xs.length) : sumTo f xs (i + 1) = sumTo f xs i + f xs[i] := by
  unfold sumTo
  rw [← List.take_append_getElem h, List.map_append, List.sum_append]
  simp
theorem sumTo_full {α : Type} (f : α → Nat) (xs : List α) : sumTo f xs xs.length = (xs.map f).sum := by simp [sumTo]
theorem sumTo_rest {α : Type} (f : α → Nat) (xs : List α) (i : Nat) : ∃ m, (xs.map f).sum = sumTo f xs i + m := by
  refine ⟨((xs.drop i).map f).sum, ?_⟩
  unfold sumTo
  rw [← List.sum_append, ← List.map_append, List.take_append_drop]
end Go.Tw

