/- Plain functions: words; what was done. -/
import Derived.Test.YthajhlpbinjpgaaM2
set_option linter.unusedSimpArgs false
set_option linter.unusedVariables false
namespace Go.Tw
theorem inR_iff (x lo hi : Int) : inR x lo hi = true ↔ lo ≤ x ∧ x ≤ hi := by simp [inR]
attribute [go_sem] inR_iff
def isW (x : Int) : Bool := inR x 0 65535
def wordsOk (xs : List Int) (n : Int) : Bool := decide ((xs.length : Int) = n) && xs.all isW
theorem wordsOk_any (xs : List Int) (n : Int) : (decide ((xs.length : Int) = n) && !(xs.any fun x => !(inR x 0 65535))) = wordsOk xs n := by
  unfold wordsOk isW
  congr 1
  induction xs with
  | nil => rfl
  | cons x xs ih => simp only [List.any_cons, List.all_cons, Bool.not_or, Bool.not_not, ih]
theorem wordsOk_false {xs : List Int} {n : Int} {i : Nat} (h : i < xs.length) (hw : isW xs[i] = false) : wordsOk xs n = false := by
  unfold wordsOk
  have : xs.all isW = false := by
    rw [List.all_eq_false]
    exact ⟨_, List.getElem_mem h, by simp [hw]⟩
  rw [this, Bool.and_false]
theorem wordsOk_all {xs : List Int} {n : Int} (h : ∀ j, (hj : j < xs.length) → isW xs[j] = true) : wordsOk xs n = decide ((xs.length : Int) = n) := by
  unfold wordsOk
  have : xs.all isW = true := by
    rw [List.all_eq_true]
    intro x hx
    obtain ⟨j, hj, rfl⟩ := List.getElem_of_mem hx
    exact h j hj
  rw [this, Bool.and_true]
theorem wordsOk_get {xs : List Int} {n : Int} (h : wordsOk xs n = true) {j : Nat} (hj : j < xs.length) : 0 ≤ xs[j] ∧ xs[j] ≤ 65535 := by
  unfold wordsOk at h
  rw [Bool.and_eq_true, List.all_eq_true] at h
  have := h.2 _ (List.getElem_mem hj)
  simpa [isW, inR] using this
theorem wordsOk_len {xs : List Int} {n : Int} (h : wordsOk xs n = true) : (xs.length : Int) = n := by
  unfold wordsOk at h
  rw [Bool.and_eq_true, decide_eq_true_eq] at h
  exact h.1
end Go.Tw
namespace Go.Tw
/-- What may have been done, of a memory. -/
def okEv (m : List Int) (e : GEvent) : Bool :=
  if e.at_ = -1 then decide (e.got = -1) && decide (e.put = -1)
  else inR e.at_ 0 23 && !(decide (e.got = -1) && decide (e.put = -1)) && (decide (e.got = -1) || decide (e.got = m.getD e.at_.toNat 0)) && (decide (e.put = -1) || isW e.put)
def traceOk (xs : List Int) (es : List GEvent) : Bool := wordsOk xs 24 && (List.range es.length).all fun j => match es[j]? with
  | some e => okEv (redoN xs es j) e
  | none => true
theorem traceOk_bad {xs : List Int} {es : List GEvent} {i : Nat} (h : i < es.length) (hb : okEv (redoN xs es i) es[i] = false) : traceOk xs es = false := by
  have : ((List.range es.length).all fun j => match es[j]? with | some e => okEv (redoN xs es j) e | none => true) = false := by
    rw [List.all_eq_false]
    exact ⟨i, by simpa using h, by simp [h, hb]⟩
  unfold traceOk
  rw [this, Bool.and_false]
theorem traceOk_good {xs : List Int} {es : List GEvent} (hw : wordsOk xs 24 = true) (h : ∀ j, (hj : j < es.length) → okEv (redoN xs es j) es[j] = true) : traceOk xs es = true := by
  have : ((List.range es.length).all fun j => match es[j]? with | some e => okEv (redoN xs es j) e | none => true) = true := by
    rw [List.all_eq_true]
    intro j hj
    have hj : j < es.length := by simpa using hj
    simp [hj, h j hj]
  unfold traceOk
  rw [hw, this]
  rfl
theorem redo1_words {xs : List Int} {e : GEvent} (h : ∀ x ∈ xs, 0 ≤ x ∧ x ≤ 65535) : ∀ x ∈ redo1 xs e, 0 ≤ x ∧ x ≤ 65535 := by
  unfold redo1
  split
  · rename_i hc
    intro x hx
    rcases List.mem_or_eq_of_mem_set hx with h1 | rfl
    · exact h x h1
    · exact hc.2
  · exact h
theorem foldl_words : ∀ (es : List GEvent) (xs : List Int), (∀ x ∈ xs, 0 ≤ x ∧ x ≤ 65535) → ∀ x ∈ es.foldl redo1 xs, 0 ≤ x ∧ x ≤ 65535
  | [], _, h => h
  | e :: es, xs, h => foldl_words es _ (redo1_words h)
theorem redoN_get {xs : List Int} {es : List GEvent} {n : Nat} (hw : wordsOk xs 24 = true) (i : Nat) : 0 ≤ (redoN xs es n).getD i 0 ∧ (redoN xs es n).getD i 0 ≤ 65535 := by
  rw [List.getD_eq_getElem?_getD]
  cases h : (redoN xs es n)[i]? with
  | none => simp
  | some x =>
    have hx := List.mem_of_getElem? h
    have hb : ∀ y ∈ xs, 0 ≤ y ∧ y ≤ 65535 := by
      intro y hy
      obtain ⟨j, hj, rfl⟩ := List.getElem_of_mem hy
      exact wordsOk_get hw hj
    exact foldl_words _ _ hb x hx
theorem redoN_one {xs : List Int} {es : List GEvent} {i : Nat} (h : i < es.length) (hl : (redoN xs es i).length = 24) : redo (redoN xs es i) [es[i]] = redoN xs es (i + 1) := by
  rw [redo, if_pos hl, redoN_succ h]
  rfl
end Go.Tw
