/- The layer: trees, states, rules; plain functions. -/
import Derived.Test.YtafocmjoejchbaaGreatBaseD
set_option linter.unusedSimpArgs false
set_option linter.unusedVariables false
/- Plain functions: homes, nodes. -/
namespace Go.Tw
def wofN (who n : Int) : Bool := inR who 0 (IntKind.wrap .i64 (n - 1))
def homeHd (h : GHome) (n : Int) : Bool := inR n 1 4 && wordsOk h.list 4 && inR h.owner (-1) (IntKind.wrap .i64 (n - 1)) && decide ((h.readers.length : Int) = n) && wofN h.now.who n && inR h.acks 0 n && decide ((h.queue.length : Int) ≤ 12)
def homeOk (h : GHome) (n : Int) : Bool := homeHd h n && h.queue.all fun w => wofN w.who n
theorem homeOk_hd {h : GHome} {n : Int} (q : homeHd h n = false) : homeOk h n = false := by unfold homeOk; rw [q]; rfl
theorem homeOk_bad {h : GHome} {n : Int} {i : Nat} (hi : i < h.queue.length) (hf : wofN h.queue[i].who n = false) : homeOk h n = false := by
  have : (h.queue.all fun w => wofN w.who n) = false := by rw [List.all_eq_false]; exact ⟨h.queue[i], List.getElem_mem hi, by simp [hf]⟩
  unfold homeOk
  rw [this, Bool.and_false]
theorem homeOk_good {h : GHome} {n : Int} (q : homeHd h n = true) (hf : ∀ j, (hj : j < h.queue.length) → wofN h.queue[j].who n = true) : homeOk h n = true := by
  unfold homeOk
  rw [q, all_of (p := fun w : GWait => wofN w.who n) hf]
  rfl
theorem homeOk_any (h : GHome) (n : Int) : (homeHd h n && !(h.queue.any fun w => !(inR n 1 4 && wofN w.who n))) = homeOk h n := by
  unfold homeOk
  by_cases q : homeHd h n = true
  · have hn : inR n 1 4 = true := by
      unfold homeHd at q
      simp only [Bool.and_eq_true] at q
      exact q.1.1.1.1.1.1
    rw [hn]
    simp only [Bool.true_and]
    rw [all_not_any]
  · have q : homeHd h n = false := by simpa using q
    rw [q]
    rfl
end Go.Tw
/- Plain functions: nodes, cores. -/
namespace Go.Tw
def nodeHd (x : GNode) (n : Int) : Bool := inR n 1 4 && inR x.id 0 (IntKind.wrap .i64 (n - 1)) && decide ((x.frames.length : Int) = 6) && decide ((x.homes.length : Int) = 6) && decide ((x.out.length : Int) = n) && decide ((x.in_.length : Int) = n)
def gotOk (r : GReceiver) : Bool := inR r.got 0 100000
def nodeOk (x : GNode) (n : Int) : Bool := nodeHd x n && x.frames.all frameOk && (x.homes.all fun h => homeOk h n) && x.out.all senderOk && x.in_.all gotOk
theorem all_no {α : Type} {xs : List α} {p : α → Bool} {i : Nat} (h : i < xs.length) (hp : p xs[i] = false) : xs.all p = false := by
  rw [List.all_eq_false]; exact ⟨xs[i], List.getElem_mem h, by simp [hp]⟩
theorem nodeOk_hd {x : GNode} {n : Int} (h : nodeHd x n = false) : nodeOk x n = false := by unfold nodeOk; simp [h]
theorem nodeOk_bad1 {x : GNode} {n : Int} {i : Nat} (h1 : i < x.frames.length) (h2 : i < x.homes.length) (h : (!(frameOk x.frames[i]) || !(homeOk x.homes[i] n)) = true) : nodeOk x n = false := by
  unfold nodeOk
  cases hf : frameOk x.frames[i] with
  | false => rw [all_no h1 hf]; simp
  | true =>
    rw [hf] at h
    rw [all_no (p := fun h => homeOk h n) h2 (by simpa using h)]
    simp
theorem nodeOk_bad2 {x : GNode} {n : Int} {i : Nat} (h1 : i < x.out.length) (h2 : i < x.in_.length) (h : (!(senderOk x.out[i]) || !(inR x.in_[i].got 0 100000)) = true) : nodeOk x n = false := by
  unfold nodeOk
  cases hf : senderOk x.out[i] with
  | false => rw [all_no h1 hf]; simp
  | true =>
    rw [hf] at h
    rw [all_no (p := gotOk) h2 (by simpa [gotOk] using h)]
    simp
theorem nodeOk_good {x : GNode} {n : Int} (h : nodeHd x n = true) (h1 : ∀ j, (hj : j < x.frames.length) → frameOk x.frames[j] = true) (h2 : ∀ j, (hj : j < x.homes.length) → homeOk x.homes[j] n = true)
    (h3 : ∀ j, (hj : j < x.out.length) → senderOk x.out[j] = true) (h4 : ∀ j, (hj : j < x.in_.length) → inR x.in_[j].got 0 100000 = true) : nodeOk x n = true := by
  unfold nodeOk
  rw [h, all_of h1, all_of (p := fun h => homeOk h n) h2, all_of h3, all_of (p := gotOk) h4]
  rfl
theorem nodeHd_len {x : GNode} {n : Int} (h : nodeHd x n = true) : (1 ≤ n ∧ n ≤ 4) ∧ x.frames.length = 6 ∧ x.homes.length = 6 ∧ (x.out.length : Int) = n ∧ (x.in_.length : Int) = n := by
  unfold nodeHd inR at h
  simp at h
  omega
end Go.Tw
