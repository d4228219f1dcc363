/- Plain functions: writes done again, one event behind the other. -/
import Derived.Test.YthajhlpbinjpgaaM1
set_option linter.unusedSimpArgs false
set_option linter.unusedVariables false
namespace Go.Tw
def redo1 (xs : List Int) (e : GEvent) : List Int := if (0 ≤ e.at_ ∧ e.at_ ≤ 23) ∧ (0 ≤ e.put ∧ e.put ≤ 65535) then xs.set e.at_.toNat e.put else xs
def redoN (xs : List Int) (es : List GEvent) (n : Nat) : List Int := (es.take n).foldl redo1 xs
def redo (xs : List Int) (es : List GEvent) : List Int := if xs.length = 24 then redoN xs es es.length else xs
theorem redo1_len (xs : List Int) (e : GEvent) : (redo1 xs e).length = xs.length := by unfold redo1; split <;> simp
theorem foldl_redo1_len : ∀ (es : List GEvent) (xs : List Int), (es.foldl redo1 xs).length = xs.length
  | [], xs => rfl
  | e :: es, xs => by rw [List.foldl_cons, foldl_redo1_len es, redo1_len]
theorem redoN_len (xs : List Int) (es : List GEvent) (n : Nat) : (redoN xs es n).length = xs.length := foldl_redo1_len _ _
theorem redoN_succ {xs : List Int} {es : List GEvent} {i : Nat} (h : i < es.length) : redoN xs es (i + 1) = redo1 (redoN xs es i) es[i] := by
  unfold redoN
  rw [← List.take_append_getElem h, List.foldl_append]
  rfl
theorem redoN_step {xs : List Int} {es : List GEvent} {i : Nat} (h : i < es.length) (hb : (0 ≤ es[i].at_ ∧ es[i].at_ ≤ 23) ∧ (0 ≤ es[i].put ∧ es[i].put ≤ 65535)) : redoN xs es (i + 1) = (redoN xs es i).set es[i].at_.toNat es[i].put := by
  rw [redoN_succ h, redo1, if_pos hb]
theorem redoN_skip {xs : List Int} {es : List GEvent} {i : Nat} (h : i < es.length) (hb : ¬ ((0 ≤ es[i].at_ ∧ es[i].at_ ≤ 23) ∧ (0 ≤ es[i].put ∧ es[i].put ≤ 65535))) : redoN xs es (i + 1) = redoN xs es i := by
  rw [redoN_succ h, redo1, if_neg hb]
theorem redo_len (xs : List Int) (es : List GEvent) : (redo xs es).length = xs.length := by unfold redo; split; exact redoN_len _ _ _; rfl
end Go.Tw
