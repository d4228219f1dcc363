/- A row of elements out of its cells' values, and back. -/
import Derived.Test.YthajhlpbinjpgaaTw14
set_option linter.unusedSimpArgs false
set_option linter.unusedVariables false
namespace Go.Tw

/-- The cells' values of some elements, one behind the other, read as trees. -/
structure CellsRep (w : World) (o : Bool) (z : Nat) (es : Els) (vals : List Value) (f : Nat → Nat → Blks) : Prop where
  len : vals.length = es.length * z
  each : ∀ x ∈ es, x.length = z
  rep : ∀ i j x c, es[i]? = some x → x[j]? = some c → ∃ v, vals[i * z + j]? = some v ∧ Rep w o v c (f i j)

theorem cell_lt {z i j n : Nat} (hi : i < n) (hj : j < z) : i * z + j < n * z := by
  have h1 : i * z + j < (i + 1) * z := by rw [Nat.add_mul, Nat.one_mul]; omega
  exact Nat.lt_of_lt_of_le h1 (Nat.mul_le_mul_right z (by omega))

theorem CellsRep.append {w : World} {o : Bool} {z : Nat} {es es' : Els} {vals vals' : List Value} {f f' : Nat → Nat → Blks} (h : CellsRep w o z es vals f) (h' : CellsRep w o z es' vals' f') :
    CellsRep w o z (es ++ es') (vals ++ vals') fun i j => if i < es.length then f i j else f' (i - es.length) j := by
  refine ⟨by simp [h.len, h'.len, Nat.add_mul], fun x hx => (List.mem_append.1 hx).elim (h.each x) (h'.each x), fun i j x c hx hc => ?_⟩
  rw [List.getElem?_append] at hx
  split at hx
  · rename_i hi
    obtain ⟨v, hv, hr⟩ := h.rep i j x c hx hc
    refine ⟨v, ?_, by simpa [hi] using hr⟩
    have : i * z + j < vals.length := (List.getElem?_eq_some_iff.1 hv).1
    rw [List.getElem?_append_left this]
    exact hv
  · rename_i hi
    obtain ⟨v, hv, hr⟩ := h'.rep (i - es.length) j x c hx hc
    refine ⟨v, ?_, by simpa [hi] using hr⟩
    have e : i * z + j = vals.length + ((i - es.length) * z + j) := by
      rw [h.len]
      have : i = es.length + (i - es.length) := by omega
      rw [this, Nat.add_mul]
      have : es.length + (i - es.length) - es.length = i - es.length := by omega
      rw [this]
      omega
    rw [e, List.getElem?_append_right (by omega), Nat.add_sub_cancel_left]
    exact hv

theorem CellsRep.mono {w w' : World} {o o' : Bool} {z : Nat} {es : Els} {vals : List Value} {f f' : Nat → Nat → Blks} (h : CellsRep w o z es vals f)
    (hf : ∀ i j v c, Rep w o v c (f i j) → Rep w' o' v c (f' i j)) : CellsRep w' o' z es vals f' :=
  ⟨h.len, h.each, fun i j x c hx hc => let ⟨v, hv, hr⟩ := h.rep i j x c hx hc; ⟨v, hv, hf i j v c hr⟩⟩

theorem CellsRep.part {w : World} {o : Bool} {z : Nat} {es : Els} {vals : List Value} {f : Nat → Nat → Blks} (h : CellsRep w o z es vals f) (off n : Nat) (hn : off + n ≤ es.length) :
    CellsRep w o z ((es.drop off).take n) ((vals.drop (off * z)).take (n * z)) fun i j => f (i + off) j := by
  have hl := h.len
  have h1 : (off + n) * z ≤ es.length * z := Nat.mul_le_mul_right z hn
  rw [Nat.add_mul] at h1
  refine ⟨by simp; rw [Nat.min_eq_left (by omega), Nat.min_eq_left (by omega)], fun x hx => h.each x (List.mem_of_mem_drop (List.mem_of_mem_take hx)), fun i j x c hx hc => ?_⟩
  rw [List.getElem?_take] at hx
  split at hx
  · rename_i hi
    rw [List.getElem?_drop] at hx
    have hz : x.length = z := h.each x (List.mem_of_getElem? hx)
    have hj : j < z := hz ▸ (List.getElem?_eq_some_iff.1 hc).1
    obtain ⟨v, hv, hr⟩ := h.rep (off + i) j x c hx hc
    refine ⟨v, ?_, by rw [Nat.add_comm i off]; exact hr⟩
    rw [List.getElem?_take, if_pos (cell_lt hi hj), List.getElem?_drop, ← hv]
    congr 1
    rw [Nat.add_mul]
    omega
  · cases hx

section
variable {w : World} {o : Bool} {z : Nat} {es : Els} {F : Blks}

/-- A slice value that reads as a row: its cells. -/
theorem Rep.open {oa : Option Addr} {n cap : Nat} (h : Rep w o (.slice oa n cap) (.sl z es) F) :
    n = es.length ∧ n ≤ cap ∧ ∃ vals f, CellsRep w o z es vals f ∧ (∀ i j b, f i j b → F b) ∧ (o = true → ∀ i j i' j' b, f i j b → f i' j' b → i = i' ∧ j = j') ∧
      (o = true → ∀ a, oa = some a → cap ≠ 0 → F a.block ∧ ∀ i j, ¬ f i j a.block) ∧ (o = true → Holds w z oa n cap vals) ∧
      (n = 0 ∨ ∃ a, oa = some a ∧ ∀ j v, vals[j]? = some v → w.cell? (a.add j) = some v) := by
  cases h with
  | nils => exact ⟨rfl, Nat.le_refl _, [], fun _ _ _ => False, ⟨by simp, by simp, by simp⟩, fun _ _ _ h => h.elim, fun _ _ _ _ _ _ h => h.elim, fun _ a h => (by cases h), fun _ => Or.inl ⟨rfl, rfl, rfl⟩, Or.inl rfl⟩
  | bare => exact ⟨rfl, Nat.le_refl _, [], fun _ _ _ => False, ⟨by simp, by simp, by simp⟩, fun _ _ _ h => h.elim, fun _ _ _ _ _ _ h => h.elim, fun _ a _ h => absurd rfl h, fun _ => Or.inl ⟨rfl, rfl, rfl⟩, Or.inl rfl⟩
  | @sl a _ _ _ _ cs f hl hF hsub hd hdd hr =>
    have hroom := hl.room
    have hmul : es.length * z ≤ cap * z := Nat.mul_le_mul_right z hl.len
    have hcell : ∀ j v, ((cs.toList.drop a.off).take (es.length * z))[j]? = some v → w.cell? (a.add j) = some v := by
      intro j v hv
      rw [List.getElem?_take] at hv
      split at hv
      · rw [List.getElem?_drop] at hv
        obtain ⟨e, fr, hb, _⟩ := hl.blk
        rw [Addr.add_plain hl.spot]
        simpa [World.cell?, hb] using hv
      · cases hv
    refine ⟨rfl, hl.len, (cs.toList.drop a.off).take (es.length * z), f, ⟨by simp; omega, hl.each, fun i j x c hx hc => ?_⟩, hsub, hdd, fun ho a' ha hc => ?_, fun ho => Or.inr ⟨a, cs, ?_⟩, Or.inr ⟨a, rfl, hcell⟩⟩
    · obtain ⟨hi, hj, hlt⟩ := hl.idx hx hc
      refine ⟨_, ?_, hr i j x c hx hc⟩
      rw [List.getElem?_take, if_pos (cell_lt hi hj), List.getElem?_drop, Array.getD_eq_getD_getElem?, ← Nat.add_assoc, Array.getElem?_toList, Array.getElem?_eq_getElem (by omega)]
      rfl
    · cases ha
      exact ⟨hF, hd ho⟩
    · obtain ⟨e, fr, hb, hfr⟩ := hl.blk
      refine ⟨e, rfl, hl.spot, ?_, hl.room, hl.len, rfl⟩
      rw [hb, hfr ho]

/-- And back: cells in a block make a row. -/
theorem CellsRep.close {a : Addr} {cap : Nat} {cs : Array Value} {e : TypeId} {vals : List Value} {f : Nat → Nat → Blks} (h : CellsRep w o z es vals f) (hsp : a.spot = none) (hb : w.heap[a.block]? = some (.cells cs e (0, 0)))
    (hroom : a.off + cap * z ≤ cs.size) (hcap : es.length ≤ cap) (hv : (cs.toList.drop a.off).take (es.length * z) = vals) (hF : F a.block) (hsub : ∀ i j b, f i j b → F b) (hd : o = true → ∀ i j, ¬ f i j a.block)
    (hdd : o = true → ∀ i j i' j' b, f i j b → f i' j' b → i = i' ∧ j = j') : Rep w o (.slice (some a) es.length cap) (.sl z es) F := by
  refine .sl f (cs := cs) ⟨⟨e, (0, 0), hb, fun _ => rfl⟩, hsp, hcap, hroom, h.each⟩ hF hsub hd hdd fun i j x c hx hc => ?_
  obtain ⟨v, hv', hr⟩ := h.rep i j x c hx hc
  have hz : x.length = z := h.each x (List.mem_of_getElem? hx)
  have hj : j < z := hz ▸ (List.getElem?_eq_some_iff.1 hc).1
  have hi : i < es.length := (List.getElem?_eq_some_iff.1 hx).1
  rw [← hv, List.getElem?_take, if_pos (cell_lt hi hj), List.getElem?_drop] at hv'
  rw [Array.getD_eq_getD_getElem?, Nat.add_assoc, ← Array.getElem?_toList, hv']
  exact hr

theorem CellsRep.closeTop {a : Addr} {cap : Nat} {cs : Array Value} {e : TypeId} {vals : List Value} {N : Blks} (h : CellsRep w false z es vals fun _ _ => N) (hsp : a.spot = none) (hb : w.heap[a.block]? = some (.cells cs e (0, 0)))
    (hroom : a.off + cap * z ≤ cs.size) (hcap : es.length ≤ cap) (hv : (cs.toList.drop a.off).take (es.length * z) = vals) (hF : F a.block) : RepTop w (.slice (some a) es.length cap) z es F N := by
  refine Or.inr ⟨a, cap, cs, rfl, ⟨⟨e, (0, 0), hb, fun _ => rfl⟩, hsp, hcap, hroom, h.each⟩, hF, fun i j x c hx hc => ?_⟩
  obtain ⟨v, hv', hr⟩ := h.rep i j x c hx hc
  have hz : x.length = z := h.each x (List.mem_of_getElem? hx)
  have hj : j < z := hz ▸ (List.getElem?_eq_some_iff.1 hc).1
  have hi : i < es.length := (List.getElem?_eq_some_iff.1 hx).1
  rw [← hv, List.getElem?_take, if_pos (cell_lt hi hj), List.getElem?_drop] at hv'
  rw [Array.getD_eq_getD_getElem?, Nat.add_assoc, ← Array.getElem?_toList, hv']
  exact hr

theorem RepTop.open {oa : Option Addr} {n cap : Nat} {N : Blks} (h : RepTop w (.slice oa n cap) z es F N) :
    n = es.length ∧ n ≤ cap ∧ ∃ vals, CellsRep w false z es vals (fun _ _ => N) ∧ (∀ a, oa = some a → cap ≠ 0 → F a.block) ∧ Holds w z oa n cap vals ∧
      (n = 0 ∨ ∃ a, oa = some a ∧ ∀ j v, vals[j]? = some v → w.cell? (a.add j) = some v) := by
  rcases h with ⟨rfl, oa', e⟩ | ⟨a, cap', cs, e, hl, hF, hc⟩
  · injection e with e1 e2 e3
    subst e1 e2 e3
    exact ⟨rfl, Nat.le_refl _, [], ⟨by simp, by simp, by simp⟩, fun _ _ h => absurd rfl h, Or.inl ⟨rfl, rfl, rfl⟩, Or.inl rfl⟩
  · injection e with e1 e2 e3
    subst e1 e2 e3
    have hroom := hl.room
    have hmul : es.length * z ≤ cap * z := Nat.mul_le_mul_right z hl.len
    have hcell : ∀ j v, ((cs.toList.drop a.off).take (es.length * z))[j]? = some v → w.cell? (a.add j) = some v := by
      intro j v hv
      rw [List.getElem?_take] at hv
      split at hv
      · rw [List.getElem?_drop] at hv
        obtain ⟨e, fr, hb, _⟩ := hl.blk
        rw [Addr.add_plain hl.spot]
        simpa [World.cell?, hb] using hv
      · cases hv
    refine ⟨rfl, hl.len, (cs.toList.drop a.off).take (es.length * z), ⟨by simp; omega, hl.each, fun i j x c hx hc' => ?_⟩, fun a' ha _ => (by cases ha; exact hF), Or.inr ⟨a, cs, ?_⟩, Or.inr ⟨a, rfl, hcell⟩⟩
    · obtain ⟨hi, hj, hlt⟩ := hl.idx hx hc'
      refine ⟨_, ?_, hc i j x c hx hc'⟩
      rw [List.getElem?_take, if_pos (cell_lt hi hj), List.getElem?_drop, Array.getD_eq_getD_getElem?, ← Nat.add_assoc, Array.getElem?_toList, Array.getElem?_eq_getElem (by omega)]
      rfl
    · obtain ⟨e, fr, hb, hfr⟩ := hl.blk
      refine ⟨e, rfl, hl.spot, ?_, hl.room, hl.len, rfl⟩
      rw [hb, hfr rfl]

end

end Go.Tw
