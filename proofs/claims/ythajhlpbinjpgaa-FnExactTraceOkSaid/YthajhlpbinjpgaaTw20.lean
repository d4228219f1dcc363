/- New boxes, literals, make. -/
import Derived.Test.YthajhlpbinjpgaaTw19
set_option linter.unusedSimpArgs false
set_option linter.unusedVariables false
namespace Go.Tw

/-- The leaves of a literal's elements, which stand in order. -/
def partsL (σ : St) (k : Nat) : List (Nat × Operand) → Option (Prop × List (List L))
  | [] => some (True, [])
  | (i, x) :: r => match evO σ x with
    | some (c, v) => match v.cells, partsL σ (k + 1) r with
      | some ls, some (c', lss) => some (c = true ∧ i = k ∧ c', ls :: lss)
      | _, _ => none
    | none => none

def takeLss (σ : St) (zs : List Nat) : List (List L) → Option (Prop × Els × List Nat)
  | [] => some (True, [], [])
  | ls :: r => match takeLs σ zs ls, takeLss σ zs r with
    | some (c, ts, rs), some (c', es, rs') => if rs.all fun r => !rs'.contains r then some (c ∧ c', ts :: es, rs ++ rs') else none
    | _, _ => none

def shareLss (σ : St) (zs : List Nat) : List (List L) → Option (Prop × Els × List Nat)
  | [] => some (True, [], [])
  | ls :: r => match shareLs σ zs ls, shareLss σ zs r with
    | some (c, ts, rs), some (c', es, rs') => some (c ∧ c', ts :: es, rs ++ rs')
    | _, _ => none

section
variable {P : Program} {w0 w w' : World} {Al : Blks} {N : Nat} {g : Gh} {σ : St} {a : Act}

/-- The elements' cells, one behind the other. -/
inductive Rows (w : World) (g : Gh) (σ : St) : List (List L) → List Value → List Value → Prop
  | nil : Rows w g σ [] [] []
  | cons {ls : List L} {lss : List (List L)} {v : Value} {vs vals : List Value} (h : RepLs w g σ ls v.cells.toList) (t : Rows w g σ lss vs vals) : Rows w g σ (ls :: lss) (v :: vs) (v.cells.toList ++ vals)

theorem partsL_rows (hs : Slots w g σ a) : ∀ (parts : List (Nat × Operand)) (k : Nat) (c : Prop) (lss : List (List L)), partsL σ k parts = some (c, lss) → c →
    (∃ vals, Rows w g σ lss (parts.map fun q => a.eval q.2) vals) ∧ ∀ (i : Nat) q, parts[i]? = some q → q.1 = k + i
  | [], k, c, lss, h, hc => by
    simp only [partsL, Option.some.injEq, Prod.mk.injEq] at h
    obtain ⟨_, rfl⟩ := h
    exact ⟨⟨[], .nil⟩, by simp⟩
  | (i, x) :: r, k, c, lss, h, hc => by
    simp only [partsL] at h
    split at h
    · rename_i c1 v hx
      split at h
      · rename_i ls c' lss' hv hr
        simp only [Option.some.injEq, Prod.mk.injEq] at h
        obtain ⟨rfl, rfl⟩ := h
        obtain ⟨⟨vals, h1⟩, h2⟩ := partsL_rows hs r (k + 1) c' lss' hr hc.2.2
        refine ⟨⟨_, .cons (RepV.cells (evO_rep hs hx hc.1) hv) h1⟩, fun j q hq => ?_⟩
        cases j with
        | zero => simp at hq; subst hq; exact hc.2.1
        | succ j => rw [h2 j q (by simpa using hq)]; omega
      · cases h
    · cases h

theorem takeLs_len {zs : List Nat} : ∀ {ls : List L} {c : Prop} {ts : List T} {rs : List Nat}, takeLs σ zs ls = some (c, ts, rs) → ts.length = zs.length ∧ ls.length = zs.length := by
  induction zs with
  | nil =>
    intro ls c ts rs h
    cases ls with
    | nil => simp only [takeLs, Option.some.injEq, Prod.mk.injEq] at h; obtain ⟨_, rfl, _⟩ := h; exact ⟨rfl, rfl⟩
    | cons => simp [takeLs] at h
  | cons z zs ih =>
    intro ls c ts rs h
    cases ls with
    | nil => simp [takeLs] at h
    | cons l ls =>
      simp only [takeLs] at h
      split at h
      · rename_i h1 h2
        split at h
        · simp only [Option.some.injEq, Prod.mk.injEq] at h
          obtain ⟨_, rfl, _⟩ := h
          have := ih h2
          simp [this.1, this.2]
        · cases h
      · cases h

theorem shareLs_len {zs : List Nat} : ∀ {ls : List L} {c : Prop} {ts : List T} {rs : List Nat}, shareLs σ zs ls = some (c, ts, rs) → ts.length = zs.length ∧ ls.length = zs.length := by
  induction zs with
  | nil =>
    intro ls c ts rs h
    cases ls with
    | nil => simp only [shareLs, Option.some.injEq, Prod.mk.injEq] at h; obtain ⟨_, rfl, _⟩ := h; exact ⟨rfl, rfl⟩
    | cons => simp [shareLs] at h
  | cons z zs ih =>
    intro ls c ts rs h
    cases ls with
    | nil => simp [shareLs] at h
    | cons l ls =>
      simp only [shareLs] at h
      split at h
      · rename_i h1 h2
        simp only [Option.some.injEq, Prod.mk.injEq] at h
        obtain ⟨_, rfl, _⟩ := h
        have := ih h2
        simp [this.1, this.2]
      · cases h

theorem takeLss_rep (m : Mem w g σ) {zs : List Nat} : ∀ {lss : List (List L)} {vs vals : List Value} {c : Prop} {es : Els} {rs : List Nat}, takeLss σ zs lss = some (c, es, rs) → c → Rows w g σ lss vs vals →
    es.length = lss.length ∧ ∃ f, CellsRep w true zs.length es vals f ∧ (∀ i j b, f i j b → RowsFp g σ rs b) ∧ ∀ i j i' j' b, f i j b → f i' j' b → i = i' ∧ j = j'
  | [], vs, vals, c, es, rs, h, hc, hr => by
    simp only [takeLss, Option.some.injEq, Prod.mk.injEq] at h
    obtain ⟨_, rfl, rfl⟩ := h
    cases hr
    exact ⟨rfl, fun _ _ _ => False, ⟨by simp, by simp, by simp⟩, fun _ _ _ h => h.elim, fun _ _ _ _ _ h => h.elim⟩
  | ls :: lss, vs, vals, c, es, rs, h, hc, hr => by
    simp only [takeLss] at h
    split at h
    · rename_i c1 ts rs1 c2 es2 rs2 h1 h2
      split at h
      · rename_i hd
        simp only [Option.some.injEq, Prod.mk.injEq] at h
        obtain ⟨rfl, rfl, rfl⟩ := h
        cases hr with
        | @cons _ _ v vs' vals' hv ht =>
          obtain ⟨tl, _, fn, r1, s1, d1⟩ := takeLs_rep m h1 hc.1 hv
          obtain ⟨el, f, r2, s2, d2⟩ := takeLss_rep m h2 hc.2 ht
          obtain ⟨l1, l2⟩ := takeLs_len h1
          have dis : ∀ r ∈ rs1, r ∉ rs2 := fun r hr => by have := List.all_eq_true.1 hd r hr; simpa using this
          have hone : CellsRep w true zs.length [ts] v.cells.toList fun _ j => fn j := by
            refine ⟨by rw [← hv.length, l2]; simp, by simp [l1], fun i j x c hx hc => ?_⟩
            cases i with
            | zero =>
              simp only [List.getElem?_cons_zero, Option.some.injEq] at hx
              subst hx
              have hj : j < v.cells.toList.length := by rw [← hv.length, l2, ← l1]; exact (List.getElem?_eq_some_iff.1 hc).1
              exact ⟨_, by rw [Nat.zero_mul, Nat.zero_add]; exact List.getElem?_eq_getElem hj, r1 j c _ hc (List.getElem?_eq_getElem hj)⟩
            | succ i => simp at hx
          refine ⟨by simp [el], fun i j => if i < 1 then fn j else f (i - 1) j, ?_, fun i j b hb => ?_, fun i j i' j' b hb hb' => ?_⟩
          · have := hone.append r2
            simpa using this
          · dsimp only at hb
            split at hb
            · obtain ⟨r, row, q1, q2⟩ := s1 j b hb; exact ⟨r, row, by simp [q1], q2⟩
            · obtain ⟨r, row, q1, q2⟩ := s2 _ j b hb; exact ⟨r, row, by simp [q1], q2⟩
          · dsimp only at hb hb'
            split at hb <;> split at hb'
            · exact ⟨by omega, d1 _ _ b hb hb'⟩
            · exact (RowsFp.dis m dis (s1 _ _ hb) (s2 _ _ _ hb')).elim
            · exact (RowsFp.dis m dis (s1 _ _ hb') (s2 _ _ _ hb)).elim
            · have := d2 _ _ _ _ b hb hb'; omega
      · cases h
    · cases h

theorem shareLss_rep (m : Mem w g σ) {zs : List Nat} : ∀ {lss : List (List L)} {vs vals : List Value} {c : Prop} {es : Els} {rs : List Nat}, shareLss σ zs lss = some (c, es, rs) → c → Rows w g σ lss vs vals →
    es.length = lss.length ∧ CellsRep w false zs.length es vals fun _ _ b => RowsFp g σ rs b ∨ ¬ Owned g σ b
  | [], vs, vals, c, es, rs, h, hc, hr => by
    simp only [shareLss, Option.some.injEq, Prod.mk.injEq] at h
    obtain ⟨_, rfl, rfl⟩ := h
    cases hr
    exact ⟨rfl, ⟨by simp, by simp, by simp⟩⟩
  | ls :: lss, vs, vals, c, es, rs, h, hc, hr => by
    simp only [shareLss] at h
    split at h
    · rename_i c1 ts rs1 c2 es2 rs2 h1 h2
      simp only [Option.some.injEq, Prod.mk.injEq] at h
      obtain ⟨rfl, rfl, rfl⟩ := h
      cases hr with
      | @cons _ _ v vs' vals' hv ht =>
        obtain ⟨tl, r1⟩ := shareLs_rep m h1 hc.1 hv
        obtain ⟨el, r2⟩ := shareLss_rep m h2 hc.2 ht
        obtain ⟨l1, l2⟩ := shareLs_len h1
        have hone : CellsRep w false zs.length [ts] v.cells.toList fun _ _ b => RowsFp g σ (rs1 ++ rs2) b ∨ ¬ Owned g σ b := by
          refine ⟨by rw [← hv.length, l2]; simp, by simp [l1], fun i j x c hx hc => ?_⟩
          cases i with
          | zero =>
            simp only [List.getElem?_cons_zero, Option.some.injEq] at hx
            subst hx
            have hj : j < v.cells.toList.length := by rw [← hv.length, l2, ← l1]; exact (List.getElem?_eq_some_iff.1 hc).1
            exact ⟨_, by rw [Nat.zero_mul, Nat.zero_add]; exact List.getElem?_eq_getElem hj, (r1 j c _ hc (List.getElem?_eq_getElem hj)).mono fun b hb => hb.imp (fun ⟨r, row, q1, q2⟩ => ⟨r, row, by simp [q1], q2⟩) id⟩
          | succ i => simp at hx
        refine ⟨by simp [el], ?_⟩
        have := hone.append (r2.mono (f' := fun _ _ b => RowsFp g σ (rs1 ++ rs2) b ∨ ¬ Owned g σ b) fun i j v c h => h.mono fun b hb => hb.imp (fun ⟨r, row, q1, q2⟩ => ⟨r, row, by simp [q1], q2⟩) id)
        exact this.mono fun i j v c h => by simpa using h
    · cases h

/-- A new row in a block of its own. -/
theorem fresh_own (R : Rel w0 Al N σ a w g) {z : Nat} {es : Els} {cs : Array Value} {e : TypeId} {rs : List Nat} {f : Nat → Nat → Blks} (hc : CellsRep w true z es cs.toList f) (s1 : ∀ i j b, f i j b → RowsFp g σ rs b)
    (d1 : ∀ i j i' j' b, f i j b → f i' j' b → i = i' ∧ j = j') {nm : Nat} (hnm : get σ.row nm = none) :
    ∃ g', Rel w0 Al N (σ.swap (hits rs) rs nm ⟨.own, z, es⟩) a { w with heap := w.heap.push (.cells cs e) } g' ∧
      RepV { w with heap := w.heap.push (.cells cs e) } g' (σ.swap (hits rs) rs nm ⟨.own, z, es⟩) (.l (.ref nm [] z 0 es.length)) (.slice (some ⟨w.heap.size, 0, none⟩) es.length es.length) := by
  have mem := R.mem
  have hold : ∀ b, b < w.heap.size → (w.heap.push (.cells cs e))[b]? = w.heap[b]? := fun b hb => by rw [Array.getElem?_push, if_neg (by omega)]
  let w' : World := { w with heap := w.heap.push (.cells cs e) }
  let F : Blks := fun b => b = w.heap.size ∨ ∃ i j, f i j b
  have hfl : ∀ i j b, f i j b → b < w.heap.size := fun i j b hb => RowsFp.lt mem (s1 i j b hb)
  have hlen : cs.size = es.length * z := by simpa using hc.len
  have hrep : Rep w' true (.slice (some ⟨w.heap.size, 0, none⟩) es.length es.length) (.sl z es) F :=
    (hc.mono (w' := w') (o' := true) (f' := f) fun i j v c h => h.frame fun b hb => hold b (hfl i j b hb)).close (cs := cs) (e := e) rfl (by simp [w']) (by simp [hlen]) (Nat.le_refl _) (by simp [← hlen, List.take_of_length_le]) (Or.inl rfl)
      (fun i j b hb => Or.inr ⟨i, j, hb⟩) (fun _ i j hb => by have := hfl i j _ hb; simp at this) fun _ => d1
  have hin := swap_in (w' := w') mem (kill := hits rs) (rs := rs) (k := nm) (row := ⟨.own, z, es⟩) (hv := .slice (some ⟨w.heap.size, 0, none⟩) es.length es.length) (F := F) (N := fun _ => False) (Or.inr hnm) (by simp) (fun _ => hrep) (fun h => by cases h)
    (fun b h => h.elim) (fun b hb => ?_) (fun b hb _ => hold b hb) (by simp [w']) (fun l hl r p hr hs hm => ?_)
  · exact ⟨_, R.turn hin ⟨rfl, rfl⟩ rfl rfl rfl, ⟨.own, z, es⟩, es, .slice (some ⟨w.heap.size, 0, none⟩) es.length es.length, by simp [St.swap, get], rfl, by simp only [valAt, Gh.row, upd_self], by simp, View.whole _ _ _ z _⟩
  · rcases hb with rfl | ⟨i, j, hb⟩
    · exact ⟨Or.inr (Nat.le_refl _), by simp [w']⟩
    · exact ⟨Or.inl (s1 i j b hb), by have := hfl i j b hb; simp [w']; omega⟩
  · unfold hits at hl
    rw [hr] at hl
    simp at hl
    exact absurd hm hl

theorem fresh_top (R : Rel w0 Al N σ a w g) {z : Nat} {es : Els} {cs : Array Value} {e : TypeId} (hc : CellsRep w false z es cs.toList fun _ _ b => ¬ Owned g σ b) {nm : Nat} (hnm : get σ.row nm = none) :
    ∃ g', Rel w0 Al N (σ.swap (fun _ => false) [] nm ⟨.top, z, es⟩) a { w with heap := w.heap.push (.cells cs e) } g' ∧
      RepV { w with heap := w.heap.push (.cells cs e) } g' (σ.swap (fun _ => false) [] nm ⟨.top, z, es⟩) (.l (.ref nm [] z 0 es.length)) (.slice (some ⟨w.heap.size, 0, none⟩) es.length es.length) := by
  have mem := R.mem
  have hold : ∀ b, b < w.heap.size → (w.heap.push (.cells cs e))[b]? = w.heap[b]? := fun b hb => by rw [Array.getElem?_push, if_neg (by omega)]
  let w' : World := { w with heap := w.heap.push (.cells cs e) }
  let F : Blks := fun b => b = w.heap.size
  let K : Blks := fun b => b < w.heap.size ∧ ¬ Owned g σ b
  have hlen : cs.size = es.length * z := by simpa using hc.len
  have hrep : RepTop w' (.slice (some ⟨w.heap.size, 0, none⟩) es.length es.length) z es F K :=
    (hc.mono (w' := w') (o' := false) (f' := fun _ _ => K) fun i j v c h => by
      obtain ⟨G, hG, hs, hlt⟩ := h.lt
      exact (hG.frame fun b hb => hold b (hlt b hb)).mono fun b hb => ⟨hlt b hb, hs b hb⟩).closeTop (cs := cs) (e := e) rfl (by simp [w']) (by simp [hlen]) (Nat.le_refl _) (by simp [← hlen, List.take_of_length_le]) rfl
  have hin := swap_in (w' := w') mem (kill := fun _ => false) (rs := []) (k := nm) (row := ⟨.top, z, es⟩) (hv := .slice (some ⟨w.heap.size, 0, none⟩) es.length es.length) (F := F) (N := K) (Or.inr hnm) (by simp) (fun h => by cases h) (fun _ => hrep)
    (fun b hb => ⟨hb.1, Or.inl hb.2, fun h => by have := hb.1; simp [F] at h; omega⟩) (fun b hb => ⟨Or.inr (Nat.le_of_eq hb.symm), by simp [w', F] at hb ⊢; omega⟩) (fun b hb _ => hold b hb) (by simp [w']) (fun l hl r p hr hs hm => by simp at hm)
  exact ⟨_, R.turn hin ⟨by simp [St.swap, killE_no], by simp [St.swap, killS_no, St.freeze]⟩ rfl rfl rfl, ⟨.top, z, es⟩, es, .slice (some ⟨w.heap.size, 0, none⟩) es.length es.length, by simp [St.swap, get], rfl, by simp only [valAt, Gh.row, upd_self], by simp, View.whole _ _ _ z _⟩

end

end Go.Tw
