/- A tree-valued reading of memory: cells as trees, rows of elements that somebody owns, and what stays of a reading when memory turns. No program in it. -/
import Derived.Calls
import Derived.RowKit3
import Derived.Laws.AppendOwn
set_option linter.unusedSimpArgs false
set_option linter.unusedVariables false
namespace Go.Tw

/-- What a cell holds, as a tree: a slice as its elements, each a list of cells. -/
inductive T where
  | int (k : IntKind) (n : Int)
  | bool (b : Bool)
  | str (s : ByteArray)
  | sl (z : Nat) (es : List (List T))
  | hole

abbrev Els := List (List T)
abbrev Blks := Nat → Prop

/-- The cells in which a row of elements lies, at an address. -/
structure Lies (w : World) (o : Bool) (a : Addr) (cap z : Nat) (es : Els) (cs : Array Value) : Prop where
  blk : ∃ e fr, w.heap[a.block]? = some (.cells cs e fr) ∧ (o = true → fr = (0, 0))
  spot : a.spot = none
  len : es.length ≤ cap
  room : a.off + cap * z ≤ cs.size
  each : ∀ x ∈ es, x.length = z

/-- A value reads as a tree; 'o': its memory is owned, each block met once; F: the blocks that are met. -/
inductive Rep (w : World) : Bool → Value → T → Blks → Prop
  | int {o : Bool} {k : IntKind} {n : Int} {F : Blks} : Rep w o (.int k n) (.int k n) F
  | bool {o : Bool} {b : Bool} {F : Blks} : Rep w o (.bool b) (.bool b) F
  | str {o : Bool} {s : ByteArray} {F : Blks} : Rep w o (.string s) (.str s) F
  | hole {o : Bool} {v : Value} {F : Blks} (h : v.oneCell' = true) : Rep w o v .hole F
  | nils {o : Bool} {z : Nat} {F : Blks} : Rep w o (.slice none 0 0) (.sl z []) F
  | bare {o : Bool} {a : Addr} {z : Nat} {F : Blks} : Rep w o (.slice (some a) 0 0) (.sl z []) F
  | sl {o : Bool} {a : Addr} {cap z : Nat} {es : Els} {F : Blks} {cs : Array Value} (f : Nat → Nat → Blks)
      (hl : Lies w o a cap z es cs) (hF : F a.block) (hsub : ∀ i j b, f i j b → F b)
      (hd : o = true → ∀ i j, ¬ f i j a.block) (hdd : o = true → ∀ i j i' j' b, f i j b → f i' j' b → i = i' ∧ j = j')
      (hr : ∀ i j x c, es[i]? = some x → x[j]? = some c → Rep w o (cs.getD (a.off + i * z + j) undef) c (f i j)) :
      Rep w o (.slice (some a) es.length cap) (.sl z es) F

theorem Rep.mono {w : World} {o : Bool} {v : Value} {t : T} {F : Blks} (h : Rep w o v t F) : ∀ {G : Blks}, (∀ b, F b → G b) → Rep w o v t G := by
  cases h with
  | int => intro G _; exact .int
  | bool => intro G _; exact .bool
  | str => intro G _; exact .str
  | hole h => intro G _; exact .hole h
  | nils => intro G _; exact .nils
  | bare => intro G _; exact .bare
  | sl f hl hF hsub hd hdd hr => intro G hG; exact .sl f hl (hG _ hF) (fun i j b h => hG _ (hsub i j b h)) hd hdd hr

theorem Lies.frame {w w' : World} {o : Bool} {a : Addr} {cap z : Nat} {es : Els} {cs : Array Value} (h : Lies w o a cap z es cs) (hw : w'.heap[a.block]? = w.heap[a.block]?) : Lies w' o a cap z es cs :=
  ⟨by rw [hw]; exact h.blk, h.spot, h.len, h.room, h.each⟩

/-- What is read stays read where none of its blocks turns. -/
theorem Rep.frame {w w' : World} {o : Bool} {v : Value} {t : T} {F : Blks} (h : Rep w o v t F) (hw : ∀ b, F b → w'.heap[b]? = w.heap[b]?) : Rep w' o v t F := by
  induction h with
  | int => exact .int
  | bool => exact .bool
  | str => exact .str
  | hole h => exact .hole h
  | nils => exact .nils
  | bare => exact .bare
  | sl f hl hF hsub hd hdd hr ih => exact .sl f (hl.frame (hw _ hF)) hF hsub hd hdd (fun i j x c hx hc => ih i j x c hx hc fun b hb => hw b (hsub i j b hb))

/-- Who owns may read. -/
theorem Rep.lent {w : World} {o : Bool} {v : Value} {t : T} {F : Blks} (h : Rep w o v t F) : Rep w false v t F := by
  induction h with
  | int => exact .int
  | bool => exact .bool
  | str => exact .str
  | hole h => exact .hole h
  | nils => exact .nils
  | bare => exact .bare
  | sl f hl hF hsub hd hdd hr ih =>
    exact .sl f ⟨let ⟨e, fr, h, _⟩ := hl.blk; ⟨e, fr, h, fun h => by cases h⟩, hl.spot, hl.len, hl.room, hl.each⟩ hF hsub (fun h => by cases h) (fun h => by cases h) ih

/-- What is read is one cell. -/
theorem Rep.one {w : World} {o : Bool} {v : Value} {t : T} {F : Blks} (h : Rep w o v t F) : v.oneCell' = true := by
  cases h with
  | hole h => exact h
  | _ => rfl

theorem Rep.lt {w : World} {o : Bool} {v : Value} {t : T} {F : Blks} (h : Rep w o v t F) : ∃ G : Blks, Rep w o v t G ∧ (∀ b, G b → F b) ∧ ∀ b, G b → b < w.heap.size := by
  induction h with
  | int => exact ⟨fun _ => False, .int, fun _ h => h.elim, fun _ h => h.elim⟩
  | bool => exact ⟨fun _ => False, .bool, fun _ h => h.elim, fun _ h => h.elim⟩
  | str => exact ⟨fun _ => False, .str, fun _ h => h.elim, fun _ h => h.elim⟩
  | hole h => exact ⟨fun _ => False, .hole h, fun _ h => h.elim, fun _ h => h.elim⟩
  | nils => exact ⟨fun _ => False, .nils, fun _ h => h.elim, fun _ h => h.elim⟩
  | bare => exact ⟨fun _ => False, .bare, fun _ h => h.elim, fun _ h => h.elim⟩
  | @sl a cap z es F cs f hl hF hsub hd hdd hr ih =>
    refine ⟨fun b => F b ∧ b < w.heap.size, .sl (fun i j b => f i j b ∧ b < w.heap.size) hl ⟨hF, ?_⟩ (fun i j b h => ⟨hsub i j b h.1, h.2⟩) (fun ho i j h => hd ho i j h.1) (fun ho i j i' j' b h h' => hdd ho i j i' j' b h.1 h'.1) ?_, fun b h => h.1, fun b h => h.2⟩
    · obtain ⟨e, fr, h, _⟩ := hl.blk
      exact (Array.getElem?_eq_some_iff.1 h).1
    · intro i j x c hx hc
      obtain ⟨G, hG, hs, hlt⟩ := ih i j x c hx hc
      exact hG.mono fun b hb => ⟨hs b hb, hlt b hb⟩


/-! ### Places inside a tree -/

abbrev Path := List (Nat × Nat)

/-- The tree at a place: element, cell, element, cell, .. -/
def T.at? : T → Path → Option T
  | t, [] => some t
  | .sl _ es, (i, j) :: p => match es[i]? with
    | some x => match x[j]? with
      | some c => c.at? p
      | none => none
    | none => none
  | _, _ :: _ => none

/-- The tree with another one at a place. -/
def T.put : T → Path → T → T
  | _, [], s => s
  | .sl z es, (i, j) :: p, s => match es[i]? with
    | some x => match x[j]? with
      | some c => .sl z (es.set i (x.set j (c.put p s)))
      | none => .sl z es
    | none => .sl z es
  | t, _ :: _, _ => t

/-- The value that lies at a place. -/
def valAt (w : World) : Value → T → Path → Option Value
  | v, _, [] => some v
  | .slice (some a) _ _, .sl z es, (i, j) :: p => match es[i]? with
    | some x => match x[j]? with
      | some c => match w.cell? (a.add (i * z + j)) with
        | some u => valAt w u c p
        | none => none
      | none => none
    | none => none
  | _, _, _ :: _ => none

theorem Addr.add_plain {a : Addr} (h : a.spot = none) (n : Nat) : a.add n = ⟨a.block, a.off + n, none⟩ := by
  unfold Addr.add
  split
  · rename_i hn; subst hn; cases a; simp_all
  · rfl

theorem cell_plain {w : World} {a : Addr} {cs : Array Value} (hs : a.spot = none) (hb : ∃ e fr, w.heap[a.block]? = some (.cells cs e fr) ∧ True) (n : Nat) (hn : a.off + n < cs.size) : w.cell? (a.add n) = some (cs.getD (a.off + n) undef) := by
  obtain ⟨e, fr, hb, _⟩ := hb
  rw [Addr.add_plain hs]
  simp [World.cell?, hb, Array.getElem?_eq_getElem hn, Array.getD_eq_getD_getElem?]

theorem idx_lt {i j z n cap : Nat} (hi : i < n) (hn : n ≤ cap) (hj : j < z) : i * z + j < cap * z := by
  have h1 : i * z + j < (i + 1) * z := by rw [Nat.add_mul, Nat.one_mul]; omega
  exact Nat.lt_of_lt_of_le h1 (Nat.mul_le_mul_right z (by omega))

theorem Lies.idx {w : World} {o : Bool} {a : Addr} {cap z : Nat} {es : Els} {cs : Array Value} (h : Lies w o a cap z es cs) {i j : Nat} {x : List T} {c : T} (hx : es[i]? = some x) (hc : x[j]? = some c) :
    i < es.length ∧ j < z ∧ a.off + (i * z + j) < cs.size := by
  have hi : i < es.length := (List.getElem?_eq_some_iff.1 hx).1
  have hz : x.length = z := h.each x (List.mem_of_getElem? hx)
  have hj : j < z := hz ▸ (List.getElem?_eq_some_iff.1 hc).1
  have := idx_lt hi h.len hj
  have := h.room
  exact ⟨hi, hj, by omega⟩

theorem Lies.cell {w : World} {o : Bool} {a : Addr} {cap z : Nat} {es : Els} {cs : Array Value} (h : Lies w o a cap z es cs) {i j : Nat} {x : List T} {c : T} (hx : es[i]? = some x) (hc : x[j]? = some c) :
    w.cell? (a.add (i * z + j)) = some (cs.getD (a.off + i * z + j) undef) := by
  obtain ⟨e, fr, hb, _⟩ := h.blk
  rw [cell_plain h.spot ⟨e, fr, hb, trivial⟩ _ (h.idx hx hc).2.2, Nat.add_assoc]

/-- A place of what is read is read; only reading. -/
theorem Rep.focus_ro {w : World} : ∀ {p : Path} {v : Value} {t s : T} {F : Blks} {o : Bool}, Rep w o v t F → t.at? p = some s → ∃ u, valAt w v t p = some u ∧ Rep w o u s F
  | [], v, t, s, F, o, h, ht => by
    simp only [T.at?, Option.some.injEq] at ht
    subst ht
    exact ⟨v, by simp [valAt], h⟩
  | (i, j) :: p, v, t, s, F, o, h, ht => by
    cases h with
    | sl f hl hF hsub hd hdd hr =>
      simp only [T.at?] at ht
      split at ht
      · rename_i x hx
        split at ht
        · rename_i c hc
          obtain ⟨u, hu, hru⟩ := Rep.focus_ro (hr i j x c hx hc) ht
          refine ⟨u, ?_, hru.mono fun b hb => hsub i j b hb⟩
          simp only [valAt, hx, hc, hl.cell hx hc]
          exact hu
        · cases ht
      · cases ht
    | nils => simp [T.at?] at ht
    | bare => simp [T.at?] at ht
    | _ => simp [T.at?] at ht

theorem valAt_frame {w w' : World} : ∀ {q : Path} {o : Bool} {v : Value} {t s : T} {F : Blks}, Rep w o v t F → (∀ b, F b → w'.heap[b]? = w.heap[b]?) → t.at? q = some s → valAt w' v t q = valAt w v t q
  | [], _, _, _, _, _, _, _, _ => by simp [valAt]
  | (i, j) :: q, o, v, t, s, F, h, hw, ht => by
    cases h with
    | sl f hl hF hsub hd hdd hr =>
      simp only [T.at?] at ht
      split at ht
      · rename_i x hx
        split at ht
        · rename_i c hc
          simp only [valAt, hx, hc, hl.cell hx hc, (hl.frame (hw _ hF)).cell hx hc]
          exact valAt_frame (hr i j x c hx hc) (fun b hb => hw b (hsub i j b hb)) ht
        · cases ht
      · cases ht
    | nils => simp [T.at?] at ht
    | bare => simp [T.at?] at ht
    | _ => simp [T.at?] at ht

/-- q leads through what lies at p: by the cells' numbers alone. -/
def thru : Path → Path → Bool
  | [], [] => false
  | [], _ :: _ => true
  | _ :: _, [] => false
  | (_, j) :: p, (_, j') :: q => j == j' && thru p q

theorem Rep.head {w : World} {o : Bool} {u : Value} {z : Nat} {es : Els} {F : Blks} (h : Rep w o u (.sl z es) F) : ∃ oa cap, u = .slice oa es.length cap := by
  cases h
  case nils => exact ⟨_, _, rfl⟩
  case bare => exact ⟨_, _, rfl⟩
  case sl => exact ⟨_, _, rfl⟩

theorem Rep.sl_len {w w' : World} {o o' : Bool} {u : Value} {z z' : Nat} {es es' : Els} {F G : Blks} (h : Rep w o u (.sl z es) F) (h' : Rep w' o' u (.sl z' es') G) : es'.length = es.length := by
  obtain ⟨oa, cap, e⟩ := h.head
  obtain ⟨oa', cap', e'⟩ := h'.head
  rw [e] at e'
  injection e' with _ e2
  exact e2.symm

/-- A place of what is owned: what else lies there may take its place. -/
theorem Rep.focus {w : World} : ∀ {p : Path} {v : Value} {t s : T} {F : Blks}, Rep w true v t F → t.at? p = some s →
    ∃ u G, valAt w v t p = some u ∧ Rep w true u s G ∧ (∀ b, G b → F b) ∧
      ∀ (w' : World) (s' : T) (H : Blks), (∀ b, F b → ¬ G b → w'.heap[b]? = w.heap[b]?) → Rep w' true u s' H → (∀ b, H b → G b ∨ ¬ F b) →
        Rep w' true v (t.put p s') (fun b => (F b ∧ ¬ G b) ∨ H b) ∧ valAt w' v (t.put p s') p = some u ∧
          ∀ (q : Path), thru p q = false → (∃ z e e', s = .sl z e ∧ s' = .sl z e') → ∀ zq eq, t.at? q = some (.sl zq eq) →
            ∃ eq', (t.put p s').at? q = some (.sl zq eq') ∧ eq'.length = eq.length ∧ valAt w' v (t.put p s') q = valAt w v t q
  | [], v, t, s, F, h, ht => by
    simp only [T.at?, Option.some.injEq] at ht
    subst ht
    refine ⟨v, F, by simp [valAt], h, fun b h => h, fun w' s' H hw hr hh => ⟨?_, by simp [valAt], ?_⟩⟩
    · simp only [T.put]
      exact hr.mono fun b hb => Or.inr hb
    · intro q hq hs zq eq hat
      cases q with
      | nil =>
        obtain ⟨z, e, e', rfl, rfl⟩ := hs
        simp only [T.at?, Option.some.injEq, T.sl.injEq] at hat
        obtain ⟨rfl, rfl⟩ := hat
        exact ⟨e', rfl, h.sl_len hr, by simp [valAt]⟩
      | cons c q => simp [thru] at hq
  | (i, j) :: p, v, t, s, F, h, ht => by
    cases h with
    | @sl a cap z es F cs f hl hF hsub hd hdd hr =>
      simp only [T.at?] at ht
      split at ht
      · rename_i x hx
        split at ht
        · rename_i c hc
          obtain ⟨u, G, hu, hru, hsG, hput⟩ := Rep.focus (hr i j x c hx hc) ht
          refine ⟨u, G, ?_, hru, fun b hb => hsub i j b (hsG b hb), ?_⟩
          · simp only [valAt, hx, hc, hl.cell hx hc]
            exact hu
          · intro w' s' H hw hrs hH
            have hblk : w'.heap[a.block]? = w.heap[a.block]? := hw _ hF fun hG => hd rfl i j (hsG _ hG)
            have hl' := hl.frame hblk
            have hH' : ∀ b, H b → G b ∨ ¬ f i j b := fun b hb => (hH b hb).imp id fun hn hf => hn (hsub i j b hf)
            obtain ⟨hr1, hv1, hk1⟩ := hput w' s' H (fun b hf hg => hw b (hsub i j b hf) hg) hrs hH'
            have hil : i < es.length := (hl.idx hx hc).1
            have hjl : j < x.length := (List.getElem?_eq_some_iff.1 hc).1
            have hlset : Lies w' true a cap z (es.set i (x.set j (c.put p s'))) cs :=
              ⟨hl'.blk, hl'.spot, by simpa using hl'.len, hl'.room, fun y hy => by
                rcases List.mem_or_eq_of_mem_set hy with hy | rfl
                · exact hl'.each y hy
                · simpa using hl'.each x (List.mem_of_getElem? hx)⟩
            refine ⟨?_, ?_, ?_⟩
            · simp only [T.put, hx, hc]
              have hlen : (es.set i (x.set j (c.put p s'))).length = es.length := by simp
              rw [← hlen]
              refine .sl (fun i' j' b => if i' = i ∧ j' = j then ((f i j b ∧ ¬ G b) ∨ H b) else f i' j' b) hlset (Or.inl ⟨hF, fun hG => hd rfl i j (hsG _ hG)⟩) ?_ ?_ ?_ ?_
              · intro i' j' b hb
                split at hb
                · exact hb.imp (fun ⟨h1, h2⟩ => ⟨hsub i j b h1, h2⟩) id
                · rename_i hne
                  exact Or.inl ⟨hsub i' j' b hb, fun hG => hne (hdd rfl i' j' i j b hb (hsG b hG))⟩
              · intro _ i' j' hb
                split at hb
                · rcases hb with hb | hb
                  · exact hd rfl i j hb.1
                  · rcases hH _ hb with hg | hg
                    · exact hd rfl i j (hsG _ hg)
                    · exact hg hF
                · exact hd rfl i' j' hb
              · intro _ i1 j1 i2 j2 b h1 h2
                split at h1 <;> split at h2
                · rename_i e1 e2; exact ⟨e1.1.trans e2.1.symm, e1.2.trans e2.2.symm⟩
                · rename_i e1 e2
                  exfalso
                  rcases h1 with h1 | h1
                  · exact e2 (hdd rfl i2 j2 i j b h2 h1.1)
                  · rcases hH _ h1 with hg | hg
                    · exact e2 (hdd rfl i2 j2 i j b h2 (hsG _ hg))
                    · exact hg (hsub i2 j2 b h2)
                · rename_i e1 e2
                  exfalso
                  rcases h2 with h2 | h2
                  · exact e1 (hdd rfl i1 j1 i j b h1 h2.1)
                  · rcases hH _ h2 with hg | hg
                    · exact e1 (hdd rfl i1 j1 i j b h1 (hsG _ hg))
                    · exact hg (hsub i1 j1 b h1)
                · exact hdd rfl i1 j1 i2 j2 b h1 h2
              · intro i' j' y d hy hyd
                by_cases hi' : i' = i
                · subst hi'
                  rw [List.getElem?_set_self hil] at hy
                  cases hy
                  by_cases hj' : j' = j
                  · subst hj'
                    rw [List.getElem?_set_self hjl] at hyd
                    cases hyd
                    simpa using hr1
                  · rw [List.getElem?_set_ne (Ne.symm hj')] at hyd
                    have := (hr i' j' x d hx hyd).frame (w' := w') fun b hb => hw b (hsub _ _ b hb) fun hG => hj' (hdd rfl _ _ _ _ b hb (hsG b hG)).2
                    simpa [hj'] using this
                · rw [List.getElem?_set_ne (Ne.symm hi')] at hy
                  have := (hr i' j' y d hy hyd).frame (w' := w') fun b hb => hw b (hsub _ _ b hb) fun hG => hi' (hdd rfl _ _ _ _ b hb (hsG b hG)).1
                  simpa [hi'] using this
            · simp only [T.put, hx, hc, valAt]
              rw [List.getElem?_set_self hil]
              simp only []
              rw [List.getElem?_set_self hjl]
              simp only []
              rw [hl'.cell hx hc]
              exact hv1
            · intro q hq hs zq eq hat
              cases q with
              | nil =>
                simp only [T.at?, Option.some.injEq, T.sl.injEq] at hat
                obtain ⟨rfl, rfl⟩ := hat
                refine ⟨es.set i (x.set j (c.put p s')), by simp only [T.put, hx, hc, T.at?], by simp, by simp only [valAt]⟩
              | cons ij q =>
                obtain ⟨i', j'⟩ := ij
                simp only [T.at?] at hat
                split at hat
                · rename_i y hy
                  split at hat
                  · rename_i d hyd
                    simp only [T.put, hx, hc, T.at?]
                    by_cases hij : i' = i ∧ j' = j
                    · obtain ⟨rfl, rfl⟩ := hij
                      rw [hx] at hy
                      cases hy
                      rw [hc] at hyd
                      cases hyd
                      simp only [thru, beq_self_eq_true, Bool.true_and] at hq
                      obtain ⟨eq', h1, h2, h3⟩ := hk1 q hq hs zq eq hat
                      refine ⟨eq', ?_, h2, ?_⟩
                      · rw [List.getElem?_set_self hil]
                        simp only []
                        rw [List.getElem?_set_self hjl]
                        simpa using h1
                      · simp only [valAt]
                        rw [List.getElem?_set_self hil]
                        simp only []
                        rw [List.getElem?_set_self hjl]
                        simp only [hx, hc]
                        rw [hl'.cell hx hc, hl.cell hx hc]
                        exact h3
                    · have hsame : ((es.set i (x.set j (c.put p s')))[i']?.bind fun y => y[j']?) = some d := by
                        by_cases hi' : i' = i
                        · subst hi'
                          have hj' : ¬ j' = j := fun h => hij ⟨rfl, h⟩
                          rw [hx] at hy
                          cases hy
                          rw [List.getElem?_set_self hil]
                          simp only [Option.bind_some]
                          rw [List.getElem?_set_ne (Ne.symm hj')]
                          exact hyd
                        · rw [List.getElem?_set_ne (Ne.symm hi'), hy]
                          simpa using hyd
                      have hfr := valAt_frame (w' := w') (hr i' j' y d hy hyd) (fun b hb => hw b (hsub _ _ b hb) fun hG => hij (hdd rfl _ _ _ _ b hb (hsG b hG))) hat
                      obtain ⟨y', hy', hyd'⟩ := Option.bind_eq_some_iff.1 hsame
                      refine ⟨eq, ?_, rfl, ?_⟩
                      · simp only [hy', hyd']
                        exact hat
                      · simp only [valAt, hy', hyd', hy, hyd]
                        rw [hl'.cell hy hyd, hl.cell hy hyd]
                        exact hfr
                  · cases hat
                · cases hat
        · cases ht
      · cases ht
    | nils => simp [T.at?] at ht
    | bare => simp [T.at?] at ht
    | _ => simp [T.at?] at ht


end Go.Tw
