/- Contracts of functions that read what they are given and answer with what is new. -/
import Derived.Test.YthajhlpbinjpgaaTw27
set_option linter.unusedSimpArgs false
set_option linter.unusedVariables false
namespace Go.Tw

/-- A value's trees: a struct's cells, or one cell. -/
abbrev A := Bool × List T

def ShapeV (x : A) (v : Value) : Prop := if x.1 then ∃ cs : List Value, v = .agg cs.toArray ∧ cs.length = x.2.length else x.2.length = 1 ∧ v.oneCell' = true

def Shapes : List A → List Value → Prop
  | [], [] => True
  | x :: xs, v :: vs => ShapeV x v ∧ Shapes xs vs
  | _, _ => False

def flatA (xs : List A) : List T := xs.flatMap (·.2)
def flatU (vs : List Value) : List Value := vs.flatMap fun v => v.cells.toList

def oneU : List Value → Value
  | [v] => v
  | vs => .tuple vs.toArray

/-- What it is given reads as args; what it answers reads as res, in memory that was not there; all that was there is as it was. -/
def PC (P : Program) (f : FuncId) (args res : List A) : Prop :=
  Ours P f ∧ ∀ w vs, Shapes args vs → (∀ (j : Nat) t v, (flatA args)[j]? = some t → (flatU vs)[j]? = some v → Rep w false v t fun _ => True) → Calls P f vs.toArray w fun
    | .returned r, w' => w.heap.size ≤ w'.heap.size ∧ (∀ b, b < w.heap.size → w'.heap[b]? = w.heap[b]?) ∧ w'.os = w.os ∧ w'.tape = w.tape ∧ w'.output = w.output ∧
        ∃ us, r = oneU us ∧ Shapes res us ∧ ∃ F : Nat → Blks, (∀ (j : Nat) t v, (flatA res)[j]? = some t → (flatU us)[j]? = some v → Rep w' true v t (F j)) ∧ (∀ j b, F j b → w.heap.size ≤ b) ∧ ∀ j j' b, F j b → F j' b → j = j'
    | _, _ => False

def leafN (k : Nat) : T → L
  | .sl z es => .ref k [] z 0 es.length
  | .hole => .undef
  | .int i n => .t (.int i n)
  | .bool b => .t (.bool b)
  | .str s => .t (.str s)

def leavesN : Nat → List T → List L
  | _, [] => []
  | k, t :: ts => leafN k t :: leavesN (k + 1) ts

def rowsN (pm : Pm) : Nat → List T → List (Nat × Row)
  | _, [] => []
  | k, .sl z es :: ts => (k, ⟨pm, z, es⟩) :: rowsN pm (k + 1) ts
  | k, _ :: ts => rowsN pm (k + 1) ts

def valsN : Nat → List A → List V
  | _, [] => []
  | k, (true, ts) :: r => .agg (leavesN k ts) :: valsN (k + ts.length) r
  | k, (false, ts) :: r => (match ts with
    | [t] => .l (leafN k t)
    | _ => .l .undef) :: valsN (k + ts.length) r

/-- A leaf speaks of a tree. -/
def denL (σ : St) : L → T → Prop
  | .t x, t => x = t
  | .nil, .sl _ es => es = []
  | .ref r p z off len, .sl z' es' => match nodeOf σ r p with
    | some (_, es) => z = z' ∧ es' = (es.drop off).take len
    | none => False
  | .undef, .hole => True
  | _, _ => False

def denLs (σ : St) : List L → List T → Prop
  | [], [] => True
  | l :: ls, t :: ts => denL σ l t ∧ denLs σ ls ts
  | _, _ => False

def denVs (σ : St) : List V → List A → Prop
  | [], [] => True
  | .l x :: vs, (false, ts) :: r => denLs σ [x] ts ∧ denVs σ vs r
  | .agg xs :: vs, (true, ts) :: r => denLs σ xs ts ∧ denVs σ vs r
  | _, _ => False

def zOf : T → Nat
  | .sl z _ => z
  | _ => 0

def shapeV (x : A) : V → Prop
  | .l _ => x.1 = false ∧ x.2.length = 1
  | .agg xs => x.1 = true ∧ x.2.length = xs.length
  | .tup _ => False

def shapeVs : List A → List V → Prop
  | [], [] => True
  | x :: xs, v :: vs => shapeV x v ∧ shapeVs xs vs
  | _, _ => False

/-- What a function that answers with what is new must end with. -/
def OutN (P : Program) (rs : List ResultVar) (res : List A) : Exit → St → Prop
  | .normal, σ | .ret, σ => match resV P σ rs with
    | some (c, vs) => c ∧ shapeVs res vs ∧ match takeLs σ ((flatA res).map zOf) (vs.flatMap V.leaves) with
      | some (c', ts, _) => c' ∧ ts = flatA res
      | none => False
    | none => False
  | _, _ => False

section
variable {P : Program} {w0 w w' : World} {Al : Blks} {N : Nat} {g : Gh} {σ σ' : St} {a : Act}

theorem get_rowsN (pm : Pm) : ∀ (ts : List T) (k n : Nat), get (rowsN pm k ts) n = if k ≤ n then (match ts[n - k]? with
    | some (.sl z es) => some ⟨pm, z, es⟩
    | _ => none) else none
  | [], k, n => by simp [rowsN, get]
  | t :: ts, k, n => by
    have ih := get_rowsN pm ts (k + 1) n
    by_cases e : n = k
    · subst e
      have h2 : ¬ n + 1 ≤ n := by omega
      simp only [h2, if_false] at ih
      cases t <;> simp [rowsN, get, ih]
    · have : get (rowsN pm k (t :: ts)) n = get (rowsN pm (k + 1) ts) n := by
        cases t <;> simp [rowsN, get, e]
      rw [this, ih]
      by_cases h1 : k ≤ n
      · have h2 : k + 1 ≤ n := by omega
        have h3 : n - k = (n - (k + 1)) + 1 := by omega
        simp [h1, h2, h3]
      · have h2 : ¬ k + 1 ≤ n := by omega
        simp [h1, h2]

theorem leavesN_get : ∀ (ts : List T) (k j : Nat), (leavesN k ts)[j]? = (ts[j]?).map (leafN (k + j))
  | [], _, _ => by simp [leavesN]
  | t :: ts, k, 0 => by simp [leavesN]
  | t :: ts, k, j + 1 => by
    simp only [leavesN, List.getElem?_cons_succ]
    rw [leavesN_get ts (k + 1) j]
    have : k + 1 + j = k + (j + 1) := by omega
    rw [this]

theorem leavesN_length : ∀ (ts : List T) (k : Nat), (leavesN k ts).length = ts.length
  | [], _ => rfl
  | t :: ts, k => by simp [leavesN, leavesN_length ts]

/-- A leaf that stands for a tree whose value it is. -/
theorem leafN_rep {o : Bool} {t : T} {v : Value} {F : Blks} {k : Nat} (h : Rep w o v t F) (hrow : ∀ z es, t = .sl z es → ∃ row, get σ.row k = some row ∧ row.z = z ∧ row.es = es ∧ g.rw k = v) : RepL w g σ (leafN k t) v := by
  cases t with
  | int i n => cases h; exact .int
  | bool b => cases h; exact .bool
  | str s => cases h; exact .str
  | hole => exact h.one
  | sl z es =>
    obtain ⟨⟨pm, z', es'⟩, h1, h2, h3, h4⟩ := hrow z es rfl
    simp only at h2 h3
    subst h2 h3
    refine ⟨_, es', v, h1, rfl, by simp [valAt, h4], by simp, ?_⟩
    cases h with
    | nils => exact View.whole _ _ _ _ _
    | bare => exact View.whole _ _ _ _ _
    | sl => exact View.whole _ _ _ _ _

theorem Shapes.length : ∀ {xs : List A} {vs : List Value}, Shapes xs vs → xs.length = vs.length
  | [], [], _ => rfl
  | _ :: _, _ :: _, h => by simp [h.2.length]
  | [], _ :: _, h => h.elim
  | _ :: _, [], h => h.elim

theorem ShapeV.cells {x : A} {v : Value} (h : ShapeV x v) : v.cells.toList.length = x.2.length := by
  unfold ShapeV at h
  split at h
  · obtain ⟨cs, rfl, hl⟩ := h
    simpa [Value.cells] using hl
  · rw [h.1, cells_one h.2]; rfl

/-- Values of trees, as a state's values. -/
theorem valsN_rep : ∀ {xs : List A} {vs : List Value} {k : Nat}, Shapes xs vs → (∀ (j : Nat) t v, (flatA xs)[j]? = some t → (flatU vs)[j]? = some v → RepL w g σ (leafN (k + j) t) v) → RepVs w g σ (valsN k xs) vs
  | [], [], _, _, _ => trivial
  | (b, ts) :: xs, v :: vs, k, hs, h => by
    have hc : v.cells.toList.length = ts.length := hs.1.cells
    have hls : RepLs w g σ (leavesN k ts) v.cells.toList := by
      refine .of_nth (by rw [leavesN_length, hc]) fun j l u hl hu => ?_
      rw [leavesN_get] at hl
      simp only [Option.map_eq_some_iff] at hl
      obtain ⟨t, ht, rfl⟩ := hl
      have hj : j < ts.length := (List.getElem?_eq_some_iff.1 ht).1
      refine h j t u ?_ ?_
      · simp only [flatA, List.flatMap_cons]
        rw [List.getElem?_append_left hj]; exact ht
      · simp only [flatU, List.flatMap_cons]
        rw [List.getElem?_append_left (by omega)]; exact hu
    have hrest : RepVs w g σ (valsN (k + ts.length) xs) vs := by
      refine valsN_rep hs.2 fun j t u ht hu => ?_
      have := h (ts.length + j) t u ?_ ?_
      · rwa [← Nat.add_assoc] at this
      · simp only [flatA, List.flatMap_cons]
        rw [List.getElem?_append_right (by simp), Nat.add_sub_cancel_left]
        exact ht
      · simp only [flatU, List.flatMap_cons]
        rw [List.getElem?_append_right (by omega), hc, Nat.add_sub_cancel_left]
        exact hu
    cases b with
    | true =>
      simp only [valsN]
      obtain ⟨cs, rfl, _⟩ := (by simpa [ShapeV] using hs.1 : ∃ cs : List Value, v = .agg cs.toArray ∧ cs.length = ts.length)
      exact ⟨⟨cs, rfl, by simpa [Value.cells] using hls⟩, hrest⟩
    | false =>
      obtain ⟨h1, h2⟩ := (by simpa [ShapeV] using hs.1 : ts.length = 1 ∧ v.oneCell' = true)
      match ts, h1 with
      | [t], _ =>
        simp only [valsN]
        rw [cells_one h2] at hls
        exact ⟨hls.1, hrest⟩
  | [], _ :: _, _, h, _ => h.elim
  | _ :: _, [], _, h, _ => h.elim

theorem denL_rep (m : Mem w g σ) {l : L} {t : T} {v : Value} (h : RepL w g σ l v) (hd : denL σ l t) : Rep w false v t fun _ => True := by
  unfold denL at hd
  split at hd
  · subst hd; exact (show Rep w false v _ _ from h).toTrue
  · subst hd; obtain ⟨oa, rfl⟩ := h
    cases oa with
    | none => exact .nils
    | some a => exact .bare
  · rename_i r p z off len z' es'
    obtain ⟨row, es0, u, e1, e2, e3, e4, e5⟩ := h
    have hn : nodeOf σ r p = some (z, es0) := by simp [nodeOf, e1, e2]
    rw [hn] at hd
    obtain ⟨rfl, rfl⟩ := hd
    obtain ⟨u', hu', hru⟩ := m.at e1 e2
    rw [e3] at hu'
    cases hu'
    exact (hru.view e5 e4).toTrue
  · exact .hole h
  · exact hd.elim

end

end Go.Tw
