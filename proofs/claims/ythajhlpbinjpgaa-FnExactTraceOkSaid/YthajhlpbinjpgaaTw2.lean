/- States of a call, as trees: slots, boxes (variables in memory), rows (what slices lead to); and what it is that memory holds a state. -/
import Derived.Test.YthajhlpbinjpgaaTw1
set_option linter.unusedSimpArgs false
set_option linter.unusedVariables false
namespace Go.Tw

/-- What a slot's or a box's cell holds: a number, a flag, a text; a slice: elements off .. off + len of what lies at a place of a row; a pointer to a box's cell, to an element's cell. -/
inductive L where
  | t (x : T)
  | ref (r : Nat) (p : Path) (z off len : Nat)
  | nil
  | ptr (b j : Nat)
  | ept (r : Nat) (p : Path) (i j e : Nat)
  | npt
  | fn (f : FuncId) (caps : List Nat)
  | undef

/-- A slot's value: one cell; a struct's cells; several results. -/
inductive V where
  | l (x : L)
  | agg (xs : List L)
  | tup (vs : List (Bool × List L))

/-- own: a row and all below it is this call's own; top: the row alone, what its cells lead to is only read; ro: only read. -/
inductive Pm where
  | own | top | ro
  deriving DecidableEq

structure Row where
  pm : Pm
  z : Nat
  es : Els

def get {α : Type} : List (Nat × α) → Nat → Option α
  | [], _ => none
  | (k, x) :: r, n => if n = k then some x else get r n

structure St where
  env : List (Nat × Bool × V)
  box : List (Nat × List L)
  row : List (Nat × Row)
  nxt : Nat
  sav : List (List (Nat × Bool × V) × Act)

/-- Where it lies. -/
structure Gh where
  bx : Nat → Nat
  rw : Nat → Value
  fp : Nat → Blks

abbrev Row.t (x : Row) : T := .sl x.z x.es

/-- A part of a slice's value. -/
def View (u : Value) (z off len : Nat) (v : Value) : Prop :=
  ∃ oa n cap oa', u = .slice oa n cap ∧ v = .slice oa' len (cap - off) ∧ (cap = off ∨ oa' = oa.map fun a => a.add (off * z))

def RepL (w : World) (g : Gh) (σ : St) : L → Value → Prop
  | .t x, v => Rep w false v x fun _ => False
  | .ref r p z off len, v => ∃ row es u, get σ.row r = some row ∧ row.t.at? p = some (.sl z es) ∧ valAt w (g.rw r) row.t p = some u ∧ off + len ≤ es.length ∧ View u z off len v
  | .nil, v => ∃ oa, v = .slice oa 0 0
  | .ptr b j, v => (get σ.box b).isSome ∧ v = .pointer (some ⟨g.bx b, j, none⟩)
  | .ept r p i j _, v => ∃ row z es a n cap, get σ.row r = some row ∧ row.t.at? p = some (.sl z es) ∧ valAt w (g.rw r) row.t p = some (.slice (some a) n cap) ∧ i < es.length ∧ a.spot = none ∧
      v = .pointer (some ⟨a.block, a.off + i * z + j, none⟩)
  | .npt, v => v = .pointer none
  | .fn f caps, v => (∀ b ∈ caps, (get σ.box b).isSome) ∧ v = .func (.func f) #[] (caps.map fun b => Value.pointer (some ⟨g.bx b, 0, none⟩)).toArray
  | .undef, v => v.oneCell' = true

def RepLs (w : World) (g : Gh) (σ : St) : List L → List Value → Prop
  | [], [] => True
  | l :: ls, v :: vs => RepL w g σ l v ∧ RepLs w g σ ls vs
  | _, _ => False

def RepW (w : World) (g : Gh) (σ : St) (isAgg : Bool) (ls : List L) (v : Value) : Prop :=
  if isAgg then ∃ vs, v = .agg vs.toArray ∧ RepLs w g σ ls vs else ∃ l, ls = [l] ∧ RepL w g σ l v

def RepWs (w : World) (g : Gh) (σ : St) : List (Bool × List L) → List Value → Prop
  | [], [] => True
  | x :: xs, v :: vs => RepW w g σ x.1 x.2 v ∧ RepWs w g σ xs vs
  | _, _ => False

def RepV (w : World) (g : Gh) (σ : St) : V → Value → Prop
  | .l x, v => RepL w g σ x v
  | .agg xs, v => ∃ vs, v = .agg vs.toArray ∧ RepLs w g σ xs vs
  | .tup xs, v => ∃ vs, v = .tuple vs.toArray ∧ RepWs w g σ xs vs

/-- A row of which the call owns the elements' own cells alone. -/
def RepTop (w : World) (v : Value) (z : Nat) (es : Els) (F N : Blks) : Prop :=
  (es = [] ∧ ∃ oa, v = .slice oa 0 0) ∨
  ∃ a cap cs, v = .slice (some a) es.length cap ∧ Lies w true a cap z es cs ∧ F a.block ∧
    ∀ i j x c, es[i]? = some x → x[j]? = some c → Rep w false (cs.getD (a.off + i * z + j) undef) c N

def Owned (g : Gh) (σ : St) : Blks := fun b =>
  (∃ k ls, get σ.box k = some ls ∧ g.bx k = b) ∨ (∃ r row, get σ.row r = some row ∧ row.pm ≠ .ro ∧ g.fp r b)

/-- Memory holds a state's boxes and rows. -/
structure Mem (w : World) (g : Gh) (σ : St) : Prop where
  box : ∀ k ls, get σ.box k = some ls → ∃ cs e, w.heap[g.bx k]? = some (.cells cs e (0, 0)) ∧ RepLs w g σ ls cs.toList
  own : ∀ r row, get σ.row r = some row → row.pm = .own → Rep w true (g.rw r) row.t (g.fp r)
  top : ∀ r row, get σ.row r = some row → row.pm = .top → RepTop w (g.rw r) row.z row.es (g.fp r) fun b => ¬ Owned g σ b
  ro : ∀ r row, get σ.row r = some row → row.pm = .ro → Rep w false (g.rw r) row.t fun b => ¬ Owned g σ b
  bb : ∀ k k' ls ls', get σ.box k = some ls → get σ.box k' = some ls' → g.bx k = g.bx k' → k = k'
  br : ∀ k ls r row, get σ.box k = some ls → get σ.row r = some row → row.pm ≠ .ro → ¬ g.fp r (g.bx k)
  rr : ∀ r r' row row' b, get σ.row r = some row → get σ.row r' = some row' → row.pm ≠ .ro → row'.pm ≠ .ro → g.fp r b → g.fp r' b → r = r'
  lt : ∀ b, Owned g σ b → b < w.heap.size

/-- What a leaf speaks of. -/
def L.rowOf : L → Option (Nat × Path)
  | .ref r p _ _ _ => some (r, p)
  | .ept r p _ _ _ => some (r, p)
  | _ => none
def L.boxOf : L → List Nat
  | .ptr b _ => [b]
  | .fn _ caps => caps
  | _ => []

/-- What leads to a row's place reads there as it did. -/
def Stays (w w' : World) (g g' : Gh) (σ σ' : St) (r : Nat) (p : Path) : Prop :=
  ∀ row, get σ.row r = some row → ∃ row', get σ'.row r = some row' ∧ g'.rw r = g.rw r ∧
    ∀ z es u, row.t.at? p = some (.sl z es) → valAt w (g.rw r) row.t p = some u →
      ∃ es', row'.t.at? p = some (.sl z es') ∧ es'.length = es.length ∧ valAt w' (g'.rw r) row'.t p = some u

/-- All that a leaf speaks of stays. -/
def StaysL (w w' : World) (g g' : Gh) (σ σ' : St) (l : L) : Prop :=
  (∀ r p, l.rowOf = some (r, p) → Stays w w' g g' σ σ' r p) ∧ ∀ b ∈ l.boxOf, (get σ.box b).isSome → (get σ'.box b).isSome ∧ g'.bx b = g.bx b

section
variable {w w' : World} {g g' : Gh} {σ σ' : St}

theorem RepL.stays {l : L} {v : Value} (h : RepL w g σ l v) (hs : StaysL w w' g g' σ σ' l) : RepL w' g' σ' l v := by
  obtain ⟨hr, hb⟩ := hs
  cases l with
  | t x =>
    simp only [RepL] at h ⊢
    exact h.frame fun b hb => hb.elim
  | ref r p z off len =>
    obtain ⟨row, es, u, h1, h2, h3, h4, h5⟩ := h
    obtain ⟨row', e1, e2, e3⟩ := hr r p rfl row h1
    obtain ⟨es', f1, f2, f3⟩ := e3 z es u h2 h3
    exact ⟨row', es', u, e1, f1, f3, by rw [f2]; exact h4, h5⟩
  | nil => exact h
  | ptr b j =>
    obtain ⟨h1, h2⟩ := h
    obtain ⟨h3, h4⟩ := hb b (by simp [L.boxOf]) h1
    exact ⟨h3, by rw [h4]; exact h2⟩
  | ept r p i j d =>
    obtain ⟨row, z, es, a, n, cap, h1, h2, h3, h4, h5, h6⟩ := h
    obtain ⟨row', e1, e2, e3⟩ := hr r p rfl row h1
    obtain ⟨es', f1, f2, f3⟩ := e3 z es _ h2 h3
    exact ⟨row', z, es', a, n, cap, e1, f1, f3, by rw [f2]; exact h4, h5, h6⟩
  | npt => exact h
  | fn f caps =>
    obtain ⟨h1, h2⟩ := h
    refine ⟨fun b hc => (hb b hc (h1 b hc)).1, ?_⟩
    rw [h2]
    congr 2
    exact List.map_congr_left fun b hc => by rw [(hb b hc (h1 b hc)).2]
  | undef => exact h

theorem RepLs.stays : ∀ {ls : List L} {vs : List Value}, RepLs w g σ ls vs → (∀ l ∈ ls, StaysL w w' g g' σ σ' l) → RepLs w' g' σ' ls vs
  | [], [], _, _ => trivial
  | l :: ls, v :: vs, h, hr => ⟨h.1.stays (hr l (by simp)), RepLs.stays h.2 fun x hx => hr x (by simp [hx])⟩
  | [], _ :: _, h, _ => h.elim
  | _ :: _, [], h, _ => h.elim

def V.leaves : V → List L
  | .l x => [x]
  | .agg xs => xs
  | .tup vs => vs.flatMap (·.2)

theorem RepW.stays {a : Bool} {ls : List L} {v : Value} (h : RepW w g σ a ls v) (hr : ∀ l ∈ ls, StaysL w w' g g' σ σ' l) : RepW w' g' σ' a ls v := by
  unfold RepW at *
  cases a with
  | true => simp only [if_true] at *; obtain ⟨vs, e, h⟩ := h; exact ⟨vs, e, h.stays hr⟩
  | false => simp only [Bool.false_eq_true, if_false] at *; obtain ⟨l, e, h⟩ := h; subst e; exact ⟨l, rfl, h.stays (hr l (by simp))⟩

theorem RepWs.stays : ∀ {xs : List (Bool × List L)} {vs : List Value}, RepWs w g σ xs vs → (∀ x ∈ xs, ∀ l ∈ x.2, StaysL w w' g g' σ σ' l) → RepWs w' g' σ' xs vs
  | [], [], _, _ => trivial
  | x :: xs, v :: vs, h, hr => ⟨h.1.stays (hr x (by simp)), RepWs.stays h.2 fun y hy => hr y (by simp [hy])⟩
  | [], _ :: _, h, _ => h.elim
  | _ :: _, [], h, _ => h.elim

theorem RepV.stays {x : V} {v : Value} (h : RepV w g σ x v) (hr : ∀ l ∈ x.leaves, StaysL w w' g g' σ σ' l) : RepV w' g' σ' x v := by
  cases x with
  | l x => exact RepL.stays h (hr x (by simp [V.leaves]))
  | agg xs => obtain ⟨vs, e, h⟩ := h; exact ⟨vs, e, h.stays hr⟩
  | tup xs => obtain ⟨vs, e, h⟩ := h; exact ⟨vs, e, h.stays fun x hx l hl => hr l (by simp only [V.leaves, List.mem_flatMap]; exact ⟨x, hx, hl⟩)⟩

end

/-- A row that is there, and whose memory does not turn. -/
theorem Stays.of_same {w w' : World} {g g' : Gh} {σ : St} (m : Mem w g σ) {σ' : St} {r : Nat} {p : Path}
    (hrow : ∀ row, get σ.row r = some row → get σ'.row r = some row) (hg : ∀ row, get σ.row r = some row → g'.rw r = g.rw r)
    (hw : ∀ row, get σ.row r = some row → ∀ b, (row.pm ≠ .ro → g.fp r b ∨ (row.pm = .top ∧ ¬ Owned g σ b)) → (row.pm = .ro → ¬ Owned g σ b) → b < w.heap.size → w'.heap[b]? = w.heap[b]?) :
    Stays w w' g g' σ σ' r p := by
  intro row h
  refine ⟨row, hrow row h, hg row h, fun z es u h1 h2 => ⟨es, h1, rfl, ?_⟩⟩
  rw [hg row h, ← h2]
  cases hp : row.pm with
  | own =>
    obtain ⟨G, hG, hs, hlt⟩ := (m.own r row h hp).lt
    exact valAt_frame hG (fun b hb => hw row h b (fun _ => Or.inl (hs b hb)) (fun e => by simp [hp] at e) (hlt b hb)) h1
  | ro =>
    obtain ⟨G, hG, hs, hlt⟩ := (m.ro r row h hp).lt
    exact valAt_frame hG (fun b hb => hw row h b (fun e => absurd hp e) (fun _ => hs b hb) (hlt b hb)) h1
  | top =>
    rcases m.top r row h hp with ⟨e, oa, hv⟩ | ⟨a, cap, cs, hv, hl, hF, hc⟩
    · cases p with
      | nil => simp [valAt]
      | cons ij p => obtain ⟨i, j⟩ := ij; simp [e, T.at?] at h1
    · cases p with
      | nil => simp [valAt]
      | cons ij p =>
        obtain ⟨i, j⟩ := ij
        simp only [T.at?] at h1
        split at h1
        · rename_i x hx
          split at h1
          · rename_i c hcc
            have hab : a.block < w.heap.size := by obtain ⟨e, fr, hb, _⟩ := hl.blk; exact (Array.getElem?_eq_some_iff.1 hb).1
            have hl' := hl.frame (w' := w') (hw row h _ (fun _ => Or.inl hF) (fun e => by simp [hp] at e) hab)
            obtain ⟨G, hG, hs, hlt⟩ := (hc i j x c hx hcc).lt
            simp only [Row.t, valAt, hv, hx, hcc, hl.cell hx hcc, hl'.cell hx hcc]
            exact valAt_frame hG (fun b hb => hw row h b (fun _ => Or.inr ⟨hp, hs b hb⟩) (fun e => by simp [hp] at e) (hlt b hb)) h1
          · cases h1
        · cases h1

end Go.Tw
