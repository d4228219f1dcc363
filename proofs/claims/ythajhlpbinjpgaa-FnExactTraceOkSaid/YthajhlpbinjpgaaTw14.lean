/- New rows, turned rows, rows that are only read from then on. -/
import Derived.Test.YthajhlpbinjpgaaTw13
set_option linter.unusedSimpArgs false
set_option linter.unusedVariables false
namespace Go.Tw

def upd {α : Type} (f : Nat → α) (k : Nat) (x : α) : Nat → α := fun n => if n = k then x else f n

theorem upd_self {α : Type} (f : Nat → α) (k : Nat) (x : α) : upd f k x k = x := by simp [upd]
theorem upd_ne {α : Type} (f : Nat → α) {k n : Nat} (x : α) (h : n ≠ k) : upd f k x n = f n := by simp [upd, h]

/-- Leaves that speak of those rows. -/
def hits (rs : List Nat) (l : L) : Bool := match l.rowOf with
  | some (r, _) => rs.contains r
  | none => false

/-- Those rows taken out, one put in; what kill says is forgotten. -/
def St.swap (σ : St) (kill : L → Bool) (rs : List Nat) (k : Nat) (row : Row) : St :=
  { σ with env := killE kill σ.env, sav := killS kill σ.sav, box := killB kill σ.box, row := (k, row) :: del rs σ.row }

def Gh.row (g : Gh) (k : Nat) (hv : Value) (F : Blks) : Gh := { g with rw := upd g.rw k hv, fp := upd g.fp k F }

section
variable {w w' : World} {g : Gh} {σ : St}

theorem get_one {α : Type} {k n : Nat} {x y : α} (h : get [(k, x)] n = some y) : n = k ∧ x = y := by
  simp only [get] at h
  split at h
  · rename_i e; simp only [Option.some.injEq] at h; exact ⟨e, h⟩
  · cases h

theorem swap_in (m : Mem w g σ) {kill : L → Bool} {rs : List Nat} {k : Nat} {row : Row} {hv : Value} {F N : Blks} (hk : k ∈ rs ∨ get σ.row k = none) (hro : row.pm ≠ .ro)
    (hown : row.pm = .own → Rep w' true hv row.t F) (htop : row.pm = .top → RepTop w' hv row.z row.es F N) (hN : ∀ b, N b → b < w.heap.size ∧ (¬ Owned g σ b ∨ RowsFp g σ rs b) ∧ ¬ F b)
    (hF : ∀ b, F b → (RowsFp g σ rs b ∨ w.heap.size ≤ b) ∧ b < w'.heap.size) (hold : ∀ b, b < w.heap.size → ¬ RowsFp g σ rs b → w'.heap[b]? = w.heap[b]?) (hsz : w.heap.size ≤ w'.heap.size)
    (hkeep : ∀ l, kill l = false → ∀ r p, l.rowOf = some (r, p) → (get σ.row r).isSome → r ∈ rs → Stays w w' g (g.row k hv F) σ (σ.swap kill rs k row) r p) :
    NewIn w w' g (g.row k hv F) σ (σ.swap kill rs k row) rs [] [(k, row)] [] kill := by
  have pool : ∀ b, Pool g σ rs [] b ↔ RowsFp g σ rs b := fun b => by simp [Pool, RowsFp]
  have rne : ∀ r, r ∉ rs → (get σ.row r).isSome → r ≠ k := by
    rintro r h1 h2 rfl
    rcases hk with h | h
    · exact h1 h
    · rw [h] at h2; cases h2
  have own' : ∀ b, Owned (g.row k hv F) (σ.swap kill rs k row) b → (Owned g σ b ∧ ¬ RowsFp g σ rs b) ∨ F b := by
    rintro b (⟨k', ls, h1, h2⟩ | ⟨r, row', h1, h2, h3⟩)
    · simp only [St.swap, get_killB, Option.map_eq_some_iff] at h1
      obtain ⟨ls0, h1, _⟩ := h1
      refine Or.inl ⟨Or.inl ⟨k', ls0, h1, h2⟩, fun ⟨r, row, _, h4, h5, h6⟩ => ?_⟩
      subst h2
      exact m.br k' ls0 r row h1 h4 h5 h6
    · simp only [St.swap, get] at h1
      split at h1
      · rename_i e
        subst e
        right
        simpa [Gh.row, upd_self] using h3
      · rename_i e
        rw [get_del] at h1
        split at h1
        · cases h1
        · rename_i hr
          simp only [Gh.row, upd_ne _ _ e] at h3
          exact Or.inl ⟨Or.inr ⟨r, row', h1, h2, h3⟩, fun ⟨r2, row2, h4, h5, h6, h7⟩ => hr (m.rr r r2 row' row2 b h1 h5 h2 h6 h3 h7 ▸ h4)⟩
  refine ⟨rfl, by simp [St.swap, del_nil], fun b hb hp => hold b hb fun h => hp ((pool b).2 h), hsz, fun r hr hs => ?_, fun _ _ _ => rfl, ?_, ?_, ?_, ?_, ?_, ?_, ?_, ?_, ?_, ?_, ?_, hkeep, ?_⟩
  · have := rne r hr hs
    exact ⟨by simp [Gh.row, upd_ne _ _ this], by simp [Gh.row, upd_ne _ _ this]⟩
  · intro k' row' h
    obtain ⟨rfl, _⟩ := get_one h
    exact hk
  · intro k' ls h; simp [get] at h
  · intro k' row' h hp
    obtain ⟨rfl, rfl⟩ := get_one h
    simpa [Gh.row, upd_self] using hown hp
  · intro k' row' h hp
    obtain ⟨rfl, rfl⟩ := get_one h
    have := htop hp
    simp only [Gh.row, upd_self]
    rcases this with h | ⟨a, cap, cs, h1, h2, h3, h4⟩
    · exact Or.inl h
    · refine Or.inr ⟨a, cap, cs, h1, h2, h3, fun i j x c hx hc => (h4 i j x c hx hc).mono fun b hb ho => ?_⟩
      obtain ⟨_, h6, h7⟩ := hN b hb
      exact (own' b ho).elim (fun ⟨h8, h9⟩ => h6.elim (fun h => h h8) h9) h7
  · intro k' row' h hp
    obtain ⟨rfl, rfl⟩ := get_one h
    exact absurd hp hro
  · intro k' row' b h hp hb
    obtain ⟨rfl, rfl⟩ := get_one h
    simp only [Gh.row, upd_self] at hb
    exact ⟨(hF b hb).1.imp (pool b).2 id, (hF b hb).2⟩
  · intro k' ls h; simp [get] at h
  · intro r r' row1 row2 b h h' _ _ _ _
    exact (get_one h).1.trans (get_one h').1.symm
  · intro k' ls r row' h; simp [get] at h
  · intro k1 k2 l1 l2 h; simp [get] at h
  · intro k' ls h; simp [get] at h
  · intro l _ b _ _ h; simp at h

/-- Those rows are only read from now on. -/
def frz (rs : List Nat) (rows : List (Nat × Row)) : List (Nat × Row) := (rows.filter fun x => rs.contains x.1).map fun x => (x.1, { x.2 with pm := .ro })

def St.freeze (σ : St) (rs : List Nat) : St := { σ with row := frz rs σ.row ++ del rs σ.row }

theorem get_frz (rs : List Nat) (rows : List (Nat × Row)) (n : Nat) : get (frz rs rows) n = if n ∈ rs then (get rows n).map fun x => { x with pm := .ro } else none := by
  induction rows with
  | nil => simp [frz, get]
  | cons x xs ih =>
    obtain ⟨k, x⟩ := x
    unfold frz at ih ⊢
    simp only [List.filter_cons]
    by_cases hk : k ∈ rs
    · have : rs.contains k = true := by simpa using hk
      simp only [this, if_true, List.map_cons, get, ih]
      by_cases hn : n = k
      · subst hn; simp [hk]
      · simp [hn]
    · have : rs.contains k = false := by simpa using hk
      simp only [this, Bool.false_eq_true, if_false, ih, get]
      by_cases hn : n ∈ rs
      · have : n ≠ k := fun e => hk (e ▸ hn)
        simp [hn, this]
      · simp [hn]

theorem Mem.lentRow (m : Mem w g σ) {r : Nat} {row : Row} (h : get σ.row r = some row) : Rep w false (g.rw r) row.t fun b => RowsFp g σ [r] b ∨ ¬ Owned g σ b := by
  cases hp : row.pm with
  | own => exact (m.own r row h hp).lent.mono fun b hb => Or.inl ⟨r, row, by simp, h, by simp [hp], hb⟩
  | ro => exact (m.ro r row h hp).mono fun b hb => Or.inr hb
  | top =>
    rcases m.top r row h hp with ⟨e, oa, hv⟩ | ⟨a, cap, cs, hv, hl, hF, hc⟩
    · rw [hv, Row.t, e]
      cases oa with
      | none => exact .nils
      | some a => exact .bare
    · rw [hv]
      exact .sl (fun _ _ b => RowsFp g σ [r] b ∨ ¬ Owned g σ b) ⟨let ⟨e, fr, h, _⟩ := hl.blk; ⟨e, fr, h, fun h => by cases h⟩, hl.spot, hl.len, hl.room, hl.each⟩ (Or.inl ⟨r, row, by simp, h, by simp [hp], hF⟩)
        (fun _ _ _ h => h) (fun h => by cases h) (fun h => by cases h) (fun i j x c hx hcc => (hc i j x c hx hcc).mono fun b hb => Or.inr hb)

theorem freeze_in (m : Mem w g σ) (rs : List Nat) : NewIn w w g g σ (σ.freeze rs) rs [] (frz rs σ.row) [] (fun _ => false) := by
  have ownS : ∀ b, Owned g (σ.freeze rs) b → Owned g σ b ∧ ¬ RowsFp g σ rs b := by
    rintro b (⟨k', ls, h1, h2⟩ | ⟨r, row', h1, h2, h3⟩)
    · exact ⟨Or.inl ⟨k', ls, h1, h2⟩, fun ⟨r, row, _, h4, h5, h6⟩ => by subst h2; exact m.br k' ls r row h1 h4 h5 h6⟩
    · simp only [St.freeze, get_append, get_frz, get_del] at h1
      by_cases hr : r ∈ rs
      · simp only [hr, if_true] at h1
        cases hg : get σ.row r with
        | none => simp [hg] at h1
        | some row0 =>
          simp only [hg, Option.map_some, Option.some.injEq] at h1
          subst h1
          exact absurd rfl h2
      · simp only [hr, if_false] at h1
        exact ⟨Or.inr ⟨r, row', h1, h2, h3⟩, fun ⟨r2, row2, h4, h5, h6, h7⟩ => hr (m.rr r r2 row' row2 b h1 h5 h2 h6 h3 h7 ▸ h4)⟩
  have fro : ∀ k row, get (frz rs σ.row) k = some row → k ∈ rs ∧ ∃ row0, get σ.row k = some row0 ∧ row = { row0 with pm := .ro } := by
    intro k row h
    rw [get_frz] at h
    split at h
    · rename_i hk
      simp only [Option.map_eq_some_iff] at h
      obtain ⟨row0, h1, h2⟩ := h
      exact ⟨hk, row0, h1, h2.symm⟩
    · cases h
  refine ⟨rfl, by simp [St.freeze, del_nil, killB_no], fun b hb hp => rfl, Nat.le_refl _, fun r hr hs => ⟨rfl, rfl⟩, fun _ _ _ => rfl, ?_, ?_, ?_, ?_, ?_, ?_, ?_, ?_, ?_, ?_, ?_, ?_, ?_⟩
  · intro k row h; exact Or.inl (fro k row h).1
  · intro k ls h; simp [get] at h
  · intro k row h hp; obtain ⟨_, row0, _, rfl⟩ := fro k row h; cases hp
  · intro k row h hp; obtain ⟨_, row0, _, rfl⟩ := fro k row h; cases hp
  · intro k row h hp
    obtain ⟨hk, row0, h0, rfl⟩ := fro k row h
    refine (m.lentRow h0).mono fun b hb ho => ?_
    obtain ⟨h1, h2⟩ := ownS b ho
    rcases hb with ⟨r, row, hr, h3, h4, h5⟩ | hb
    · simp only [List.mem_singleton] at hr
      subst hr
      exact h2 ⟨r, row, hk, h3, h4, h5⟩
    · exact hb h1
  · intro k row b h hp; obtain ⟨_, row0, _, rfl⟩ := fro k row h; exact absurd rfl hp
  · intro k ls h; simp [get] at h
  · intro r r' row row' b h _ hp; obtain ⟨_, row0, _, rfl⟩ := fro r row h; exact absurd rfl hp
  · intro k ls r row h; simp [get] at h
  · intro k k' l l' h; simp [get] at h
  · intro k ls h; simp [get] at h
  · intro l _ r p _ _ hr row h
    refine ⟨{ row with pm := .ro }, ?_, rfl, fun z es u h1 h2 => ⟨es, h1, rfl, h2⟩⟩
    simp [St.freeze, get_append, get_frz, hr, h]
  · intro l _ b _ _ h; simp at h

end

end Go.Tw
