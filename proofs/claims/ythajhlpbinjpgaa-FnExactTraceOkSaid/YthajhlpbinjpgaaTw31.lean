/- States that say less. -/
import Derived.Test.YthajhlpbinjpgaaTw30
set_option linter.unusedSimpArgs false
set_option linter.unusedVariables false
namespace Go.Tw

/-- Those slots alone. -/
def St.only (σ : St) (ts : List Nat) : St := { σ with env := ts.filterMap fun t => (get σ.env t).map fun x => (t, x) }

def L.of (DR DB : List Nat) (l : L) : Bool := (match l.rowOf with
  | some (r, _) => DR.contains r
  | none => false) || l.boxOf.any DB.contains

/-- Without those rows and boxes. -/
def St.drop (σ : St) (DR DB : List Nat) : St := { σ with env := killE (L.of DR DB) σ.env, sav := killS (L.of DR DB) σ.sav, box := killB (L.of DR DB) (del DB σ.box), row := del DR σ.row }

def renL (f h : Nat → Nat) : L → L
  | .ref r p z off len => .ref (f r) p z off len
  | .ept r p i j e => .ept (f r) p i j e
  | .ptr b j => .ptr (h b) j
  | .fn g caps => .fn g (caps.map h)
  | l => l

def renV (f h : Nat → Nat) : V → V
  | .l x => .l (renL f h x)
  | .agg xs => .agg (xs.map (renL f h))
  | .tup vs => .tup (vs.map fun x => (x.1, x.2.map (renL f h)))

def renE (f h : Nat → Nat) (env : List (Nat × Bool × V)) : List (Nat × Bool × V) := env.map fun x => (x.1, x.2.1, renV f h x.2.2)

/-- With other names. -/
def St.ren (σ : St) (f h : Nat → Nat) : St :=
  { env := renE f h σ.env, box := σ.box.map fun x => (h x.1, x.2.map (renL f h)), row := σ.row.map fun x => (f x.1, x.2), nxt := σ.nxt, sav := σ.sav.map fun x => (renE f h x.1, x.2) }

/-- Two names change places. -/
def swp (a b n : Nat) : Nat := if n = a then b else if n = b then a else n

section
variable {P : Program} {w0 w w' : World} {Al : Blks} {N : Nat} {g : Gh} {σ σ' : St} {a : Act}

theorem swp_swp (a b n : Nat) : swp a b (swp a b n) = n := by
  unfold swp
  split <;> split <;> simp_all

theorem get_only (σ : St) (ts : List Nat) (t : Nat) (x : Bool × V) (h : get (σ.only ts).env t = some x) : t ∈ ts ∧ get σ.env t = some x := by
  unfold St.only at h
  simp only at h
  induction ts with
  | nil => simp [get] at h
  | cons s ts ih =>
    simp only [List.filterMap_cons] at h
    cases hs : get σ.env s with
    | none =>
      rw [hs] at h
      obtain ⟨h1, h2⟩ := ih h
      exact ⟨by simp [h1], h2⟩
    | some y =>
      rw [hs] at h
      simp only [Option.map_some, get] at h
      split at h
      · rename_i e
        subst e
        simp only [Option.some.injEq] at h
        subst h
        exact ⟨by simp, hs⟩
      · obtain ⟨h1, h2⟩ := ih h
        exact ⟨by simp [h1], h2⟩

theorem only_unq (σ : St) : ∀ (ts : List Nat), ts.Nodup → (σ.only ts).env.Pairwise fun x y => x.1 ≠ y.1
  | [], _ => .nil
  | s :: ts, hn => by
    obtain ⟨h1, h2⟩ := List.nodup_cons.1 hn
    have ih := only_unq σ ts h2
    unfold St.only at ih ⊢
    simp only [List.filterMap_cons]
    cases hs : get σ.env s with
    | none => exact ih
    | some y =>
      simp only [Option.map_some]
      refine List.pairwise_cons.2 ⟨fun x hx => ?_, ih⟩
      simp only [List.mem_filterMap, Option.map_eq_some_iff] at hx
      obtain ⟨t, ht, y', _, rfl⟩ := hx
      simp only
      intro e
      exact h1 (e ▸ ht)

theorem Sub.only (ts : List Nat) (hn : ts.Nodup) : Sub σ (σ.only ts) := fun w0 Al N a w g R =>
  ⟨g, ⟨fun t c v hg hc => (R.slots.yes t c v (get_only σ ts t _ hg).2 hc).same rfl rfl, fun t c v hg hc => R.slots.no t c v (get_only σ ts t _ hg).2 hc⟩, only_unq σ ts hn, R.mem.same rfl rfl, by rw [Owned.same (g := g) (σ' := σ.only ts) (σ := σ) rfl rfl]; exact R.own, R.frm, R.siz, R.os, R.tape, R.out, R.dfr, R.tsz,
    fun x hx => let ⟨q1, q2, q3⟩ := R.sav x hx; ⟨fun t c v h hc => (q1 t c v h hc).same rfl rfl, q2, q3⟩⟩

theorem Sub.num (n : Nat) : Sub σ { σ with nxt := n } := fun _ _ _ _ _ g R => ⟨g, R.num n⟩

theorem Sub.freeze (rs : List Nat) : Sub σ (σ.freeze rs) := fun _ _ _ _ _ g R => ⟨g, rel_freeze R rs⟩

theorem drop_in (m : Mem w g σ) (DR DB : List Nat) : NewIn w w g g σ (σ.drop DR DB) DR DB [] [] (L.of DR DB) := by
  refine ⟨rfl, rfl, fun _ _ _ => rfl, Nat.le_refl _, fun _ _ _ => ⟨rfl, rfl⟩, fun _ _ _ => rfl, ?_, ?_, ?_, ?_, ?_, ?_, ?_, ?_, ?_, ?_, ?_, ?_, ?_⟩
  · intro k row h; simp [get] at h
  · intro k row h; simp [get] at h
  · intro k row h; simp [get] at h
  · intro k row h; simp [get] at h
  · intro k row h; simp [get] at h
  · intro k row b h; simp [get] at h
  · intro k ls h; simp [get] at h
  · intro k k' row row' b h; simp [get] at h
  · intro k ls r row h; simp [get] at h
  · intro k k' ls ls' h; simp [get] at h
  · intro k ls h; simp [get] at h
  · intro l hl r p hr _ hd
    simp [L.of, hr, hd] at hl
  · intro l hl b hb _ hd
    simp only [L.of, Bool.or_eq_false_iff, List.any_eq_false] at hl
    exact absurd (by simpa using hd) (hl.2 b hb)

theorem Sub.drop (DR DB : List Nat) : Sub σ (σ.drop DR DB) := fun _ _ _ _ _ g R => ⟨g, R.turn (drop_in R.mem DR DB) ⟨rfl, rfl⟩ rfl rfl rfl⟩

theorem get_map_inv {α β : Type} {f : Nat → Nat} (hf : ∀ n, f (f n) = n) (u : α → β) : ∀ (xs : List (Nat × α)) (n : Nat), get (xs.map fun x => (f x.1, u x.2)) n = (get xs (f n)).map u
  | [], _ => rfl
  | (k, x) :: xs, n => by
    simp only [List.map_cons, get]
    by_cases e : n = f k
    · subst e; simp [hf]
    · have : f n ≠ k := fun h => e (by rw [← h, hf])
      simp only [e, this, if_false]
      exact get_map_inv hf u xs n

theorem get_renE (f h : Nat → Nat) : ∀ (env : List (Nat × Bool × V)) (t : Nat), get (renE f h env) t = (get env t).map fun x => (x.1, renV f h x.2)
  | [], _ => rfl
  | (k, x) :: env, t => by
    have ih := get_renE f h env t
    unfold renE at ih ⊢
    simp only [List.map_cons, get]
    split
    · rfl
    · exact ih

theorem renE_unq {f h : Nat → Nat} {env : List (Nat × Bool × V)} (hp : env.Pairwise fun x y => x.1 ≠ y.1) : (renE f h env).Pairwise fun x y => x.1 ≠ y.1 := by
  unfold renE
  rw [List.pairwise_map]
  exact hp

theorem Sub.ren {f h : Nat → Nat} (hf : ∀ n, f (f n) = n) (hh : ∀ n, h (h n) = n) : Sub σ (σ.ren f h) := by
  intro w0 Al N a w g R
  let g' : Gh := ⟨fun k => g.bx (h k), fun r => g.rw (f r), fun r => g.fp (f r)⟩
  have rowE : ∀ r, get (σ.ren f h).row r = get σ.row (f r) := fun r => by
    have := get_map_inv hf (fun x : Row => x) σ.row r
    simpa [St.ren] using this
  have boxE : ∀ k, get (σ.ren f h).box k = (get σ.box (h k)).map (List.map (renL f h)) := fun k => get_map_inv hh (List.map (renL f h)) σ.box k
  have repL : ∀ l v, RepL w g σ l v → RepL w g' (σ.ren f h) (renL f h l) v := by
    intro l v hr
    cases l with
    | t x => exact hr
    | ref r p z off len =>
      obtain ⟨row, es, u, e1, e2, e3, e4⟩ := hr
      exact ⟨row, es, u, by rw [rowE, hf]; exact e1, e2, by simp only [g', hf]; exact e3, e4⟩
    | nil => exact hr
    | ptr b j =>
      obtain ⟨e1, e2⟩ := hr
      refine ⟨by rw [boxE, hh]; simpa using e1, ?_⟩
      simp only [g', hh]; exact e2
    | ept r p i j d =>
      obtain ⟨row, z, es, ad, n, cap, e1, e2, e3, e4⟩ := hr
      exact ⟨row, z, es, ad, n, cap, by rw [rowE, hf]; exact e1, e2, by simp only [g', hf]; exact e3, e4⟩
    | npt => exact hr
    | fn q caps =>
      obtain ⟨e1, e2⟩ := hr
      refine ⟨fun b hb => ?_, ?_⟩
      · obtain ⟨b0, hb0, rfl⟩ := List.mem_map.1 hb
        rw [boxE, hh]
        simpa using e1 b0 hb0
      · rw [e2]
        simp only [List.map_map, g']
        congr 2
        exact List.map_congr_left fun b _ => by simp [hh]
    | undef => exact hr
  have repLs : ∀ ls vs, RepLs w g σ ls vs → RepLs w g' (σ.ren f h) (ls.map (renL f h)) vs := by
    intro ls
    induction ls with
    | nil => intro vs hr; cases vs with
      | nil => trivial
      | cons => exact hr.elim
    | cons l ls ih => intro vs hr; cases vs with
      | nil => exact hr.elim
      | cons v vs => exact ⟨repL l v hr.1, ih vs hr.2⟩
  have repV : ∀ x v, RepV w g σ x v → RepV w g' (σ.ren f h) (renV f h x) v := by
    intro x v hr
    cases x with
    | l y => exact repL y v hr
    | agg ys => obtain ⟨vs, e, hr⟩ := hr; exact ⟨vs, e, repLs ys vs hr⟩
    | tup ys =>
      obtain ⟨vs, e, hr⟩ := hr
      refine ⟨vs, e, ?_⟩
      clear e
      induction ys generalizing vs with
      | nil => cases vs with
        | nil => trivial
        | cons => exact hr.elim
      | cons y ys ih => cases vs with
        | nil => exact hr.elim
        | cons v vs =>
          refine ⟨?_, ih vs hr.2⟩
          have := hr.1
          unfold RepW at this ⊢
          cases hy : y.1 with
          | true =>
            simp only [hy, if_true] at this ⊢
            obtain ⟨us, e, hr⟩ := this
            exact ⟨us, e, repLs _ _ hr⟩
          | false =>
            simp only [hy, Bool.false_eq_true, if_false] at this ⊢
            obtain ⟨l, e, hr⟩ := this
            exact ⟨renL f h l, by simp [e], repL l _ hr⟩
  have own : ∀ b, Owned g' (σ.ren f h) b ↔ Owned g σ b := by
    intro b
    constructor
    · rintro (⟨k, ls, h1, h2⟩ | ⟨r, row, h1, h2, h3⟩)
      · rw [boxE] at h1
        simp only [Option.map_eq_some_iff] at h1
        obtain ⟨ls0, h1, _⟩ := h1
        exact Or.inl ⟨h k, ls0, h1, h2⟩
      · rw [rowE] at h1
        exact Or.inr ⟨f r, row, h1, h2, h3⟩
    · rintro (⟨k, ls, h1, h2⟩ | ⟨r, row, h1, h2, h3⟩)
      · exact Or.inl ⟨h k, ls.map (renL f h), by rw [boxE, hh, h1]; rfl, by simp only [g', hh]; exact h2⟩
      · exact Or.inr ⟨f r, row, by rw [rowE, hf]; exact h1, h2, by simp only [g', hf]; exact h3⟩
  have ownE : (fun b => ¬ Owned g' (σ.ren f h) b) = fun b => ¬ Owned g σ b := by funext b; rw [own]
  have m := R.mem
  have m' : Mem w g' (σ.ren f h) := by
    refine ⟨?_, ?_, ?_, ?_, ?_, ?_, ?_, fun b hb => m.lt b ((own b).1 hb)⟩
    · intro k ls hk
      rw [boxE] at hk
      simp only [Option.map_eq_some_iff] at hk
      obtain ⟨ls0, hk, rfl⟩ := hk
      obtain ⟨cs, e, hc, hr⟩ := m.box _ ls0 hk
      exact ⟨cs, e, hc, repLs _ _ hr⟩
    · intro r row hr hp
      rw [rowE] at hr
      exact m.own _ row hr hp
    · intro r row hr hp
      rw [rowE] at hr
      rw [ownE]
      exact m.top _ row hr hp
    · intro r row hr hp
      rw [rowE] at hr
      rw [ownE]
      exact m.ro _ row hr hp
    · intro k k' ls ls' hk hk' e
      rw [boxE] at hk hk'
      simp only [Option.map_eq_some_iff] at hk hk'
      obtain ⟨l1, hk, _⟩ := hk
      obtain ⟨l2, hk', _⟩ := hk'
      have := m.bb _ _ l1 l2 hk hk' e
      rw [← hh k, this, hh]
    · intro k ls r row hk hr hp
      rw [boxE] at hk
      simp only [Option.map_eq_some_iff] at hk
      obtain ⟨l1, hk, _⟩ := hk
      rw [rowE] at hr
      exact m.br _ l1 _ row hk hr hp
    · intro r r' row row' b hr hr' hp hp' hb hb'
      rw [rowE] at hr hr'
      have := m.rr _ _ row row' b hr hr' hp hp' hb hb'
      rw [← hf r, this, hf]
  refine ⟨g', ⟨fun t c v hg hc => ?_, fun t c v hg hc => ?_⟩, renE_unq R.unq, m', fun b hb => R.own b ((own b).1 hb), R.frm, R.siz, R.os, R.tape, R.out, R.dfr, R.tsz, fun x hx => ?_⟩
  · simp only [St.ren] at hg
    rw [get_renE] at hg
    simp only [Option.map_eq_some_iff, Prod.mk.injEq] at hg
    obtain ⟨⟨c', v'⟩, hg, rfl, rfl⟩ := hg
    exact repV _ _ (R.slots.yes t c' v' hg hc)
  · simp only [St.ren] at hg
    rw [get_renE] at hg
    simp only [Option.map_eq_some_iff, Prod.mk.injEq] at hg
    obtain ⟨⟨c', v'⟩, hg, rfl, rfl⟩ := hg
    exact R.slots.no t c' v' hg hc
  · simp only [St.ren, List.mem_map] at hx
    obtain ⟨y, hy, rfl⟩ := hx
    obtain ⟨q1, q2, q3⟩ := R.sav y hy
    refine ⟨fun t c v hg hc => ?_, fun t c v hg hc => ?_, renE_unq q3⟩
    · rw [get_renE] at hg
      simp only [Option.map_eq_some_iff, Prod.mk.injEq] at hg
      obtain ⟨⟨c', v'⟩, hg, rfl, rfl⟩ := hg
      exact repV _ _ (q1 t c' v' hg hc)
    · rw [get_renE] at hg
      simp only [Option.map_eq_some_iff, Prod.mk.injEq] at hg
      obtain ⟨⟨c', v'⟩, hg, rfl, rfl⟩ := hg
      exact q2 t c' v' hg hc

/-- A slot's nil as a row of no elements. -/
theorem Sub.nilRow {t nm z : Nat} (hg : get σ.env t = some (true, .l .nil)) (hnm : get σ.row nm = none) :
    Sub σ { σ with env := (t, true, .l (.ref nm [] z 0 0)) :: del [t] σ.env, row := (nm, ⟨.own, z, []⟩) :: σ.row } := by
  intro w0 Al N a w g R
  obtain ⟨oa, hv⟩ := R.slots.yes t true _ hg rfl
  have hrep : Rep w true (.slice oa 0 0) (.sl z []) fun _ => False := by
    cases oa with
    | none => exact .nils
    | some ad => exact .bare
  let g' : Gh := ⟨g.bx, fun k => if k = nm then .slice oa 0 0 else g.rw k, fun k => if k = nm then fun _ => False else g.fp k⟩
  let σ1 : St := { σ with row := (nm, ⟨.own, z, []⟩) :: σ.row }
  have hin : NewIn w w g g' σ σ1 [] [] [(nm, ⟨.own, z, []⟩)] [] (fun _ => false) := by
    have hk : ∀ k row, get [(nm, (⟨.own, z, []⟩ : Row))] k = some row → k = nm ∧ row = ⟨.own, z, []⟩ := by
      intro k row h
      simp only [get] at h
      split at h
      · rename_i e
        simp only [Option.some.injEq] at h
        exact ⟨e, h.symm⟩
      · cases h
    refine ⟨by simp [σ1, del_nil], by simp [σ1, del_nil, killB_no], fun _ _ _ => rfl, Nat.le_refl _, fun r _ hr => ?_, fun _ _ _ => rfl, fun k row h => ?_, fun k ls h => by simp [get] at h, ?_, ?_, ?_, ?_, fun k ls h => by simp [get] at h, ?_, fun k ls r row h => by simp [get] at h, fun k k' ls ls' h => by simp [get] at h, fun k ls h => by simp [get] at h, fun _ _ r p _ _ h => by simp at h, fun _ _ b _ _ h => by simp at h⟩
    · have : r ≠ nm := fun e => by subst e; rw [hnm] at hr; cases hr
      simp [g', this]
    · obtain ⟨rfl, _⟩ := hk k row h; exact Or.inr hnm
    · intro k row h _; obtain ⟨rfl, rfl⟩ := hk k row h; simp only [g', if_true]; exact hrep
    · intro k row h hp; obtain ⟨_, rfl⟩ := hk k row h; cases hp
    · intro k row h hp; obtain ⟨_, rfl⟩ := hk k row h; cases hp
    · intro k row b h _ hb; obtain ⟨rfl, _⟩ := hk k row h; simp [g'] at hb
    · intro r r' row row' b h h' _ _ hb; obtain ⟨rfl, _⟩ := hk r row h; simp [g'] at hb
  have R1 := R.turn hin (σ1 := σ1) ⟨by rw [killE_no], (killS_no _).symm⟩ rfl rfl rfl
  have hlt : t < N := by
    rw [← R.tsz]
    apply Nat.lt_of_not_le
    intro h
    have : a.tmps.getD t undef = undef := by rw [Array.getD_eq_getD_getElem?, Array.getElem?_eq_none h]; rfl
    rw [this] at hv
    simp [undef] at hv
  have hput := R1.put (d := some t) (fun s hs => by cases hs; exact hlt) (c := true) (v := .l (.ref nm [] z 0 0)) (x := .slice oa 0 0) (fun _ => ⟨⟨.own, z, []⟩, [], .slice oa 0 0, by simp [σ1, get], rfl, by simp [valAt, g'], by simp, View.whole _ _ _ _ _⟩) (fun e => by cases e)
  refine ⟨g', ?_⟩
  have ha : a.put (some t) (.slice oa 0 0) = a := by
    have hlt' : t < a.tmps.size := by rw [R.tsz]; exact hlt
    obtain ⟨tm, df⟩ := a
    simp only [Act.put] at hv hlt' ⊢
    congr 1
    apply Array.ext
    · simp
    · intro i h1 h2
      rw [Array.getElem_setIfInBounds]
      split
      · rename_i e
        subst e
        rw [Array.getD_eq_getD_getElem?, Array.getElem?_eq_getElem h2] at hv
        simpa using hv.symm
      · rfl
  rw [ha] at hput
  exact hput

end

end Go.Tw
