/- A state of a call against the machine's; new boxes and new rows. -/
import Derived.Test.YthajhlpbinjpgaaTw11
set_option linter.unusedSimpArgs false
set_option linter.unusedVariables false
namespace Go.Tw

theorem del_nil {α : Type} (xs : List (Nat × α)) : del [] xs = xs := by
  unfold del
  rw [List.filter_eq_self]
  intro x _
  rfl

theorem killLs_no (ls : List L) : killLs (fun _ => false) ls = ls := by simp [killLs]

theorem killB_no (bs : List (Nat × List L)) : killB (fun _ => false) bs = bs := by simp [killB, killLs_no]

theorem killE_no (env : List (Nat × Bool × V)) : killE (fun _ => false) env = env := by
  unfold killE
  rw [List.filter_eq_self]
  intro x _
  simp

theorem killS_no (sav : List (List (Nat × Bool × V) × Act)) : killS (fun _ => false) sav = sav := by
  unfold killS
  conv => rhs; rw [← List.map_id sav]
  exact List.map_congr_left fun x _ => by rw [killE_no]; rfl

/-- What those that wait for this call know of their slots. -/
structure Saved (w : World) (g : Gh) (σ : St) (env : List (Nat × Bool × V)) (a : Act) : Prop where
  yes : ∀ t c v, get env t = some (c, v) → c = true → RepV w g σ v (a.tmps.getD t undef)
  no : ∀ t c v, get env t = some (c, v) → c = false → a.tmps.getD t undef = undef
  unq : env.Pairwise fun x y => x.1 ≠ y.1

/-- A state of a call that began in world w0, may write the blocks of Al and its own, and has N slots. -/
structure Rel (w0 : World) (Al : Blks) (N : Nat) (σ : St) (a : Act) (w : World) (g : Gh) : Prop where
  slots : Slots w g σ a
  unq : σ.env.Pairwise fun x y => x.1 ≠ y.1
  mem : Mem w g σ
  own : ∀ b, Owned g σ b → w0.heap.size ≤ b ∨ Al b
  frm : ∀ b, b < w0.heap.size → ¬ Al b → w.heap[b]? = w0.heap[b]?
  siz : w0.heap.size ≤ w.heap.size
  os : w.os = w0.os
  tape : w.tape = w0.tape
  out : w.output = w0.output
  dfr : a.defers = []
  tsz : a.tmps.size = N
  sav : ∀ x ∈ σ.sav, Saved w g σ x.1 x.2

/-- The state with a slot's new value. -/
def St.set (σ : St) (d : Option Nat) (c : Bool) (v : V) : St := match d with
  | some d => { σ with env := (d, c, v) :: del [d] σ.env }
  | none => σ

theorem get_of_mem {α : Type} : ∀ {xs : List (Nat × α)}, xs.Pairwise (fun x y => x.1 ≠ y.1) → ∀ {n : Nat} {x : α}, (n, x) ∈ xs → get xs n = some x
  | [], _, _, _, h => by simp at h
  | (k, y) :: xs, hp, n, x, h => by
    obtain ⟨h1, h2⟩ := List.pairwise_cons.1 hp
    rcases List.mem_cons.1 h with h | h
    · simp only [Prod.mk.injEq] at h
      obtain ⟨rfl, rfl⟩ := h
      simp [get]
    · have := h1 _ h
      simp only [get]
      rw [if_neg (fun e => this e.symm)]
      exact get_of_mem h2 h

theorem Slots.congr {w : World} {g : Gh} {σ σ' : St} {a : Act} (h : Slots w g σ a) (he : σ'.env = σ.env) (hb : σ'.box = σ.box) (hr : σ'.row = σ.row) : Slots w g σ' a := by
  obtain ⟨h1, h2⟩ := h
  obtain ⟨env, box, row, nxt, sav⟩ := σ
  obtain ⟨env', box', row', nxt', sav'⟩ := σ'
  simp only at he hb hr
  subst he hb hr
  refine ⟨fun t c v hg hc => ?_, h2⟩
  exact (h1 t c v hg hc).stays fun l _ => ⟨fun r p _ row h => ⟨row, h, rfl, fun z es u h1 h2 => ⟨es, h1, rfl, h2⟩⟩, fun b _ h => ⟨h, rfl⟩⟩

theorem stays_same {w : World} {g : Gh} {σ σ' : St} (hb : σ'.box = σ.box) (hr : σ'.row = σ.row) (l : L) : StaysL w w g g σ σ' l :=
  ⟨fun r p _ row h => ⟨row, by rw [hr]; exact h, rfl, fun z es u h1 h2 => ⟨es, h1, rfl, h2⟩⟩, fun b _ h => ⟨by rw [hb]; exact h, rfl⟩⟩

theorem RepV.same {w : World} {g : Gh} {σ σ' : St} {v : V} {x : Value} (h : RepV w g σ v x) (hb : σ'.box = σ.box) (hr : σ'.row = σ.row) : RepV w g σ' v x := h.stays fun l _ => stays_same hb hr l

theorem RepLs.same {w : World} {g : Gh} {σ σ' : St} {v : List L} {x : List Value} (h : RepLs w g σ v x) (hb : σ'.box = σ.box) (hr : σ'.row = σ.row) : RepLs w g σ' v x := h.stays fun l _ => stays_same hb hr l

theorem Owned.same {g : Gh} {σ σ' : St} (hb : σ'.box = σ.box) (hr : σ'.row = σ.row) : Owned g σ' = Owned g σ := by
  funext b
  simp only [Owned, hb, hr]

theorem Mem.same {w : World} {g : Gh} {σ σ' : St} (m : Mem w g σ) (hb : σ'.box = σ.box) (hr : σ'.row = σ.row) : Mem w g σ' := by
  obtain ⟨h1, h2, h3, h4, h5, h6, h7, h8⟩ := m
  have ho := Owned.same (g := g) hb hr
  refine ⟨?_, ?_, ?_, ?_, ?_, ?_, ?_, ?_⟩
  · rw [hb]
    intro k ls h
    obtain ⟨cs, e, hc, hl⟩ := h1 k ls h
    exact ⟨cs, e, hc, hl.same hb hr⟩
  · rw [hr]; exact h2
  · rw [hr, ho]; exact h3
  · rw [hr, ho]; exact h4
  · rw [hb]; exact h5
  · rw [hb, hr]; exact h6
  · rw [hr]; exact h7
  · rw [ho]; exact h8

section
variable {w0 w w' : World} {Al : Blks} {N : Nat} {g g' : Gh} {σ σ' σ1 : St} {a : Act} {DR DB : List Nat} {nr : List (Nat × Row)} {nb : List (Nat × List L)} {kill : L → Bool}

theorem pairwise_del {α : Type} {xs : List (Nat × α)} (h : xs.Pairwise fun x y => x.1 ≠ y.1) (ns : List Nat) : (del ns xs).Pairwise fun x y => x.1 ≠ y.1 := h.sublist List.filter_sublist

theorem pairwise_set {α : Type} {xs : List (Nat × α)} (h : xs.Pairwise fun x y => x.1 ≠ y.1) (d : Nat) (x : α) : ((d, x) :: del [d] xs).Pairwise fun x y => x.1 ≠ y.1 := by
  refine List.pairwise_cons.2 ⟨fun y hy => ?_, pairwise_del h [d]⟩
  have := (List.mem_filter.1 hy).2
  simp at this
  exact fun e => this e.symm

/-- A slot turns, memory does not. -/
theorem Rel.put (r : Rel w0 Al N σ a w g) {d : Option Nat} (hd : ∀ t, d = some t → t < N) {c : Bool} {v : V} {x : Value} (hy : c = true → RepV w g σ v x) (hn : c = false → x = undef) : Rel w0 Al N (σ.set d c v) (a.put d x) w g := by
  cases d with
  | none =>
    exact r
  | some d =>
    have hlt : d < a.tmps.size := r.tsz ▸ hd d rfl
    have hs : ∀ t, (a.put (some d) x).tmps.getD t undef = if t = d then x else a.tmps.getD t undef := by
      intro t
      simp only [Act.put, Array.getD_eq_getD_getElem?, Array.getElem?_setIfInBounds]
      by_cases e : d = t
      · subst e; simp [hlt]
      · simp [e, Ne.symm e]
    refine ⟨⟨fun t c' v' h hc => ?_, fun t c' v' h hc => ?_⟩, pairwise_set r.unq d _, r.mem.same rfl rfl, ?_, r.frm, r.siz, r.os, r.tape, r.out, r.dfr, by simp [Act.put, r.tsz], fun x hx => ?_⟩
    · rw [hs]
      simp only [St.set, get] at h
      split at h
      · rename_i e
        simp only [Option.some.injEq, Prod.mk.injEq] at h
        obtain ⟨rfl, rfl⟩ := h
        rw [if_pos e]
        exact (hy hc).same rfl rfl
      · rename_i e
        rw [if_neg e]
        rw [get_del] at h
        split at h
        · cases h
        · exact (r.slots.yes t c' v' h hc).same rfl rfl
    · rw [hs]
      simp only [St.set, get] at h
      split at h
      · rename_i e
        simp only [Option.some.injEq, Prod.mk.injEq] at h
        obtain ⟨rfl, rfl⟩ := h
        rw [if_pos e]
        exact hn hc
      · rename_i e
        rw [if_neg e]
        rw [get_del] at h
        split at h
        · cases h
        · exact r.slots.no t c' v' h hc
    · rw [Owned.same (g := g) (σ' := σ.set (some d) c v) (σ := σ) rfl rfl]; exact r.own
    · obtain ⟨h1, h2, h3⟩ := r.sav x hx
      exact ⟨fun t c' v' h hc => (h1 t c' v' h hc).same rfl rfl, h2, h3⟩

/-- Memory turns. -/
theorem Rel.turn (r : Rel w0 Al N σ a w g) (n : NewIn w w' g g' σ σ1 DR DB nr nb kill) (hes : σ1.env = killE kill σ.env ∧ σ1.sav = killS kill σ.sav) (hos : w'.os = w.os) (ht : w'.tape = w.tape) (ho : w'.output = w.output) : Rel w0 Al N σ1 a w' g' := by
  obtain ⟨he, hv⟩ := hes
  refine ⟨⟨fun t c v h hc => ?_, fun t c v h hc => ?_⟩, ?_, n.mem r.mem, fun b h => ?_, fun b hb hA => ?_, Nat.le_trans r.siz n.siz, hos.trans r.os, ht.trans r.tape, ho.trans r.out, r.dfr, r.tsz, fun x hx => ?_⟩
  · rw [he] at h
    obtain ⟨h1, h2⟩ := get_killE kill _ _ _ h
    refine (r.slots.yes t c v (get_of_mem r.unq h1) hc).stays fun l hl => n.stays r.mem ?_
    have := List.any_eq_false.1 h2 l hl
    simpa using this
  · rw [he] at h
    exact r.slots.no t c v (get_of_mem r.unq (get_killE kill _ _ _ h).1) hc
  · rw [he]
    exact r.unq.sublist List.filter_sublist
  · rcases (n.owned r.mem h).1 with h | h
    · exact r.own b h
    · exact Or.inl (Nat.le_trans r.siz h)
  · rw [← r.frm b hb hA]
    refine n.old b (Nat.lt_of_lt_of_le hb r.siz) fun hp => ?_
    rcases r.own b (pool_owned hp) with h | h
    · omega
    · exact hA h
  · rw [hv] at hx
    obtain ⟨y, hy, rfl⟩ := List.mem_map.1 hx
    obtain ⟨h1, h2, h3⟩ := r.sav y hy
    refine ⟨fun t c v h hc => ?_, fun t c v h hc => ?_, h3.sublist List.filter_sublist⟩
    · obtain ⟨q1, q2⟩ := get_killE kill _ _ _ h
      refine (h1 t c v (get_of_mem h3 q1) hc).stays fun l hl => n.stays r.mem ?_
      have := List.any_eq_false.1 q2 l hl
      simpa using this
    · exact h2 t c v (get_of_mem h3 (get_killE kill _ _ _ h).1) hc

/-- A draw. -/
theorem Rel.drew (r : Rel w0 Al N σ a w g) : Rel w0 Al N σ a { w with drawn := w.drawn + 1 } g := by
  have hn : NewIn w { w with drawn := w.drawn + 1 } g g σ { σ with env := killE (fun _ => false) σ.env } [] [] [] [] (fun _ => false) := by
    refine ⟨by simp [del_nil], by simp [del_nil, killB_no], fun b _ _ => rfl, Nat.le_refl _, fun _ _ _ => ⟨rfl, rfl⟩, fun _ _ _ => rfl, ?_, ?_, ?_, ?_, ?_, ?_, ?_, ?_, ?_, ?_, ?_, ?_, ?_⟩ <;> intros <;> simp_all [get]
  have := r.turn hn ⟨rfl, (killS_no _).symm⟩ rfl rfl rfl
  rwa [killE_no] at this

/-- A new box. -/
theorem newBox_in (m : Mem w g σ) {k : Nat} (hk : get σ.box k = none) {cs : Array Value} {e : TypeId} {ls : List L} (hr : RepLs w g σ ls cs.toList) :
    NewIn w { w with heap := w.heap.push (.cells cs e) } g { g with bx := fun b => if b = k then w.heap.size else g.bx b } σ { σ with box := (k, ls) :: σ.box } [] [] [] [(k, ls)] (fun _ => false) := by
  have hold : ∀ b, b < w.heap.size → (w.heap.push (.cells cs e))[b]? = w.heap[b]? := fun b hb => by rw [Array.getElem?_push, if_neg (by omega)]
  refine ⟨by simp [del_nil], by simp [del_nil, killB_no], fun b hb _ => hold b hb, by simp, fun r _ _ => ⟨rfl, rfl⟩, fun b _ hb => ?_, ?_, ?_, ?_, ?_, ?_, ?_, ?_, ?_, ?_, ?_, ?_, ?_, ?_⟩
  · simp only
    rw [if_neg]
    intro e
    subst e
    rw [hk] at hb
    cases hb
  · intro k row h; simp [get] at h
  · intro k' ls' h
    simp only [get] at h
    split at h
    · rename_i e; subst e; exact Or.inr hk
    · cases h
  · intro k row h; simp [get] at h
  · intro k row h; simp [get] at h
  · intro k row h; simp [get] at h
  · intro k row b h; simp [get] at h
  · intro k' ls' h
    simp only [get] at h
    split at h
    · rename_i e; subst e; simp
    · cases h
  · intro r r' row row' b h; simp [get] at h
  · intro k ls r row _ h; simp [get] at h
  · intro k1 k2 l1 l2 h1 h2 _
    simp only [get] at h1 h2
    split at h1
    · split at h2
      · simp_all
      · cases h2
    · cases h1
  · intro k' ls' h
    simp only [get] at h
    split at h
    · rename_i e'
      simp only [Option.some.injEq] at h
      subst e'; subst h
      refine ⟨cs, e, by simp, ?_⟩
      refine hr.stays fun l hl => ⟨fun r p _ => ?_, fun b _ hb => ?_⟩
      · exact .of_same m (fun row h => h) (fun _ _ => rfl) (fun row h b _ _ hlt => hold b hlt)
      · refine ⟨?_, ?_⟩
        · simp only [get]; split
          · rfl
          · exact hb
        · simp only
          rw [if_neg]
          intro e
          subst e
          rw [hk] at hb
          cases hb
    · cases h
  · intro l _ r p _ _ h; simp at h
  · intro l _ b _ _ h; simp at h

end

end Go.Tw
