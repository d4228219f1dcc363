/- A store, of a state: the steps. -/
import Derived.Test.YthajhlpbinjpgaaTw18
set_option linter.unusedSimpArgs false
set_option linter.unusedVariables false
namespace Go.Tw

def T.els : T → Els
  | .sl _ es => es
  | _ => []

theorem T.put_sl {z0 : Nat} {es0 : Els} : ∀ {p : Path} {z : Nat} {es n : Els}, (T.sl z0 es0).at? p = some (.sl z es) → (T.sl z0 es0).put p (.sl z n) = .sl z0 ((T.sl z0 es0).put p (.sl z n)).els
  | [], z, es, n, h => by
    simp only [T.at?, Option.some.injEq, T.sl.injEq] at h
    simp [T.put, T.els, h.1]
  | (i, j) :: p, z, es, n, h => by
    simp only [T.at?] at h
    split at h
    · rename_i x hx
      split at h
      · rename_i c hc
        simp [T.put, hx, hc, T.els]
      · cases h
    · cases h

/-- What a store into an element makes stale. -/
def killSt (rs : List Nat) (r : Nat) (p : Path) (l : L) : Bool := hits rs l || match l.rowOf with
  | some (r', q) => r' == r && thru p q
  | none => false

/-- A row with an element's cells turned. -/
def Row.store (row : Row) (p : Path) (z : Nat) (es : Els) (i j : Nat) (x : List T) (ts : List T) : Row :=
  { row with es := (row.t.put p (.sl z (es.set i (patchT x j ts)))).els }

section
variable {P : Program} {w0 w w' : World} {Al : Blks} {N : Nat} {g : Gh} {σ : St} {a : Act}

theorem upd_same {α : Type} (f : Nat → α) (k : Nat) : upd f k (f k) = f := by
  funext n
  unfold upd
  split
  · rename_i e; rw [e]
  · rfl

theorem store_own (R : Rel w0 Al N σ a w g) {t : TypeId} (hk : (P.info? t).isSome) {r : Nat} {p : Path} {i j : Nat} {row : Row} (hrow : get σ.row r = some row) (hpm : row.pm = .own) {z : Nat} {es : Els} (hn : row.t.at? p = some (.sl z es))
    {x : List T} (hx : es[i]? = some x) {ad v : Value} {d : Nat} (had : RepL w g σ (.ept r p i j d) ad) {xs : List L} {zs : List Nat} {ts : List T} {rs : List Nat} {c : Prop} (hts : takeLs σ zs xs = some (c, ts, rs)) (hc : c)
    (hv : RepLs w g σ xs v.cells.toList) (hsz : xs.length = P.cellsOf t) (hj : j + ts.length ≤ x.length) (hr : r ∉ rs) :
    ∃ w' g', (Instr.storeAt t ad v).run P w = .ok () w' ∧ Rel w0 Al N (σ.swap (killSt rs r p) (r :: rs) r (row.store p z es i j x ts)) a w' g' := by
  have mem := R.mem
  obtain ⟨row1, z1, es1, a1, n, cap, e1, e2, e3, e4, e5, rfl⟩ := had
  rw [hrow] at e1
  cases e1
  rw [hn] at e2
  cases e2
  obtain ⟨tlen, towns, fn, hfn, hsub, hdis⟩ := takeLs_rep mem hts hc hv
  have hvl := hv.length
  obtain ⟨u, G, hu, hru, hGF, hcont⟩ := (mem.own r row hrow hpm).focus hn
  rw [e3] at hu
  cases hu
  have hfnF : ∀ k b, fn k b → ¬ g.fp r b := fun k b hb hb' => RowsFp.dis mem (rs := [r]) (rs' := rs) (by simpa using hr) ⟨r, row, by simp, hrow, by simp [hpm], hb'⟩ (hsub k b hb)
  obtain ⟨ad', cs, e, q1, q2, q3, q4, q5, q6⟩ := node_store hru hx (ts := ts) (vs := v.cells.toList) (by rw [← hvl, ← tlen]) hj hfn hdis fun k b hb hb' => hfnF k b hb (hGF b hb')
  cases q1
  have hrun := run_storeVar' (P := P) (w := w) hk (b := a1.block) (o := a1.off + i * z + j) (v := v) q3 (by rw [← hsz, hvl]; simp) (by simpa using q4) (fun y hy => by
    obtain ⟨k, hk'⟩ := List.getElem?_of_mem hy
    have hlt : k < xs.length := by rw [hvl]; exact (List.getElem?_eq_some_iff.1 hk').1
    obtain ⟨y', hy', hyr⟩ := hv.nth (List.getElem?_eq_getElem hlt)
    rw [hk'] at hy'
    cases hy'
    exact hyr.one)
  have hold : ∀ b, b ≠ a1.block → (World.seg w a1.block (a1.off + i * z + j) cs v.cells.toList).heap[b]? = w.heap[b]? := fun b hb => seg_ne hb
  obtain ⟨c1, c2, c3⟩ := hcont _ _ _ (fun b hF hG => hold b fun e => hG (e ▸ q5)) q6 (fun b hb => hb.imp id fun ⟨k, hk⟩ => hfnF k b hk)
  have hput := T.put_sl (n := es.set i (patchT x j ts)) hn
  let F' : Blks := fun b => (g.fp r b ∧ ¬ G b) ∨ G b ∨ ∃ k, fn k b
  have hin := swap_in (w' := World.seg w a1.block (a1.off + i * z + j) cs v.cells.toList) mem (kill := killSt rs r p) (rs := r :: rs) (k := r) (row := row.store p z es i j x ts) (hv := g.rw r) (F := F') (N := fun _ => False) (Or.inl (by simp))
    (by simp [Row.store, hpm]) (fun _ => ?_) (fun h => by simp [Row.store, hpm] at h) (fun b h => h.elim) (fun b hb => ?_) (fun b hb hp => hold b fun e => hp ⟨r, row, by simp, hrow, by simp [hpm], e ▸ hGF _ q5⟩) (by rw [seg_size]; exact Nat.le_refl _)
    (fun l hl r' q hq hs hm => ?_)
  · exact ⟨_, _, by simp only [Instr.storeAt, Instr.sureAddr, Sem.run_bind, Sem.run_pure, Result.andThen_ok, hrun], R.turn hin ⟨rfl, rfl⟩ rfl rfl rfl⟩
  · show Rep _ true (g.rw r) (.sl row.z _) _
    simp only [Row.store]
    rw [← hput]
    exact c1
  · refine ⟨Or.inl ?_, ?_⟩
    · rcases hb with ⟨hb, _⟩ | hb | ⟨k, hb⟩
      · exact ⟨r, row, by simp, hrow, by simp [hpm], hb⟩
      · exact ⟨r, row, by simp, hrow, by simp [hpm], hGF b hb⟩
      · obtain ⟨r2, row2, h1, h2⟩ := hsub k b hb
        exact ⟨r2, row2, by simp [h1], h2⟩
    · rw [seg_size]
      rcases hb with ⟨hb, _⟩ | hb | ⟨k, hb⟩
      · exact mem.lt b (Or.inr ⟨r, row, hrow, by simp [hpm], hb⟩)
      · exact mem.lt b (Or.inr ⟨r, row, hrow, by simp [hpm], hGF b hb⟩)
      · exact RowsFp.lt mem (hsub k b hb)
  · unfold killSt hits at hl
    rw [hq] at hl
    simp only [Bool.or_eq_false_iff, Bool.and_eq_false_iff, List.contains_eq_mem, decide_eq_false_iff_not] at hl
    rcases List.mem_cons.1 hm with rfl | hm
    · have hth : thru p q = false := by
        rcases hl.2 with h | h
        · simp at h
        · exact h
      intro row2 hrow2
      rw [hrow] at hrow2
      cases hrow2
      refine ⟨row.store p z es i j x ts, by simp [St.swap, get], by simp [Gh.row, upd_self], fun z2 es2 u2 h1 h2 => ?_⟩
      obtain ⟨eq', d1, d2, d3⟩ := c3 q hth ⟨z, es, _, rfl, rfl⟩ z2 es2 h1
      refine ⟨eq', ?_, d2, ?_⟩
      · show (T.sl row.z _).at? q = _
        simp only [Row.store]
        rw [← hput]
        exact d1
      · show valAt _ _ (T.sl row.z _) q = _
        simp only [Row.store, Gh.row, upd_self]
        rw [← hput, d3]
        exact h2
    · exact absurd hm hl.1

theorem store_top (R : Rel w0 Al N σ a w g) {t : TypeId} (hk : (P.info? t).isSome) {r : Nat} {i j : Nat} {row : Row} (hrow : get σ.row r = some row) (hpm : row.pm = .top)
    {x : List T} (hx : row.es[i]? = some x) {ad v : Value} {d : Nat} (had : RepL w g σ (.ept r [] i j d) ad) {xs : List L} {ts : List T} (tlen : ts.length = xs.length)
    (hts : ∀ (k : Nat) (t : T) (y : Value), ts[k]? = some t → v.cells.toList[k]? = some y → Rep w false y t fun b => ¬ Owned g σ b)
    (hv : RepLs w g σ xs v.cells.toList) (hsz : xs.length = P.cellsOf t) (hj : j + ts.length ≤ x.length) :
    ∃ w' g', (Instr.storeAt t ad v).run P w = .ok () w' ∧ Rel w0 Al N (σ.swap (killSt [] r []) [r] r (row.store [] row.z row.es i j x ts)) a w' g' := by
  have mem := R.mem
  obtain ⟨row1, z1, es1, a1, n, cap, e1, e2, e3, e4, e5, rfl⟩ := had
  rw [hrow] at e1
  cases e1
  simp only [T.at?, Option.some.injEq, T.sl.injEq, valAt] at e2 e3
  obtain ⟨rfl, rfl⟩ := e2
  have hvl := hv.length
  have htop := mem.top r row hrow hpm
  rw [e3] at htop
  -- what is not owned, of what is there
  let K : Blks := fun b => b < w.heap.size ∧ ¬ Owned g σ b
  have toK : ∀ {v : Value} {c : T}, Rep w false v c (fun b => ¬ Owned g σ b) → Rep w false v c K := fun h => by
    obtain ⟨G, hG, hs, hlt⟩ := h.lt
    exact hG.mono fun b hb => ⟨hlt b hb, hs b hb⟩
  have htop' : RepTop w (.slice (some a1) n cap) row.z row.es (g.fp r) K := by
    rcases htop with h | ⟨b1, cap1, cs1, h1, h2, h3, h4⟩
    · exact Or.inl h
    · exact Or.inr ⟨b1, cap1, cs1, h1, h2, h3, fun i j x c hx hc => toK (h4 i j x c hx hc)⟩
  obtain ⟨ad', cs, e, q1, q2, q3, q4, q5, q6⟩ := top_store htop' hx (ts := ts) (vs := v.cells.toList) (by rw [← hvl, ← tlen]) hj (fun k t y h1 h2 => toK (hts k t y h1 h2)) fun b hb hk => hk.2 (Or.inr ⟨r, row, hrow, by simp [hpm], hb⟩)
  cases q1
  have hrun := run_storeVar' (P := P) (w := w) hk (b := a1.block) (o := a1.off + i * row.z + j) (v := v) q3 (by rw [← hsz, hvl]; simp) (by simpa using q4) (fun y hy => by
    obtain ⟨k, hk'⟩ := List.getElem?_of_mem hy
    have hlt : k < xs.length := by rw [hvl]; exact (List.getElem?_eq_some_iff.1 hk').1
    obtain ⟨y', hy', hyr⟩ := hv.nth (List.getElem?_eq_getElem hlt)
    rw [hk'] at hy'
    cases hy'
    exact hyr.one)
  have hold : ∀ b, b ≠ a1.block → (World.seg w a1.block (a1.off + i * row.z + j) cs v.cells.toList).heap[b]? = w.heap[b]? := fun b hb => seg_ne hb
  have hin := swap_in (w' := World.seg w a1.block (a1.off + i * row.z + j) cs v.cells.toList) mem (kill := killSt [] r []) (rs := [r]) (k := r) (row := row.store [] row.z row.es i j x ts) (hv := g.rw r) (F := g.fp r) (N := K) (Or.inl (by simp))
    (by simp [Row.store, hpm]) (fun h => by simp [Row.store, hpm] at h) (fun _ => by rw [e3]; exact q6) (fun b hb => ⟨hb.1, Or.inl hb.2, fun h => hb.2 (Or.inr ⟨r, row, hrow, by simp [hpm], h⟩)⟩)
    (fun b hb => ⟨Or.inl ⟨r, row, by simp, hrow, by simp [hpm], hb⟩, by rw [seg_size]; exact mem.lt b (Or.inr ⟨r, row, hrow, by simp [hpm], hb⟩)⟩)
    (fun b hb hp => hold b fun e => hp ⟨r, row, by simp, hrow, by simp [hpm], e ▸ q5⟩) (by rw [seg_size]; exact Nat.le_refl _) (fun l hl r' q hq hs hm => ?_)
  · exact ⟨_, _, by simp only [Instr.storeAt, Instr.sureAddr, Sem.run_bind, Sem.run_pure, Result.andThen_ok, hrun], R.turn hin ⟨rfl, rfl⟩ rfl rfl rfl⟩
  · unfold killSt hits at hl
    rw [hq] at hl
    simp only [Bool.or_eq_false_iff, Bool.and_eq_false_iff] at hl
    simp only [List.mem_singleton] at hm
    subst hm
    have hth : thru [] q = false := by
      rcases hl.2 with h | h
      · simp at h
      · exact h
    have hq0 : q = [] := by
      cases q with
      | nil => rfl
      | cons c q => simp [thru] at hth
    subst hq0
    intro row2 hrow2
    rw [hrow] at hrow2
    cases hrow2
    refine ⟨row.store [] row.z row.es i j x ts, by simp [St.swap, get], by simp [Gh.row, upd_self], fun z2 es2 u2 h1 h2 => ?_⟩
    simp only [T.at?, Option.some.injEq, T.sl.injEq, valAt] at h1 h2
    obtain ⟨rfl, rfl⟩ := h1
    exact ⟨row.es.set i (patchT x j ts), by simp [T.at?, Row.store, T.put, T.els], by simp, by simp [valAt, Gh.row, upd_self, h2]⟩

theorem store_box (R : Rel w0 Al N σ a w g) {t : TypeId} (hk : (P.info? t).isSome) {k j : Nat} {ls : List L} (hb : get σ.box k = some ls) {ad v : Value} (had : RepL w g σ (.ptr k j) ad) {xs : List L}
    (hv : RepLs w g σ xs v.cells.toList) (hsz : xs.length = P.cellsOf t) (hj : j + xs.length ≤ ls.length) :
    ∃ w', (Instr.storeAt t ad v).run P w = .ok () w' ∧ Rel w0 Al N { σ with box := (k, patch ls j xs) :: del [k] σ.box } a w' g := by
  have mem := R.mem
  obtain ⟨_, rfl⟩ := had
  obtain ⟨cs, e, hcs, hr⟩ := mem.box k ls hb
  have hvl := hv.length
  have hlv := hr.length
  have hfit : j + v.cells.toList.length ≤ cs.size := by simp at hlv ⊢; simp at hvl; omega
  have hrun := run_storeVar' (P := P) (w := w) hk (b := g.bx k) (o := j) (v := v) hcs (by rw [← hsz, hvl]; simp) (by simpa using hfit) (fun y hy => by
    obtain ⟨q, hk'⟩ := List.getElem?_of_mem hy
    have hlt : q < xs.length := by rw [hvl]; exact (List.getElem?_eq_some_iff.1 hk').1
    obtain ⟨y', hy', hyr⟩ := hv.nth (List.getElem?_eq_getElem hlt)
    rw [hk'] at hy'
    cases hy'
    exact hyr.one)
  have hold : ∀ b, b ≠ g.bx k → (World.seg w (g.bx k) j cs v.cells.toList).heap[b]? = w.heap[b]? := fun b hb => seg_ne hb
  have hst : ∀ l, StaysL w (World.seg w (g.bx k) j cs v.cells.toList) g g σ { σ with box := (k, patch ls j xs) :: del [k] σ.box } l := by
    intro l
    refine ⟨fun r p _ => .of_same mem (fun row h => h) (fun _ _ => rfl) (fun row h b h1 h2 _ => hold b fun e => ?_), fun b _ hs => ⟨?_, rfl⟩⟩
    · subst e
      by_cases hp : row.pm = .ro
      · exact h2 hp (Or.inl ⟨k, ls, hb, rfl⟩)
      · rcases h1 hp with h1 | ⟨_, h1⟩
        · exact mem.br k ls r row hb h hp h1
        · exact h1 (Or.inl ⟨k, ls, hb, rfl⟩)
    · simp only [get]
      split
      · rfl
      · rename_i hne
        rw [get_del]
        simpa [hne] using hs
  have hin : NewIn w (World.seg w (g.bx k) j cs v.cells.toList) g g σ { σ with box := (k, patch ls j xs) :: del [k] σ.box } [] [k] [] [(k, patch ls j xs)] (fun _ => false) := by
    refine ⟨by simp [del_nil], by simp [killB_no], fun b hlt hp => hold b fun e => hp (Or.inr ⟨k, ls, by simp, hb, e.symm⟩), by rw [seg_size]; exact Nat.le_refl _, fun r _ _ => ⟨rfl, rfl⟩, fun b _ _ => rfl, ?_, ?_, ?_, ?_, ?_, ?_, ?_, ?_, ?_, ?_, ?_, ?_, ?_⟩
    · intro k row h; simp [get] at h
    · intro k' ls' h; exact Or.inl (by simp [(get_one h).1])
    · intro k row h; simp [get] at h
    · intro k row h; simp [get] at h
    · intro k row h; simp [get] at h
    · intro k row b h; simp [get] at h
    · intro k' ls' h
      obtain ⟨rfl, _⟩ := get_one h
      exact ⟨Or.inl (Or.inr ⟨k', ls, by simp, hb, rfl⟩), by rw [seg_size]; exact mem.lt _ (Or.inl ⟨k', ls, hb, rfl⟩)⟩
    · intro r r' row row' b h; simp [get] at h
    · intro k ls r row _ h; simp [get] at h
    · intro k1 k2 l1 l2 h1 h2 _; exact (get_one h1).1.trans (get_one h2).1.symm
    · intro k' ls' h
      obtain ⟨rfl, rfl⟩ := get_one h
      refine ⟨_, e, seg_self hcs, ?_⟩
      simp only []
      exact (RepLs.patch hr hv hj).stays fun l _ => hst l
    · intro l _ r p _ _ h; simp at h
    · intro l _ b _ hs h
      simp only [List.mem_singleton] at h
      subst h
      exact ⟨by simp [get], rfl⟩
  refine ⟨World.seg w (g.bx k) j cs v.cells.toList, by simp only [Instr.storeAt, Instr.sureAddr, Sem.run_bind, Sem.run_pure, Result.andThen_ok, hrun], ?_⟩
  exact R.turn (σ1 := { σ with box := (k, patch ls j xs) :: del [k] σ.box }) hin ⟨by rw [killE_no], (killS_no _).symm⟩ rfl rfl rfl

end

end Go.Tw
