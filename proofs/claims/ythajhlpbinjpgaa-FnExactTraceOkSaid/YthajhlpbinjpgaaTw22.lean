/- The machine leaves what eff says. -/
import Derived.Test.YthajhlpbinjpgaaTw21
import Derived.Laws.MakeOwn
set_option linter.unusedSimpArgs false
set_option linter.unusedVariables false
namespace Go.Tw

section
variable {P : Program} {w0 w w' : World} {Al : Blks} {N : Nat} {g : Gh} {σ : St} {a : Act}

theorem kept_push (w : World) (o : Obj) : Kept w { w with heap := w.heap.push o } := fun b hb => by simp only; rw [Array.getElem?_push, if_neg (by omega)]

/-- What an operation that makes memory, and writes to none that was there. -/
def Op.grows : Op → Bool
  | .alloc _ | .box .. | .makeSlice .. | .buildSlice .. => true
  | _ => false

/-- What an operation leaves. -/
def Leaves (w : World) (k : Bool) (w0 : World) (Al : Blks) (N : Nat) (σ : St) (a : Act) (rv : Option V) (r : Result Next) : Prop :=
  ∃ n w' g', r = .ok n w' ∧ (k = true → Kept w w') ∧ Rel w0 Al N σ a w' g' ∧ match rv with
    | some v => ∃ x, n = .value x ∧ RepV w' g' σ v x
    | none => n = .skip

theorem madeCells_rep {z : Nat} {ts : List T} {zc : Array Value} (n : Nat) (hz : zc.size = z) (hl : ts.length = z) (hr : ∀ (j : Nat) (t : T) (v : Value), ts[j]? = some t → zc.toList[j]? = some v → Rep w true v t fun _ => False) :
    CellsRep w true z (List.replicate n ts) (madeCells zc (n * z)).toList fun _ _ _ => False := by
  refine ⟨by simp [madeCells], fun x hx => by rw [List.eq_of_mem_replicate hx]; exact hl, fun i j x c hx hc => ?_⟩
  have hi : i < n := by simpa using (List.getElem?_eq_some_iff.1 hx).1
  have hx' : x = ts := List.eq_of_mem_replicate (List.mem_of_getElem? hx)
  subst hx'
  have hj : j < z := hl ▸ (List.getElem?_eq_some_iff.1 hc).1
  have hlt := cell_lt hi hj
  have hmod : (i * z + j) % z = j := by rw [Nat.mul_comm, Nat.mul_add_mod]; exact Nat.mod_eq_of_lt hj
  have hjz : j < zc.size := by omega
  refine ⟨zc[j], ?_, hr j c _ hc (by simp [hjz])⟩
  simp only [madeCells, Array.toList_map, Array.toList_range, List.getElem?_map, List.getElem?_range hlt, Option.map_some, hz, hmod]
  simp [hjz]

theorem eff_alloc (R : Rel w0 Al N σ a w g) {nm : Nat} {t : TypeId} (hk : (tyOf P t).known = true) (hnm : get σ.box nm = none) :
    Leaves w true w0 Al N { σ with box := (nm, (tyOf P t).ze) :: σ.box } a (some (.l (.ptr nm 0))) (((do pure (Next.value (← Instr.alloc t true (.tuple #[])))) : Sem Next).run P w) := by
  obtain ⟨i, z, hi, hz, hr, hs⟩ := ze_rep (w := w) (g := g) (σ := σ) hk
  obtain ⟨g', h1, h2⟩ := rel_newBox R hnm (e := t) hr
  refine ⟨_, _, g', ?_, fun _ => kept_push w _, h1, _, rfl, h2⟩
  simp only [Instr.alloc, Sem.run_bind, zeroValue, typeInfo, run_program, Result.andThen_ok, hi, hz, Sem.run_pure, newVar, newRow, run_newObj]

theorem eff_box (R : Rel w0 Al N σ a w g) {nm : Nat} {t : TypeId} {x : Operand} {v : V} {ls : List L} {c : Bool} (hx : evO σ x = some (c, v)) (hc : c = true) (hv : v.cells = some ls) (hnm : get σ.box nm = none) :
    Leaves w true w0 Al N { σ with box := (nm, ls) :: σ.box } a (some (.l (.ptr nm 0))) (((do pure (Next.value (← Instr.box t (a.eval x)))) : Sem Next).run P w) := by
  obtain ⟨g', h1, h2⟩ := rel_newBox R hnm (e := t) (cs := (a.eval x).cells) (RepV.cells (evO_rep R.slots hx hc) hv)
  refine ⟨_, _, g', ?_, fun _ => kept_push w _, h1, _, rfl, h2⟩
  simp only [Instr.box, Sem.run_bind, Result.andThen_ok, Sem.run_pure, newVar, newRow, run_newObj]

theorem eff_make (R : Rel w0 Al N σ a w g) {nm : Nat} {t e : TypeId} (hu : (tyOf P t).u = .sl e) {l c : Operand} {c1 c2 : Bool} {k1 k2 : IntKind} {n n' : Int} (hl : evO σ l = some (c1, .l (.t (.int k1 n)))) (hc : evO σ c = some (c2, .l (.t (.int k2 n'))))
    {q : Prop} {ts : List T} (hts : takeLs σ (tyOf P e).cz (tyOf P e).ze = some (q, ts, [])) (hq : q) (h1 : c1 = true) (h2 : c2 = true) (hn : n = n') (hb : 0 ≤ n ∧ n ≤ 9223372036854775807 ∧ n * (tyOf P e).by_ ≤ 281474976710656)
    (hk : (tyOf P e).known = true) (hz : (tyOf P e).cz.length = (tyOf P e).sz) (hnm : get σ.row nm = none) :
    Leaves w true w0 Al N (σ.swap (fun _ => false) [] nm ⟨.own, (tyOf P e).sz, List.replicate n.toNat ts⟩) a (some (.l (.ref nm [] (tyOf P e).sz 0 n.toNat))) (((do pure (Next.value (← Instr.makeSlice t (a.eval l) (a.eval c)))) : Sem Next).run P w) := by
  subst hn
  obtain ⟨i, z, hi, hzv, hze, hsz, hby, _, hzs⟩ := info_of_known' hk
  obtain ⟨i', z', hi', hzv', hr, hs⟩ := ze_rep (w := w) (g := g) (σ := σ) hk
  rw [hi] at hi'
  cases hi'
  rw [hzv] at hzv'
  cases hzv'
  have e1 := rep_int (g := g) (σ := σ) (evO_rep R.slots hl h1)
  have e2 := rep_int (g := g) (σ := σ) (evO_rep R.slots hc h2)
  have hrun := run_make (P := P) w t e i z (u_sl hu) hi hzv k1 k2 n n hb.1 (Int.le_refl n) (by rw [hby] at hb; rw [Int.mul_comm]; exact hb.2.2) hb.2.1
  obtain ⟨tl, _, f, r1, s1, d1⟩ := takeLs_rep R.mem hts hq hr
  obtain ⟨t1, t2⟩ := takeLs_len hts
  have hcells := madeCells_rep (w := w) (ts := ts) (zc := z.cells) n.toNat hs (by rw [t1, hz]) (fun j t v h1 h2 => by
    have := r1 j t v h1 h2
    exact this.mono fun b hb => by obtain ⟨r, row, hr, _⟩ := s1 j b hb; simp at hr)
  obtain ⟨g', h3, h4⟩ := fresh_own R (e := e) (rs := []) hcells (fun _ _ _ h => h.elim) (fun _ _ _ _ _ h => h.elim) hnm
  have hkill : hits [] = fun _ => false := by funext l; unfold hits; cases l.rowOf <;> simp
  rw [hkill] at h3 h4
  rw [List.length_replicate] at h4
  refine ⟨_, _, g', ?_, fun _ => kept_push w _, h3, _, rfl, h4⟩
  rw [← hsz] at hrun
  simp only [Sem.run_bind, e1, e2, hrun, Result.andThen_ok, Sem.run_pure]
  rfl

theorem eff_lit_nil (R : Rel w0 Al N σ a w g) {t e : TypeId} (hu : (tyOf P t).u = .sl e) (hk : (tyOf P e).known = true) {parts : Array (Nat × Operand)} {c : Prop} (hp : partsL σ 0 parts.toList = some (c, [])) :
    Leaves w true w0 Al N σ a (some (.l .nil)) (((do pure (Next.value (← Instr.buildSlice t 0 (parts.map fun q => (q.1, a.eval q.2))))) : Sem Next).run P w) := by
  have hpe : parts = #[] := by
    cases parts with
    | mk l =>
      cases l with
      | nil => rfl
      | cons q r =>
        simp only [partsL] at hp
        split at hp
        · split at hp <;> simp at hp
        · cases hp
  subst hpe
  obtain ⟨cs, q1, q2⟩ := build_cells (P := P) (w := w) (g := g) (σ := σ) (a := a) hu hk (n := 0) (parts := #[]) (lss := []) (vals := []) .nil (by simp) rfl (by simp) (by omega)
  refine ⟨_, _, g, ?_, fun _ => kept_push w _, rel_push R (.cells cs e), _, rfl, some ⟨w.heap.size, 0, none⟩, rfl⟩
  simp only [Sem.run_bind, q2, Result.andThen_ok, Sem.run_pure]

theorem eff_lit_own (R : Rel w0 Al N σ a w g) {nm : Nat} {t e : TypeId} (hu : (tyOf P t).u = .sl e) (hk : (tyOf P e).known = true) {n : Nat} {parts : Array (Nat × Operand)} {c c' : Prop} {lss : List (List L)} {es : Els} {rs : List Nat}
    (hp : partsL σ 0 parts.toList = some (c, lss)) (hc : c) (ht : takeLss σ (tyOf P e).cz lss = some (c', es, rs)) (hc' : c') (hn : n = lss.length) (hz : (tyOf P e).cz.length = (tyOf P e).sz) (hb : n * (tyOf P e).sz ≤ 16777216) (hnm : get σ.row nm = none) :
    Leaves w true w0 Al N (σ.swap (hits rs) rs nm ⟨.own, (tyOf P e).sz, es⟩) a (some (.l (.ref nm [] (tyOf P e).sz 0 es.length))) (((do pure (Next.value (← Instr.buildSlice t n (parts.map fun q => (q.1, a.eval q.2))))) : Sem Next).run P w) := by
  obtain ⟨⟨vals, hr⟩, hi⟩ := partsL_rows R.slots parts.toList 0 c lss hp hc
  obtain ⟨el, f, h1, h2, h3⟩ := takeLss_rep R.mem ht hc' hr
  have hl : ∀ ls ∈ lss, ls.length = (tyOf P e).sz := by
    intro ls hls
    have : ∀ (lss : List (List L)) (c : Prop) (es : Els) (rs : List Nat), takeLss σ (tyOf P e).cz lss = some (c, es, rs) → ∀ ls ∈ lss, ls.length = (tyOf P e).cz.length := by
      intro lss
      induction lss with
      | nil => simp
      | cons x xs ih =>
        intro c es rs h ls hls
        simp only [takeLss] at h
        split at h
        · rename_i h1 h2
          rcases List.mem_cons.1 hls with rfl | hls
          · exact (takeLs_len h1).2
          · exact ih _ _ _ h2 ls hls
        · cases h
    rw [this lss _ _ _ ht ls hls, hz]
  obtain ⟨cs, q1, q2⟩ := build_cells (P := P) hu hk hr hi hn hl hb
  rw [hz, ← q1] at h1
  obtain ⟨g', h4, h5⟩ := fresh_own R (e := e) (rs := rs) h1 h2 h3 hnm
  have hes : es.length = n := by rw [el, hn]
  refine ⟨_, _, g', ?_, fun _ => kept_push w _, h4, _, rfl, h5⟩
  simp only [Sem.run_bind, q2, Result.andThen_ok, Sem.run_pure, hes]

theorem RowsFp.ro {rs : List Nat} {b : Nat} (m : Mem w g σ) (h : RowsFp g σ rs b ∨ ¬ Owned g σ b) : ¬ Owned g (σ.freeze rs) b := by
  intro ho
  rcases ho with ⟨k', ls, h1, h2⟩ | ⟨r, row', h1, h2, h3⟩
  · rcases h with ⟨r, row, _, h4, h5, h6⟩ | h
    · subst h2; exact m.br k' ls r row h1 h4 h5 h6
    · exact h (Or.inl ⟨k', ls, h1, h2⟩)
  · simp only [St.freeze, get_append, get_frz, get_del] at h1
    by_cases hr : r ∈ rs
    · simp only [hr, if_true] at h1
      cases hg : get σ.row r with
      | none => simp [hg] at h1
      | some row0 =>
        simp only [hg, Option.map_some, Option.some.injEq] at h1
        subst h1
        exact absurd rfl h2
    · simp only [hr, if_false] at h1
      rcases h with ⟨r2, row2, h4, h5, h6, h7⟩ | h
      · exact hr (m.rr r r2 row' row2 b h1 h5 h2 h6 h3 h7 ▸ h4)
      · exact h (Or.inr ⟨r, row', h1, h2, h3⟩)

theorem rel_freeze (R : Rel w0 Al N σ a w g) (rs : List Nat) : Rel w0 Al N (σ.freeze rs) a w g := by
  have := R.turn (freeze_in R.mem rs) (σ1 := σ.freeze rs) ⟨by rw [killE_no]; rfl, (killS_no _).symm⟩ rfl rfl rfl
  exact this

theorem freeze_none {rs : List Nat} {k : Nat} (h : get σ.row k = none) : get (σ.freeze rs).row k = none := by
  simp [St.freeze, get_append, get_frz, get_del, h]

theorem eff_lit_top (R : Rel w0 Al N σ a w g) {nm : Nat} {t e : TypeId} (hu : (tyOf P t).u = .sl e) (hk : (tyOf P e).known = true) {n : Nat} {parts : Array (Nat × Operand)} {c c' : Prop} {lss : List (List L)} {es : Els} {rs : List Nat}
    (hp : partsL σ 0 parts.toList = some (c, lss)) (hc : c) (ht : shareLss σ (tyOf P e).cz lss = some (c', es, rs)) (hc' : c') (hn : n = lss.length) (hz : (tyOf P e).cz.length = (tyOf P e).sz) (hb : n * (tyOf P e).sz ≤ 16777216) (hnm : get σ.row nm = none) :
    Leaves w true w0 Al N ((σ.freeze rs).swap (fun _ => false) [] nm ⟨.top, (tyOf P e).sz, es⟩) a (some (.l (.ref nm [] (tyOf P e).sz 0 es.length))) (((do pure (Next.value (← Instr.buildSlice t n (parts.map fun q => (q.1, a.eval q.2))))) : Sem Next).run P w) := by
  obtain ⟨⟨vals, hr⟩, hi⟩ := partsL_rows R.slots parts.toList 0 c lss hp hc
  obtain ⟨el, h1⟩ := shareLss_rep R.mem ht hc' hr
  have hl : ∀ ls ∈ lss, ls.length = (tyOf P e).sz := by
    intro ls hls
    have : ∀ (lss : List (List L)) (c : Prop) (es : Els) (rs : List Nat), shareLss σ (tyOf P e).cz lss = some (c, es, rs) → ∀ ls ∈ lss, ls.length = (tyOf P e).cz.length := by
      intro lss
      induction lss with
      | nil => simp
      | cons x xs ih =>
        intro c es rs h ls hls
        simp only [shareLss] at h
        split at h
        · rename_i h1 h2
          rcases List.mem_cons.1 hls with rfl | hls
          · exact (shareLs_len h1).2
          · exact ih _ _ _ h2 ls hls
        · cases h
    rw [this lss _ _ _ ht ls hls, hz]
  obtain ⟨cs, q1, q2⟩ := build_cells (P := P) hu hk hr hi hn hl hb
  rw [hz, ← q1] at h1
  obtain ⟨g', h4, h5⟩ := fresh_top (rel_freeze R rs) (e := e) (h1.mono fun i j v c h => h.mono fun b hb => RowsFp.ro R.mem hb) (freeze_none hnm)
  have hes : es.length = n := by rw [el, hn]
  refine ⟨_, _, g', ?_, fun _ => kept_push w _, h4, _, rfl, h5⟩
  simp only [Sem.run_bind, q2, Result.andThen_ok, Sem.run_pure, hes]

end

end Go.Tw
