/- An operation that makes no memory and turns none: what it answers of a state, and that the machine answers so. -/
import Derived.Test.YthajhlpbinjpgaaTw3
import Derived.Laws.Entries
import Derived.Laws.Slices
set_option linter.unusedSimpArgs false
set_option linter.unusedVariables false
namespace Go.Tw

theorem info_of_known' {P : Program} {t : TypeId} (h : (tyOf P t).known = true) : ∃ i z, P.info? t = some i ∧ i.zero = some z ∧ (tyOf P t).ze = z.cells.toList.map zeroLeaf ∧ (tyOf P t).sz = i.size ∧ (tyOf P t).by_ = i.bytes ∧ (∀ v ∈ z.cells.toList, v.oneCell' = true) ∧ z.cells.size = i.size := by
  simp only [tyOf, Option.any_eq_true, Bool.and_eq_true, beq_iff_eq] at h
  obtain ⟨z, hz, hall, hs⟩ := h
  simp only [Option.bind_eq_some_iff] at hz
  obtain ⟨i, hi, hz⟩ := hz
  exact ⟨i, z, hi, hz, by simp [tyOf, zeL, hi, hz], by simp [tyOf, Program.cellsOf, hi], by simp [tyOf, Program.bytesOf, hi], List.all_eq_true.1 hall, by simpa [Program.cellsOf, hi] using hs⟩

theorem info_of_known {P : Program} {t : TypeId} (h : (tyOf P t).known = true) : ∃ i z, P.info? t = some i ∧ i.zero = some z ∧ (tyOf P t).ze = z.cells.toList.map zeroLeaf ∧ (tyOf P t).sz = i.size ∧ (tyOf P t).by_ = i.bytes ∧ ∀ v ∈ z.cells.toList, v.oneCell' = true := by
  obtain ⟨i, z, h1, h2, h3, h4, h5, h6, _⟩ := info_of_known' h
  exact ⟨i, z, h1, h2, h3, h4, h5, h6⟩

section
variable {P : Program} {w : World}

theorem run_sizeOf' {t : TypeId} (h : (tyOf P t).known = true) : (sizeOf t).run P w = .ok (tyOf P t).sz w := by
  obtain ⟨i, z, hi, hz, _, hs, _⟩ := info_of_known h
  simp [sizeOf, typeInfo, hi, hs]

theorem run_isAgg' {t : TypeId} (h : (P.underlying t).isSome) : (isAgg t).run P w = .ok (isAggD (P.underlying t)) w := by
  obtain ⟨d, hd⟩ := Option.isSome_iff_exists.1 h
  simp only [isAgg, Sem.run_bind, run_underlying hd, Result.andThen_ok, hd]
  cases d <;> rfl

theorem u_agg {t : TypeId} : aggU (tyOf P t).u = isAggD (P.underlying t) := by
  simp only [tyOf, uOf]
  cases hd : P.underlying t with
  | none => rfl
  | some d => cases d <;> rfl

theorem u_sl {t e : TypeId} (h : (tyOf P t).u = .sl e) : P.underlying t = some (.slice e) := by
  simp only [tyOf, uOf] at h
  split at h <;> simp_all

theorem u_str {t : TypeId} (h : (tyOf P t).u = .str) : P.underlying t = some .string := by
  simp only [tyOf, uOf] at h
  split at h <;> simp_all

theorem u_int {t : TypeId} {k : IntKind} (h : (tyOf P t).u = .int k) : P.underlying t = some (.int k) := by
  simp only [tyOf, uOf] at h
  split at h <;> simp_all

theorem u_bool {t : TypeId} (h : (tyOf P t).u = .bool) : P.underlying t = some .bool := by
  simp only [tyOf, uOf] at h
  split at h <;> simp_all

theorem u_arr {t e : TypeId} {n : Nat} (h : (tyOf P t).u = .arr n e) : P.underlying t = some (.array n e) := by
  simp only [tyOf, uOf] at h
  split at h <;> simp_all

theorem u_st {t : TypeId} {fs : List (Nat × Nat × Bool)} (h : (tyOf P t).u = .st fs) : ∃ gs, P.underlying t = some (.struct gs) ∧ fs = gs.toList.map fun f => (f.offset, P.cellsOf f.type, isAggD (P.underlying f.type)) := by
  simp only [tyOf, uOf] at h
  split at h <;> simp_all

theorem u_some {t : TypeId} (h : (match (tyOf P t).u with | .other => false | _ => true) = true) : (P.underlying t).isSome := by
  simp only [tyOf, uOf] at h
  cases hd : P.underlying t with
  | none => simp [hd] at h
  | some d => rfl

end

/-- Not of an unknown shape. -/
def U.ok : U → Bool
  | .other => false
  | _ => true

theorem u_ok {P : Program} {t : TypeId} (h : (tyOf P t).u.ok = true) : (P.underlying t).isSome := by
  apply u_some (P := P) (t := t)
  unfold U.ok at h
  split at h <;> simp_all

/-- One cell's leaf, or a struct's. -/
def ofLeaves (agg : Bool) (ls : List L) : Option V := if agg then some (.agg ls) else match ls with
  | [l] => some (.l l)
  | _ => none

def V.cells : V → Option (List L)
  | .l x => some [x]
  | .agg xs => some xs
  | .tup _ => none

def numV : V → Option Int
  | .l (.t (.int _ n)) => some n
  | _ => none

/-- The bound of a slice expression: the number that is given, or another one. -/
def boundV (σ : St) (x : Option Operand) (d : Int) : Option (Prop × Int) := match x with
  | none => some (True, d)
  | some o => match evO σ o with
    | some (c, v) => (numV v).map fun n => (c = true, n)
    | none => none

def patch (ls : List L) (off : Nat) (xs : List L) : List L := ls.take off ++ xs ++ ls.drop (off + xs.length)

/-- The leaves of a struct with its parts laid over its zero value. -/
def fillL (σ : St) (fs : List (Nat × Nat × Bool)) : List L → List (Nat × Operand) → Option (Prop × List L)
  | ls, [] => some (True, ls)
  | ls, (i, x) :: r => match fs[i]?, evO σ x with
    | some (off, sz, _), some (c, v) => match v.cells with
      | some xs => (fillL σ fs (patch ls off xs) r).map fun q => (c = true ∧ xs.length = sz ∧ off + sz ≤ ls.length ∧ q.1, q.2)
      | none => none
    | _, _ => none

def nodeOf (σ : St) (r : Nat) (p : Path) : Option (Nat × Els) := match get σ.row r with
  | some row => match row.t.at? p with
    | some (.sl z es) => some (z, es)
    | _ => none
  | none => none

def loadV (P : Program) (σ : St) (t : TypeId) : V → Option (Prop × V)
  | .l (.ptr b j) => match get σ.box b with
    | some ls => (ofLeaves (aggU (tyOf P t).u) ((ls.drop j).take (tyOf P t).sz)).map fun v => (j + (tyOf P t).sz ≤ ls.length ∧ (tyOf P t).known = true ∧ (tyOf P t).u.ok = true, v)
    | none => none
  | .l (.ept r p i j d) => match nodeOf σ r p with
    | some (_, es) => (ofLeaves (aggU (tyOf P t).u) (leavesOf r p i j (((es.getD i (tyOf P d).dz).drop j).take (tyOf P t).sz))).map fun v => (j + (tyOf P t).sz ≤ (es.getD i (tyOf P d).dz).length ∧ (tyOf P t).known = true ∧ (tyOf P t).u.ok = true, v)
    | none => none
  | _ => none

theorem RepLs.value {w : World} {g : Gh} {σ : St} {agg : Bool} {ls : List L} {vs : List Value} {v : V} (h : RepLs w g σ ls vs) (hv : ofLeaves agg ls = some v) :
    RepV w g σ v (if agg then .agg vs.toArray else vs.getD 0 undef) := by
  unfold ofLeaves at hv
  cases agg with
  | true => simp only [if_true, Option.some.injEq] at hv; subst hv; exact ⟨vs, rfl, h⟩
  | false =>
    simp only [Bool.false_eq_true, if_false] at hv
    split at hv
    · simp only [Option.some.injEq] at hv
      subst hv
      obtain ⟨u, hu, hr⟩ := h.nth (j := 0) rfl
      simp only [Bool.false_eq_true, if_false, List.getD_eq_getElem?_getD, hu]
      exact hr
    · cases hv

theorem loadV_run {P : Program} {w : World} {g : Gh} {σ : St} (m : Mem w g σ) {t : TypeId} {x v : V} {u : Value} {c : Prop} (hx : RepV w g σ x u) (h : loadV P σ t x = some (c, v)) (hc : c) :
    ∃ r, (∀ w1, Kept w w1 → (Instr.loadAt t u).run P w1 = .ok r w1) ∧ RepV w g σ v r := by
  -- what is asked of the address: so many cells from it on
  have main : ∀ (a : Addr) (ls : List L) (vs : List Value), u = .pointer (some a) → (tyOf P t).known = true → (tyOf P t).u.ok = true → ls.length = (tyOf P t).sz → RepLs w g σ ls vs →
      (∀ j y, vs[j]? = some y → w.cell? (a.add j) = some y) → ofLeaves (aggU (tyOf P t).u) ls = some v → ∃ r, (∀ w1, Kept w w1 → (Instr.loadAt t u).run P w1 = .ok r w1) ∧ RepV w g σ v r := by
    intro a ls vs hu hk ho hlen hr hcell hv
    have hvl : vs.length = (tyOf P t).sz := by rw [← hr.length, hlen]
    refine ⟨_, fun w1 hk1 => ?_, hr.value hv⟩
    subst hu
    have hcell : ∀ j y, vs[j]? = some y → w1.cell? (a.add j) = some y := fun j y hy => hk1.cell (hcell j y hy)
    simp only [Instr.loadAt, Instr.sureAddr, Sem.run_bind, Sem.run_pure, Result.andThen_ok, loadVar, run_isAgg' (u_ok ho), ← u_agg (P := P) (t := t)]
    cases ha : aggU (tyOf P t).u with
    | true =>
      simp only [if_true, Sem.run_bind, run_sizeOf' hk, Result.andThen_ok]
      rw [← hvl, run_loadCells_list w1 a vs hcell]
      rfl
    | false =>
      rw [ha] at hv
      unfold ofLeaves at hv
      simp only [Bool.false_eq_true, if_false] at hv
      split at hv
      · have h1 : vs.length = 1 := by rw [hvl, ← hlen]; rfl
        obtain ⟨y, rfl⟩ : ∃ y, vs = [y] := by
          match vs, h1 with
          | [y], _ => exact ⟨y, rfl⟩
        have := hcell 0 y rfl
        simp only [Bool.false_eq_true, if_false, run_load]
        rw [show a.add 0 = a from by simp [Addr.add]] at this
        simp [this]
      · cases hv
  unfold loadV at h
  split at h
  · rename_i b j
    split at h
    · rename_i ls hb
      simp only [Option.map_eq_some_iff, Prod.mk.injEq] at h
      obtain ⟨v', hv', rfl, rfl⟩ := h
      obtain ⟨h1, h2, h3⟩ := hc
      obtain ⟨cs, e, hcs, hr⟩ := m.box b ls hb
      obtain ⟨_, hu⟩ := hx
      refine main _ _ _ hu h2 h3 ?_ (hr.part j _) ?_ hv'
      · simp; omega
      · intro k y hy
        rw [List.getElem?_take] at hy
        split at hy
        · rw [List.getElem?_drop] at hy
          rw [Addr.add_plain rfl]
          simpa [World.cell?, hcs] using hy
        · cases hy
    · cases h
  · rename_i r p i j d
    split at h
    · rename_i z es hn
      · simp only [Option.map_eq_some_iff, Prod.mk.injEq] at h
        obtain ⟨v', hv', rfl, rfl⟩ := h
        obtain ⟨h1, h2, h3⟩ := hc
        obtain ⟨row, z', es', a, n, cap, e1, e2, e3, e4, e5, e6⟩ := hx
        have hn' : nodeOf σ r p = some (z', es') := by simp [nodeOf, e1, e2]
        rw [hn] at hn'
        simp only [Option.some.injEq, Prod.mk.injEq] at hn'
        obtain ⟨rfl, rfl⟩ := hn'
        obtain ⟨u', hu', hru⟩ := m.at e1 e2
        rw [e3] at hu'
        cases hu'
        obtain ⟨x', hx'⟩ : ∃ x', es[i]? = some x' := ⟨_, List.getElem?_eq_getElem e4⟩
        have hgd : es.getD i (tyOf P d).dz = x' := by rw [List.getD_eq_getElem?_getD, hx']; rfl
        rw [hgd] at h1 hv'
        obtain ⟨a', ha', _, _, hxl, hcl⟩ := hru.elem hx'
        cases ha'
        -- the cells' values
        have hvals : ∀ k, j + k < x'.length → ∃ y, w.cell? ⟨a.block, a.off + i * z + (j + k), none⟩ = some y ∧ ∀ c, x'[j + k]? = some c → RepL w g σ (leafOf r p i (j + k) c) y := by
          intro k hk
          obtain ⟨c, hcc⟩ : ∃ c, x'[j + k]? = some c := ⟨_, List.getElem?_eq_getElem hk⟩
          obtain ⟨y, G, hy, hyr, _⟩ := hcl (j + k) c hcc
          refine ⟨y, hy, fun c' hc' => ?_⟩
          rw [hcc] at hc'
          cases hc'
          exact leafOf_rep e1 e2 hx' hcc e3 rfl e5 hy hyr.toTrue
        let vs := (List.range (tyOf P t).sz).map fun k => (w.cell? ⟨a.block, a.off + i * z + (j + k), none⟩).getD undef
        refine main ⟨a.block, a.off + i * z + j, none⟩ _ vs e6 h2 h3 ?_ ?_ ?_ hv'
        · rw [leavesOf_length]; simp; omega
        · refine .of_nth (by rw [leavesOf_length]; simp [vs]; omega) fun k l y hl hy => ?_
          rw [leavesOf_get] at hl
          simp only [Option.map_eq_some_iff] at hl
          obtain ⟨c, hcc, rfl⟩ := hl
          rw [List.getElem?_take] at hcc
          split at hcc
          · rename_i hk
            rw [List.getElem?_drop] at hcc
            have hjk : j + k < x'.length := (List.getElem?_eq_some_iff.1 hcc).1
            obtain ⟨y', hy', hr'⟩ := hvals k hjk
            simp only [vs, List.getElem?_map, List.getElem?_range hk, Option.map_some, hy', Option.getD_some, Option.some.injEq] at hy
            subst hy
            exact hr' c hcc
          · cases hcc
        · intro k y hy
          have hk : k < (tyOf P t).sz := by
            have := (List.getElem?_eq_some_iff.1 hy).1
            simpa [vs] using this
          obtain ⟨y', hy', _⟩ := hvals k (by omega)
          simp only [vs, List.getElem?_map, List.getElem?_range hk, Option.map_some, hy', Option.getD_some, Option.some.injEq] at hy
          subst hy
          rw [Addr.add_plain rfl]
          simpa [Nat.add_assoc] using hy'
    · cases h
  · cases h

end Go.Tw
