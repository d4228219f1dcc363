/- A law's row from its function's contract. -/
import Derived.Test.YthajhlpbinjpgaaTw36
set_option linter.unusedSimpArgs false
set_option linter.unusedVariables false
namespace Go.Tw
open Go.ChangeShapes Go.WideShapes Go.RowKit

def tdArg (P : Program) (t : TypeId) : Option (Bool × List TD) := (tdOf P 8 t).map fun l => (isAggD (P.underlying t), l)

def FitsA : List (Bool × List TD) → List A → Prop
  | [], [] => True
  | d :: ds, x :: xs => (x.1 = d.1 ∧ FitsL d.2 x.2) ∧ FitsA ds xs
  | _, _ => False

/-- Whether a type reads again. -/
def rowOk (P : Program) (t : TypeId) : Bool := P.readableRec t && decide (t < P.types.size)

section
variable {H : Type} {enc : TypeId × Value → H} {P : Program} {w : World}

theorem tdOf_one {n : Nat} {t : TypeId} {l : List TD} (h : tdOf P n t = some l) (ha : isAggD (P.underlying t) = false) : l.length = 1 := by
  cases n with
  | zero => cases h
  | succ n =>
    simp only [tdOf] at h
    split at h
    · cases h; rfl
    · cases h; rfl
    · cases h; rfl
    · simp only [Option.bind_eq_some_iff] at h
      obtain ⟨_, _, h⟩ := h
      split at h
      · cases h; rfl
      · cases h
    · rename_i hu
      rw [hu] at ha
      cases ha
    · cases h

theorem arg_reads {t : TypeId} {v : Value} {d : DataW H} {ps : List MemPlace} {td : Bool × List TD} (ht : tdArg P t = some td) (h : DataW.Trod enc P w 0 (fun _ => true) true t v d ps)
    {base : Nat} (hok : Value.okWide P w .any base t v) : ∃ ts, FitsL td.2 ts ∧ ShapeV (td.1, ts) v ∧ ts.length = v.cells.toList.length ∧ ∀ (j : Nat) t u, ts[j]? = some t → v.cells.toList[j]? = some u → Rep w false u t fun _ => True := by
  simp only [tdArg, Option.map_eq_some_iff] at ht
  obtain ⟨l, hl, rfl⟩ := ht
  obtain ⟨fuel, hf⟩ := h
  obtain ⟨ts, R⟩ := tree_of 8 t l hl fuel _ _ hf
  refine ⟨ts, R.fits, ?_, by rw [R.fits.len, R.len], R.rep⟩
  unfold ShapeV
  cases ha : isAggD (P.underlying t) with
  | true =>
    simp only [if_true]
    unfold Value.okWide at hok
    unfold isAggD at ha
    split at ha
    · rename_i hu
      rw [hu] at hok
      obtain ⟨cs, rfl, h1, _⟩ := hok
      refine ⟨cs.toList, rfl, ?_⟩
      have := R.len
      simp [Value.cells] at this
      simp [R.fits.len, this]
    · rename_i hu
      rw [hu] at hok
      obtain ⟨cs, rfl, h1, _⟩ := hok
      refine ⟨cs.toList, rfl, ?_⟩
      have := R.len
      simp [Value.cells] at this
      simp [R.fits.len, this]
    · cases ha
  | false =>
    simp only [Bool.false_eq_true, if_false]
    have h1 := tdOf_one hl ha
    have h2 := R.len
    rw [h1] at h2
    have h3 := R.fits.len
    rw [h1] at h3
    refine ⟨h3, ?_⟩
    match hc : v.cells.toList, h2 with
    | [u], _ =>
      have h4 := R.rep 0 (ts[0]'(by omega)) u (by simp) (by rw [hc]; rfl)
      have h5 := h4.one
      cases v with
      | agg cs =>
        unfold Value.okWide at hok
        unfold isAggD at ha
        split at ha
        · cases ha
        · cases ha
        · rename_i n1 n2
          split at hok
          · rename_i fs hu
            exact absurd hu (n1 fs)
          · rename_i k e hu
            exact absurd hu (n2 k e)
          · unfold Cell.okWide at hok
            split at hok <;> simp_all [Cell.ok]
      | _ => simp [Value.cells] at hc; subst hc; exact h5

theorem args_reads {base : Nat} : ∀ (ts : List TypeId) (tds : List (Bool × List TD)), ts.mapM (tdArg P) = some tds → ∀ (vs : List Value) (ds : List (DataW H)) (ps : List MemPlace), DataW.TrodAll enc P w 0 (fun _ => true) true ts vs ds ps →
    (∀ (j : Nat) t v, ts[j]? = some t → vs[j]? = some v → Value.okWide P w .any base t v) →
    ∃ args : List A, FitsA tds args ∧ Shapes args vs ∧ (flatA args).length = (flatU vs).length ∧ ∀ (j : Nat) t u, (flatA args)[j]? = some t → (flatU vs)[j]? = some u → Rep w false u t fun _ => True
  | [], tds, h, vs, ds, ps, hT, _ => by
    simp at h
    subst h
    obtain ⟨rfl, rfl, rfl⟩ := trodAll_nil hT
    exact ⟨[], trivial, trivial, rfl, fun j t u h => by simp [flatA] at h⟩
  | t :: ts, tds, h, vs, ds, ps, hT, hok => by
    obtain ⟨v, vs', d, ds', p, q, rfl, rfl, rfl, h1, h2⟩ := trodAll_cons hT
    rw [List.mapM_cons] at h
    simp only [Option.bind_eq_bind, Option.bind_eq_some_iff, Option.pure_def, Option.some.injEq] at h
    obtain ⟨td, ht, tds', hts, rfl⟩ := h
    obtain ⟨xs, f1, f2, f3, f4⟩ := arg_reads ht h1 (hok 0 t v rfl rfl)
    obtain ⟨args, g1, g2, g3, g4⟩ := args_reads ts tds' hts vs' ds' q h2 fun j t v e1 e2 => hok (j + 1) t v (by simpa using e1) (by simpa using e2)
    refine ⟨(td.1, xs) :: args, ⟨⟨rfl, f1⟩, g1⟩, ⟨f2, g2⟩, ?_, fun j t u e1 e2 => ?_⟩
    · simp only [flatA, flatU, List.flatMap_cons, List.length_append] at g3 ⊢
      omega
    · simp only [flatA, flatU, List.flatMap_cons] at e1 e2
      by_cases hj : j < xs.length
      · rw [List.getElem?_append_left hj] at e1
        rw [List.getElem?_append_left (by omega)] at e2
        exact f4 j t u e1 e2
      · rw [List.getElem?_append_right (by omega)] at e1
        rw [List.getElem?_append_right (by omega), ← f3] at e2
        exact g4 _ t u e1 e2

theorem trodAll_len : ∀ {ts : List TypeId} {vs : List Value} {ds : List (DataW H)} {ps : List MemPlace}, DataW.TrodAll enc P w 0 (fun _ => true) true ts vs ds ps → ds.length = ts.length
  | [], vs, ds, ps, h => by
    obtain ⟨rfl, rfl, rfl⟩ := trodAll_nil h
    rfl
  | t :: ts, vs, ds, ps, h => by
    obtain ⟨v, vs', d, ds', p, q, rfl, rfl, rfl, _, h2⟩ := trodAll_cons h
    simp [trodAll_len h2]

theorem trodAll_lt : ∀ {ts : List TypeId} {vs : List Value} {ds : List (DataW H)} {ps : List MemPlace}, DataW.TrodAll enc P w 0 (fun _ => true) true ts vs ds ps → ∀ x ∈ ps, x.block < w.heap.size
  | [], vs, ds, ps, h => by
    obtain ⟨rfl, rfl, rfl⟩ := trodAll_nil h
    simp
  | t :: ts, vs, ds, ps, h => by
    obtain ⟨v, vs', d, ds', p, q, rfl, rfl, rfl, ⟨m, hm⟩, h2⟩ := trodAll_cons h
    intro x hx
    rcases List.mem_append.1 hx with hx | hx
    · exact DataW.trod_lt m _ _ _ hm x hx
    · exact trodAll_lt h2 x hx

theorem trodAll_below (hl : laidOutB P = true) {w' : World} : ∀ {ts : List TypeId}, ts.all (rowOk P) = true → ∀ {vs : List Value} {ds : List (DataW H)} {ps : List MemPlace}, DataW.TrodAll enc P w 0 (fun _ => true) true ts vs ds ps → Below w.heap.size w w' →
    (∀ x ∈ ps, x.block < w.heap.size) → DataW.TrodAll enc P w' 0 (fun b => decide (b < w.heap.size)) true ts vs ds ps
  | [], _, vs, ds, ps, h, _, _ => by
    obtain ⟨rfl, rfl, rfl⟩ := trodAll_nil h
    exact rfl
  | t :: ts, hr, vs, ds, ps, h, hb, hlt => by
    obtain ⟨v, vs', d, ds', p, q, rfl, rfl, rfl, h1, h2⟩ := trodAll_cons h
    simp only [List.all_cons, Bool.and_eq_true, rowOk, decide_eq_true_eq] at hr
    exact ⟨p, q, Below.trod hl hr.1.1 hr.1.2 h1 hb fun x hx => hlt x (by simp [hx]), trodAll_below hl hr.2 h2 hb fun x hx => hlt x (by simp [hx]), rfl⟩

/-- The row. -/
theorem law_lift {C : Checked} {os : Os} {f : FuncId} {fn : Func} {s : ChangeSpec} {tds : List (Bool × List TD)} {tb : TypeId} (own : ownKnob C.prog.godebug = none) (laid : laidOutB C.prog = true) (started : os.Started)
    (noInit : C.prog.inits.idxOf? f = none) (hfn : C.prog.funcs[f]? = some fn)
    (witness : ∃ (w : World) (tape : Tape) (i : Input), w.os = os ∧ (w.forCall tape i).Shaped C.prog ∧ i.vars = [] ∧ Input.okWide C.prog (w.forCall tape i) .any w.heap.size f i ∧
      s.pre6 enc C.prog fn [] false (w.forCall tape i).memory i.args ∧ ({} : Assume).holds C.prog (lone (Frame.enter C.prog f i.args .normal) [] (w.forCall tape i)))
    (hvars : s.vars = []) (hs : ∀ ds : List (DataW H), ds.length = fn.params.toList.length → (s.fn H ds).results = [.lit (.bool true)] ∧ (s.fn H ds).args = ds ∧ (s.fn H ds).vars = [])
    (htd : fn.params.toList.mapM (tdArg C.prog) = some tds) (hrow : fn.params.toList.all (rowOk C.prog) = true) (hres : fn.resultTypes = #[tb]) (hbool : C.prog.underlying tb = some .bool)
    (hpc : ∀ args : List A, FitsA tds args → PC C.prog f args [(false, [.bool true])]) :
    ReturnsInHanded {} C os f .any (s.pre6 enc C.prog fn [] false) (s.post enc C.prog fn false true false false) := by
  refine returnsInHanded_of_change_sized own started noInit hfn witness ?_
  intro W base args ds gs before hval hW _ _ _
  have hW' := hW
  obtain ⟨p, q, hA, hV, rfl, _, _⟩ := hW
  rw [hvars] at hV
  obtain ⟨rfl, rfl⟩ := trodVars_none hV
  have hval' : ∀ (j : Nat) t v, fn.params.toList[j]? = some t → args.toList[j]? = some v → Value.okWide C.prog W .any base t v := fun j t v h1 h2 => hval j t v (by simpa using h1) (by simpa using h2)
  obtain ⟨as, h1, h2, h3, h4⟩ := args_reads _ _ htd _ _ _ hA hval'
  have hlt := trodAll_lt hA
  have hlen : ds.length = fn.params.toList.length := by
    exact (trodAll_len hA)
  obtain ⟨e1, e2, e3⟩ := hs ds hlen
  have hcall := (hpc as h1).2 W args.toList h2 h4
  rw [Array.toArray_toList] at hcall
  refine hcall.mono fun e W' he => ?_
  cases e with
  | panicked => exact he.elim
  | outgrown => exact he.elim
  | returned r =>
    obtain ⟨s1, s2, s3, s4, s5, us, rfl, hsh, F, hF, _⟩ := he
    have bel : Below W.heap.size W W' := ⟨s3, s4, s5, s1, s2⟩
    have hr : oneU us = .bool true := by
      match us, hsh with
      | [u], hsh =>
        have h1 := hsh.1
        simp [ShapeV] at h1
        have hu := cells_one h1
        have := hF 0 (.bool true) u rfl (by simp [flatU, hu])
        cases this
        rfl
    rw [hr]
    refine ⟨_, rfl, ds, [], p ++ [], [], p, [], hW', ?_, ?_, ?_, bel.frame _, fun h => by cases h⟩
    · rw [List.append_nil, e1, hres]
      exact trodAll_mk1 (shut_bool hbool _)
    · rw [List.append_nil, e2]
      exact trodAll_below laid hrow hA bel hlt
    · rw [List.append_nil, e3, hvars]
      rfl
end
end Go.Tw
