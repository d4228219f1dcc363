/- Contracts, proved of a body and used at a call. -/
import Derived.Test.YthajhlpbinjpgaaTw28
set_option linter.unusedSimpArgs false
set_option linter.unusedVariables false
namespace Go.Tw

section
variable {P : Program} {w0 w w' : World} {Al : Blks} {N : Nat} {g : Gh} {σ σ' : St} {a : Act}

theorem flatU_length : ∀ {xs : List A} {vs : List Value}, Shapes xs vs → (flatU vs).length = (flatA xs).length
  | [], [], _ => rfl
  | x :: xs, v :: vs, h => by
    have := flatU_length h.2
    simp only [flatU, flatA, List.flatMap_cons, List.length_append] at this ⊢
    rw [h.1.cells, this]
  | [], _ :: _, h => h.elim
  | _ :: _, [], h => h.elim

/-- The state in which a function begins that only reads. -/
def St.start (args : List A) : St := { env := paramsE 0 (valsN 0 args), box := [], row := rowsN .ro 0 (flatA args), nxt := (flatA args).length, sav := [] }

theorem shapeVs_len : ∀ {xs : List A} {vs : List V}, shapeVs xs vs → xs.length = vs.length
  | [], [], _ => rfl
  | _ :: _, _ :: _, h => by simp [shapeVs_len h.2]
  | [], _ :: _, h => h.elim
  | _ :: _, [], h => h.elim

theorem shapeV_rep {x : A} {v : V} {u : Value} (h : shapeV x v) (hr : RepV w g σ v u) : ShapeV x u ∧ RepLs w g σ v.leaves u.cells.toList := by
  cases v with
  | l y =>
    obtain ⟨h1, h2⟩ := h
    refine ⟨by simp only [ShapeV, h1, Bool.false_eq_true, if_false]; exact ⟨h2, RepL.one hr⟩, ?_⟩
    exact RepV.cells hr rfl
  | agg ys =>
    obtain ⟨h1, h2⟩ := h
    refine ⟨?_, RepV.cells hr rfl⟩
    obtain ⟨vs, rfl, hl⟩ := hr
    simp only [ShapeV, h1, if_true]
    exact ⟨vs, rfl, by rw [h2, hl.length]⟩
  | tup => exact h.elim

theorem shapeVs_rep : ∀ {xs : List A} {vs : List V} {us : List Value}, shapeVs xs vs → RepVs w g σ vs us → Shapes xs us ∧ RepLs w g σ (vs.flatMap V.leaves) (flatU us)
  | [], [], [], _, _ => ⟨trivial, trivial⟩
  | x :: xs, v :: vs, u :: us, h, hr => by
    obtain ⟨h1, h2⟩ := shapeV_rep h.1 hr.1
    obtain ⟨h3, h4⟩ := shapeVs_rep h.2 hr.2
    refine ⟨⟨h1, h3⟩, ?_⟩
    simp only [List.flatMap_cons, flatU]
    have app : ∀ {ls ks : List L} {vs us : List Value}, RepLs w g σ ls vs → RepLs w g σ ks us → RepLs w g σ (ls ++ ks) (vs ++ us) := by
      intro ls
      induction ls with
      | nil => intro ks vs us h h'; cases vs with
        | nil => exact h'
        | cons => exact h.elim
      | cons l ls ih => intro ks vs us h h'; cases vs with
        | nil => exact h.elim
        | cons => exact ⟨h.1, ih h.2 h'⟩
    exact app h2 h4
  | [], [], _ :: _, _, h => h.elim
  | _ :: _, _ :: _, [], _, h => h.elim
  | [], _ :: _, _, h, _ => h.elim
  | _ :: _, [], _, h, _ => h.elim

theorem oneV_unit {vs : List V} {v : V} {us : List Value} (hv : oneV vs = some v) (h : RepVs w g σ vs us) : RepV w g σ v (oneU us) := by
  match vs, us, h, hv with
  | [], [], _, hv =>
    simp only [oneV, tupV, Option.map_some, Option.some.injEq] at hv
    subst hv
    exact ⟨[], by simp [oneU], trivial⟩
  | [x], [u], h1, hv =>
    simp only [oneV, Option.some.injEq] at hv
    subst hv
    exact h1.1
  | x :: y :: vs, u1 :: u2 :: us, h1, hv =>
    simp only [oneV, Option.map_eq_some_iff] at hv
    obtain ⟨q, hq, rfl⟩ := hv
    exact ⟨u1 :: u2 :: us, by simp [oneU], tupV_rep hq h1⟩

theorem resV_us (m : Mem w g σ) (hs : Slots w g σ a) {fn : Func} {c : Prop} {vs : List V} (h : resV P σ fn.results.toList = some (c, vs)) (hc : c) :
    ∃ us, (results fn a.tmps).run P w = .ok (oneU us) w ∧ RepVs w g σ vs us := by
  obtain ⟨us, h1, h2⟩ := resV_list m hs h hc
  refine ⟨us, ?_, h1⟩
  have e : fn.results = fn.results.toList.toArray := by simp
  rw [results_resF, e, List.mapM_toArray]
  simp only [Sem.run_bind, Sem.run_map, h2, Result.andThen_ok, Sem.run_pure]
  match us with
  | [] => rfl
  | [u] => rfl
  | u :: u' :: us => simp [oneU]

/-- A body's walk is a contract. -/
theorem PC_of {f : FuncId} {fn : Func} {c : Code} {args res : List A} (hf : P.funcs[f]? = some fn) (hb : fn.body = some c) (hn : (fn.name == "runtime.NumGoroutine") = false) {n : Nat} (hnt : fn.ntmps = n) {rs : List ResultVar} (hrs : fn.results.toList = rs) (hl : args.length ≤ n)
    (h : W P n c (OutN P rs res) (St.start args)) : PC P f args res := by
  subst hnt hrs
  refine ⟨⟨fn, hf, by simp [hb], hn⟩, fun w vs hsh hrep => calls_of_wp hf hb ?_⟩
  let g : Gh := ⟨fun _ => 0, fun k => (flatU vs).getD k undef, fun _ _ => False⟩
  have hfl := flatU_length hsh
  have hrow : ∀ r row, get (rowsN .ro 0 (flatA args)) r = some row → row.pm = .ro ∧ (flatA args)[r]? = some (.sl row.z row.es) := by
    intro r row hr
    rw [get_rowsN] at hr
    simp only [Nat.zero_le, if_true, Nat.sub_zero] at hr
    split at hr
    · rename_i z es he
      simp only [Option.some.injEq] at hr
      subst hr
      exact ⟨rfl, he⟩
    · cases hr
  have hown : ∀ b, ¬ Owned g (St.start args) b := by
    rintro b (⟨k, ls, h1, _⟩ | ⟨r, row, h1, h2, _⟩)
    · simp [St.start, get] at h1
    · exact h2 (hrow r row h1).1
  have hvals : RepVs w g (St.start args) (valsN 0 args) vs := by
    refine valsN_rep hsh fun j t v ht hv => ?_
    refine leafN_rep (hrep j t v ht hv) fun z es e => ?_
    subst e
    refine ⟨⟨.ro, z, es⟩, ?_, rfl, rfl, ?_⟩
    · simp only [St.start, get_rowsN, Nat.zero_le, if_true, Nat.zero_add, Nat.sub_zero, ht]
    · simp [g, hv]
  have hlen := hvals.length
  have hal : args.length = vs.length := hsh.length
  have R : Rel w (fun _ => False) fn.ntmps (St.start args) { tmps := vs.toArray ++ Array.replicate (fn.ntmps - vs.toArray.size) undef, defers := [] } w g := by
    refine ⟨⟨fun t c v hg hc => ?_, fun t c v hg hc => ?_⟩, paramsE_unq _ 0, ⟨?_, ?_, ?_, ?_, ?_, ?_, ?_, fun b hb => (hown b hb).elim⟩, fun b hb => (hown b hb).elim, fun _ _ _ => rfl, Nat.le_refl _, rfl, rfl, rfl, rfl, by simp; omega, fun x hx => by simp [St.start] at hx⟩
    · obtain ⟨_, _, h3⟩ := get_paramsE _ 0 t c v hg
      obtain ⟨u, hu, hr⟩ := hvals.nth (j := t) (by simpa using h3)
      have hlt : t < vs.length := (List.getElem?_eq_some_iff.1 hu).1
      have : (vs.toArray ++ Array.replicate (fn.ntmps - vs.toArray.size) undef).getD t undef = u := by
        rw [Array.getD_eq_getD_getElem?, Array.getElem?_append_left (by simpa using hlt)]
        simp [hu]
      rw [this]
      exact hr
    · have := (get_paramsE _ 0 t c v hg).1
      rw [hc] at this
      cases this
    · intro k ls h; simp [St.start, get] at h
    · intro r row h hp; rw [(hrow r row h).1] at hp; cases hp
    · intro r row h hp; rw [(hrow r row h).1] at hp; cases hp
    · intro r row h hp
      have ht := (hrow r row h).2
      have hlt : r < (flatU vs).length := by rw [hfl]; exact (List.getElem?_eq_some_iff.1 ht).1
      have hv : (flatU vs)[r]? = some ((flatU vs).getD r undef) := by simp [List.getD_eq_getElem?_getD, List.getElem?_eq_getElem hlt]
      exact (hrep r _ _ ht hv).mono fun b _ => hown b
    · intro k k' ls ls' h; simp [St.start, get] at h
    · intro k ls r row h; simp [St.start, get] at h
    · intro r r' row row' b h _ hp; exact absurd (hrow r row h).1 hp
  refine wp_mono (h w (fun _ => False) _ w g R) fun e a' w' ⟨σ', g', R', hK⟩ => ?_
  have fin : (match resV P σ' fn.results.toList with
    | some (c, vs) => c ∧ shapeVs res vs ∧ match takeLs σ' ((flatA res).map zOf) (vs.flatMap V.leaves) with
      | some (c', ts, _) => c' ∧ ts = flatA res
      | none => False
    | none => False) → a'.defers = [] ∧ ∃ v, (results fn a'.tmps).run P w' = .ok v w' ∧ (w.heap.size ≤ w'.heap.size ∧ (∀ b, b < w.heap.size → w'.heap[b]? = w.heap[b]?) ∧ w'.os = w.os ∧ w'.tape = w.tape ∧ w'.output = w.output ∧
        ∃ us, v = oneU us ∧ Shapes res us ∧ ∃ F : Nat → Blks, (∀ (j : Nat) t v, (flatA res)[j]? = some t → (flatU us)[j]? = some v → Rep w' true v t (F j)) ∧ (∀ j b, F j b → w.heap.size ≤ b) ∧ ∀ j j' b, F j b → F j' b → j = j') := by
    intro hK
    refine ⟨R'.dfr, ?_⟩
    split at hK
    · rename_i c vs' hres
      obtain ⟨hc, hsv, hK⟩ := hK
      split at hK
      · rename_i c' ts rs hts
        obtain ⟨hc', rfl⟩ := hK
        obtain ⟨us, hr, hus⟩ := resV_us R'.mem R'.slots hres hc
        obtain ⟨hS, hL⟩ := shapeVs_rep hsv hus
        obtain ⟨_, _, F, q1, q2, q3⟩ := takeLs_rep R'.mem hts hc' hL
        refine ⟨_, hr, R'.siz, fun b hb => R'.frm b hb (fun h => h), R'.os, R'.tape, R'.out, us, rfl, hS, F, q1, fun j b hb => ?_, q3⟩
        obtain ⟨r, row, _, h1, h2, h3⟩ := q2 j b hb
        rcases R'.own b (Or.inr ⟨r, row, h1, h2, h3⟩) with h | h
        · exact h
        · exact h.elim
      · exact hK.elim
    · exact hK.elim
  cases e with
  | normal => exact fin hK
  | ret => exact fin hK
  | _ => exact hK.elim

end

end Go.Tw
