/- The machine answers as pv says. -/
import Derived.Test.YthajhlpbinjpgaaTw5
set_option linter.unusedSimpArgs false
set_option linter.unusedVariables false
namespace Go.Tw

section
variable {P : Program} {w : World} {g : Gh} {σ : St} {a : Act}

/-- What 'fill' makes of a zero value's cells and a struct's parts. -/
theorem fold_set (xs : List Value) : ∀ (k off : Nat) (cs : Array Value), off + k + xs.length ≤ cs.size →
    ((xs.zipIdx k).foldl (fun (cs : Array Value) (p : Value × Nat) => cs.setIfInBounds (off + p.2) p.1) cs).toList = cs.toList.take (off + k) ++ xs ++ cs.toList.drop (off + k + xs.length) := by
  induction xs with
  | nil => intro k off cs h; simp
  | cons x xs ih =>
    intro k off cs h
    simp only [List.length_cons] at h
    simp only [List.zipIdx_cons, List.foldl_cons]
    rw [ih (k + 1) off _ (by simp; omega)]
    have e := list_seg_step cs.toList (off + k) x xs (by simp; omega)
    simp only [Array.toList_setIfInBounds]
    rw [show off + (k + 1) = off + k + 1 by omega, e, List.length_cons]

theorem fill_run (hs : Slots w g σ a) (fs : List (Nat × Nat × Bool)) (place : Nat → Option (Nat × Nat)) (hp : ∀ i x, fs[i]? = some x → place i = some (x.1, x.2.1)) :
    ∀ (parts : List (Nat × Operand)) (ls ls' : List L) (c : Prop) (cs : Array Value), fillL σ fs ls parts = some (c, ls') → c → RepLs w g σ ls cs.toList →
      ∃ cs', Instr.fill place cs (parts.map fun q => (q.1, a.eval q.2)) = some cs' ∧ RepLs w g σ ls' cs'.toList
  | [], ls, ls', c, cs, h, hc, hr => by
    simp only [fillL, Option.some.injEq, Prod.mk.injEq] at h
    obtain ⟨_, rfl⟩ := h
    exact ⟨cs, rfl, hr⟩
  | (i, x) :: r, ls, ls', c, cs, h, hc, hr => by
    simp only [fillL] at h
    split at h
    · rename_i off sz b c1 v hf hx
      split at h
      · rename_i xs hxs
        simp only [Option.map_eq_some_iff, Prod.mk.injEq] at h
        obtain ⟨q, hq, rfl, rfl⟩ := h
        obtain ⟨h1, h2, h3, h4⟩ := hc
        have hv := RepV.cells (evO_rep hs hx h1) hxs
        have hlen := hv.length
        have hl2 := hr.length
        have hsz : (a.eval x).cells.size = sz := by rw [← h2, hlen]; simp
        have hroom : off + (a.eval x).cells.size ≤ cs.size := by rw [hsz]; simp at hl2; omega
        obtain ⟨cs', e, hr'⟩ := fill_run hs fs place hp r (patch ls off xs) q.2 q.1 ((a.eval x).cells.zipIdx.foldl (fun cs (c, j) => cs.setIfInBounds (off + j) c) cs) hq h4 (by
          have hpt := RepLs.patch hr hv (off := off) (by omega)
          have e := fold_set (a.eval x).cells.toList 0 off cs (by simpa using hroom)
          simp only [Nat.add_zero] at e
          rw [← e] at hpt
          rw [← Array.foldl_toList, Array.toList_zipIdx]
          exact hpt)
        refine ⟨cs', ?_, hr'⟩
        simp only [List.map_cons, Instr.fill, hp i _ hf]
        rw [if_neg (by simp [hsz]; omega)]
        exact e
      · cases h
    · cases h

theorem run_sizeOf_info {t : TypeId} (h : (P.info? t).isSome) : (sizeOf t).run P w = .ok (P.cellsOf t) w := by
  obtain ⟨i, hi⟩ := Option.isSome_iff_exists.1 h
  simp [sizeOf, typeInfo, hi, Program.cellsOf]

theorem run_mapM_places {gs : List Field} (hk : ∀ f ∈ gs, (P.info? f.type).isSome) : (gs.mapM (fun f => do pure (f.offset, ← sizeOf f.type) : Field → Sem (Nat × Nat))).run P w = .ok (gs.map fun f => (f.offset, P.cellsOf f.type)) w := by
  induction gs with
  | nil => simp
  | cons f gs ih =>
    simp only [List.mapM_cons, Sem.run_bind, run_sizeOf_info (hk f (by simp)), Result.andThen_ok, Sem.run_pure, ih fun x hx => hk x (by simp [hx]), List.map_cons]

theorem build_run (hs : Slots w g σ a) {t : TypeId} {fs : List (Nat × Nat × Bool)} (hu : (tyOf P t).u = .st fs) (hf : fieldsKnown P t = true) (hk : (tyOf P t).known = true) {parts : Array (Nat × Operand)} {c : Prop} {ls : List L}
    (h : fillL σ fs (tyOf P t).ze parts.toList = some (c, ls)) (hc : c) : ∃ r, (∀ w1, (Instr.build t (parts.map fun q => (q.1, a.eval q.2))).run P w1 = .ok r w1) ∧ RepV w g σ (.agg ls) r := by
  obtain ⟨gs, hgs, rfl⟩ := u_st hu
  obtain ⟨i, z, hi, hz, hze, _, _, hone⟩ := info_of_known hk
  have hzr : RepLs w g σ (tyOf P t).ze z.cells.toList := by
    rw [hze]
    refine .of_nth (by simp) fun j l v hl hv => ?_
    simp only [List.getElem?_map, hv, Option.map_some, Option.some.injEq] at hl
    subst hl
    exact zeroLeaf_rep v (hone v (List.mem_of_getElem? hv))
  obtain ⟨cs', e, hr⟩ := fill_run hs _ (fun i => (gs.toList.map fun f => (f.offset, P.cellsOf f.type))[i]?) (fun i x hx => by
    simp only [List.getElem?_map, Option.map_eq_some_iff] at hx ⊢
    obtain ⟨f, hf, rfl⟩ := hx
    exact ⟨f, hf, rfl⟩) parts.toList _ ls c z.cells h hc hzr
  have hall : ∀ f ∈ gs.toList, (P.info? f.type).isSome := by
    simp only [fieldsKnown, hgs, List.all_eq_true, Bool.and_eq_true] at hf
    exact fun f h => (hf f h).1
  refine ⟨.agg cs', fun w1 => ?_, cs'.toList, by simp, hr⟩
  have hpl : (gs.mapM (fun f => do pure (f.offset, ← sizeOf f.type) : Field → Sem (Nat × Nat))).run P w1 = .ok (gs.toList.map fun f => (f.offset, P.cellsOf f.type)).toArray w1 := by
    rw [Array.mapM_eq_mapM_toList]
    rw [Sem.run_map, run_mapM_places hall]
    rfl
  simp only [Instr.build, zeroValue, typeInfo, Sem.run_bind, run_program, Result.andThen_ok, hi, Sem.run_pure, hz, run_underlying hgs, hpl]
  simp only [List.getElem?_toArray, Array.toList_map, e]
  rfl

end

end Go.Tw
