/- What an operation that makes memory or turns it leaves of a state (eff), and that the machine leaves so. -/
import Derived.Test.YthajhlpbinjpgaaTw20
set_option linter.unusedSimpArgs false
set_option linter.unusedVariables false
namespace Go.Tw

/-- What it asks, the state it leaves, and what it answers. -/
def eff (P : Program) (σ : St) (nm : Nat) : Op → Option (Prop × St × Option V)
  | .alloc t => some ((tyOf P t).known = true ∧ get σ.box nm = none, { σ with box := (nm, (tyOf P t).ze) :: σ.box }, some (.l (.ptr nm 0)))
  | .box _ x => match evO σ x with
    | some (c, v) => match v.cells with
      | some ls => some (c = true ∧ get σ.box nm = none, { σ with box := (nm, ls) :: σ.box }, some (.l (.ptr nm 0)))
      | none => none
    | none => none
  | .buildSlice t n parts => match (tyOf P t).u with
    | .sl e => match partsL σ 0 parts.toList with
      | some (_, []) => some (n = 0 ∧ (tyOf P e).known = true, σ, some (.l .nil))
      | some (c, lss) => match takeLss σ (tyOf P e).cz lss with
        | some (c', es, rs) => some (c ∧ c' ∧ n = lss.length ∧ (tyOf P e).cz.length = (tyOf P e).sz ∧ 0 < (tyOf P e).sz ∧ (tyOf P e).known = true ∧ n * (tyOf P e).sz ≤ 16777216 ∧ get σ.row nm = none,
            σ.swap (hits rs) rs nm ⟨.own, (tyOf P e).sz, es⟩, some (.l (.ref nm [] (tyOf P e).sz 0 es.length)))
        | none => match shareLss σ (tyOf P e).cz lss with
          | some (c', es, rs) => some (c ∧ c' ∧ n = lss.length ∧ (tyOf P e).cz.length = (tyOf P e).sz ∧ 0 < (tyOf P e).sz ∧ (tyOf P e).known = true ∧ n * (tyOf P e).sz ≤ 16777216 ∧ get σ.row nm = none,
              (σ.freeze rs).swap (fun _ => false) [] nm ⟨.top, (tyOf P e).sz, es⟩, some (.l (.ref nm [] (tyOf P e).sz 0 es.length)))
          | none => none
      | none => none
    | _ => none
  | .makeSlice t l c => match (tyOf P t).u, evO σ l, evO σ c with
    | .sl e, some (c1, .l (.t (.int _ n))), some (c2, .l (.t (.int _ n'))) => match takeLs σ (tyOf P e).cz (tyOf P e).ze with
      | some (q, ts, []) => some (q ∧ c1 = true ∧ c2 = true ∧ n = n' ∧ (0 ≤ n ∧ n ≤ 9223372036854775807 ∧ n * (tyOf P e).by_ ≤ 281474976710656) ∧ (tyOf P e).known = true ∧ (tyOf P e).cz.length = (tyOf P e).sz ∧ 0 < (tyOf P e).sz ∧ get σ.row nm = none,
          σ.swap (fun _ => false) [] nm ⟨.own, (tyOf P e).sz, List.replicate n.toNat ts⟩, some (.l (.ref nm [] (tyOf P e).sz 0 n.toNat)))
      | _ => none
    | _, _, _ => none
  | .store t ad x => match evO σ ad, evO σ x with
    | some (c1, .l (.ptr k j)), some (c2, v) => match get σ.box k, v.cells with
      | some ls, some xs => some (c1 = true ∧ c2 = true ∧ xs.length = (tyOf P t).sz ∧ (tyOf P t).known = true ∧ j + xs.length ≤ ls.length, { σ with box := (k, patch ls j xs) :: del [k] σ.box }, none)
      | _, _ => none
    | some (c1, .l (.ept r p i j d)), some (c2, v) => match get σ.row r, v.cells with
      | some row, some xs => match row.t.at? p with
        | some (.sl z es) => match row.pm, p with
            | .own, p => match takeLs σ (tyOf P t).cz xs with
              | some (c, ts, rs) => some (c1 = true ∧ c2 = true ∧ c ∧ xs.length = (tyOf P t).sz ∧ (tyOf P t).known = true ∧ j + ts.length ≤ (es.getD i (tyOf P d).dz).length ∧ r ∉ rs, σ.swap (killSt rs r p) (r :: rs) r (row.store p z es i j (es.getD i (tyOf P d).dz) ts), none)
              | none => none
            | .top, [] => match shareLs σ (tyOf P t).cz xs with
              | some (c, ts, rs) => some (c1 = true ∧ c2 = true ∧ c ∧ xs.length = (tyOf P t).sz ∧ (tyOf P t).known = true ∧ j + ts.length ≤ (es.getD i (tyOf P d).dz).length ∧ r ∉ rs,
                  (σ.freeze rs).swap (killSt [] r []) [r] r (row.store [] row.z row.es i j (es.getD i (tyOf P d).dz) ts), none)
              | none => none
            | _, _ => none
        | _ => none
      | _, _ => none
    | _, _ => none
  | .call { callee := .builtin .append, args, argTypes } => match args.toList, argTypes.toList with
    | [s, x], [t, t'] => match (tyOf P t).u, evO σ s, evO σ x with
      | .sl e, some (c1, vs), some (c2, vx) => match appT σ (tyOf P e).sz vs, appS σ (tyOf P e).sz vx with
        | some (c3, rs, pm, es), some (c4, who, els) => match (tyOf P e).cz.all (· == 0), who, pm with
          | true, _, .own => some (t' = t ∧ c1 = true ∧ c2 = true ∧ c3 ∧ c4 ∧ Flat els ∧ (es.length + els.length) * (tyOf P e).by_ ≤ 140737488355328 ∧ 0 < (tyOf P e).by_ ∧ (tyOf P e).known = true ∧ get σ.row nm = none,
              σ.swap (hits (rs ++ [])) (rs ++ []) nm ⟨.own, (tyOf P e).sz, es ++ els⟩, some (.l (.ref nm [] (tyOf P e).sz 0 (es.length + els.length))))
          | true, _, pm => some (t' = t ∧ c1 = true ∧ c2 = true ∧ c3 ∧ c4 ∧ Flat els ∧ (es.length + els.length) * (tyOf P e).by_ ≤ 140737488355328 ∧ 0 < (tyOf P e).by_ ∧ (tyOf P e).known = true ∧ get σ.row nm = none ∧ pm ≠ .ro,
              σ.swap (hits rs) rs nm ⟨.top, (tyOf P e).sz, es ++ els⟩, some (.l (.ref nm [] (tyOf P e).sz 0 (es.length + els.length))))
          | false, some (r2, []), .own => match get σ.row r2 with
            | some row2 => match row2.pm with
              | .own => some (t' = t ∧ c1 = true ∧ c2 = true ∧ c3 ∧ c4 ∧ r2 ∉ rs ∧ (es.length + els.length) * (tyOf P e).by_ ≤ 140737488355328 ∧ 0 < (tyOf P e).by_ ∧ (tyOf P e).known = true ∧ get σ.row nm = none,
                  σ.swap (hits (rs ++ [r2])) (rs ++ [r2]) nm ⟨.own, (tyOf P e).sz, es ++ els⟩, some (.l (.ref nm [] (tyOf P e).sz 0 (es.length + els.length))))
              | _ => some (t' = t ∧ c1 = true ∧ c2 = true ∧ c3 ∧ c4 ∧ r2 ∉ rs ∧ (es.length + els.length) * (tyOf P e).by_ ≤ 140737488355328 ∧ 0 < (tyOf P e).by_ ∧ (tyOf P e).known = true ∧ get σ.row nm = none,
                  (σ.freeze [r2]).swap (hits rs) rs nm ⟨.top, (tyOf P e).sz, es ++ els⟩, some (.l (.ref nm [] (tyOf P e).sz 0 (es.length + els.length))))
            | none => none
          | false, some (r2, _), pm => some (t' = t ∧ c1 = true ∧ c2 = true ∧ c3 ∧ c4 ∧ r2 ∉ rs ∧ (es.length + els.length) * (tyOf P e).by_ ≤ 140737488355328 ∧ 0 < (tyOf P e).by_ ∧ (tyOf P e).known = true ∧ get σ.row nm = none ∧ pm ≠ .ro,
                  (σ.freeze [r2]).swap (hits rs) rs nm ⟨.top, (tyOf P e).sz, es ++ els⟩, some (.l (.ref nm [] (tyOf P e).sz 0 (es.length + els.length))))
          | false, none, .own => some (t' = t ∧ c1 = true ∧ c2 = true ∧ c3 ∧ c4 ∧ (es.length + els.length) * (tyOf P e).by_ ≤ 140737488355328 ∧ 0 < (tyOf P e).by_ ∧ (tyOf P e).known = true ∧ get σ.row nm = none,
              σ.swap (hits (rs ++ [])) (rs ++ []) nm ⟨.own, (tyOf P e).sz, es ++ els⟩, some (.l (.ref nm [] (tyOf P e).sz 0 (es.length + els.length))))
          | false, none, _ => none
        | _, _ => none
      | _, _, _ => none
    | _, _ => none
  | _ => none

section
variable {P : Program} {w0 w w' : World} {Al : Blks} {N : Nat} {g : Gh} {σ : St} {a : Act}

theorem known_info {t : TypeId} (h : (tyOf P t).known = true) : (P.info? t).isSome := by
  obtain ⟨i, _, hi, _⟩ := info_of_known h
  simp [hi]

theorem sz_cellsOf {t : TypeId} : (tyOf P t).sz = P.cellsOf t := rfl

theorem ze_rep {t : TypeId} (h : (tyOf P t).known = true) : ∃ i z, P.info? t = some i ∧ i.zero = some z ∧ RepLs w g σ (tyOf P t).ze z.cells.toList ∧ z.cells.size = (tyOf P t).sz := by
  obtain ⟨i, z, hi, hz, hze, hsz, _, hone, hs⟩ := info_of_known' h
  refine ⟨i, z, hi, hz, ?_, by rw [hs, hsz]⟩
  rw [hze]
  refine .of_nth (by simp) fun j l v hl hv => ?_
  simp only [List.getElem?_map, hv, Option.map_some, Option.some.injEq] at hl
  subst hl
  exact zeroLeaf_rep v (hone v (List.mem_of_getElem? hv))

theorem rel_newBox (R : Rel w0 Al N σ a w g) {nm : Nat} (h : get σ.box nm = none) {cs : Array Value} {e : TypeId} {ls : List L} (hr : RepLs w g σ ls cs.toList) :
    ∃ g', Rel w0 Al N { σ with box := (nm, ls) :: σ.box } a { w with heap := w.heap.push (.cells cs e) } g' ∧ RepV { w with heap := w.heap.push (.cells cs e) } g' { σ with box := (nm, ls) :: σ.box } (.l (.ptr nm 0)) (.pointer (some ⟨w.heap.size, 0, none⟩)) := by
  have hin := newBox_in R.mem h (e := e) hr
  refine ⟨_, R.turn (σ1 := { σ with box := (nm, ls) :: σ.box }) hin ⟨by rw [killE_no], (killS_no _).symm⟩ rfl rfl rfl, ?_, ?_⟩
  · simp [get]
  · simp

theorem rel_push (R : Rel w0 Al N σ a w g) (o : Obj) : Rel w0 Al N σ a { w with heap := w.heap.push o } g := by
  have hold : ∀ b, b < w.heap.size → (w.heap.push o)[b]? = w.heap[b]? := fun b hb => by rw [Array.getElem?_push, if_neg (by omega)]
  have hn : NewIn w { w with heap := w.heap.push o } g g σ { σ with env := killE (fun _ => false) σ.env } [] [] [] [] (fun _ => false) := by
    refine ⟨by simp [del_nil], by simp [del_nil, killB_no], fun b hb _ => hold b hb, by simp, fun _ _ _ => ⟨rfl, rfl⟩, fun _ _ _ => rfl, ?_, ?_, ?_, ?_, ?_, ?_, ?_, ?_, ?_, ?_, ?_, ?_, ?_⟩ <;> intros <;> simp_all [get]
  have := R.turn hn ⟨rfl, (killS_no _).symm⟩ rfl rfl rfl
  rwa [killE_no] at this

/-- A literal's cells. -/
theorem fill_seq (size : Nat) : ∀ (vs : List Value) (k : Nat) (cells : Array Value), (∀ v ∈ vs, v.cells.size = size) → (k + vs.length) * size ≤ cells.size →
    ∃ cs', Instr.fill (fun i => some (i * size, size)) cells (vs.zipIdx k |>.map fun q => (q.2, q.1)) = some cs' ∧
      cs'.toList = cells.toList.take (k * size) ++ vs.flatMap (fun v => v.cells.toList) ++ cells.toList.drop ((k + vs.length) * size)
  | [], k, cells, _, _ => ⟨cells, rfl, by simp⟩
  | v :: vs, k, cells, hv, hs => by
    have hvs : v.cells.size = size := hv v (by simp)
    have hk1 : (k + 1 + vs.length) * size ≤ cells.size := by simpa [Nat.add_assoc, Nat.add_comm 1] using hs
    have hk2 : (k + 1) * size ≤ cells.size := Nat.le_trans (Nat.mul_le_mul_right size (by omega)) hk1
    have hk3 : (k + 1) * size = k * size + size := by rw [Nat.add_mul, Nat.one_mul]
    have e := fold_set v.cells.toList 0 (k * size) cells (by simp; omega)
    simp only [Nat.add_zero] at e
    obtain ⟨cs', h1, h2⟩ := fill_seq size vs (k + 1) (v.cells.toList.zipIdx.foldl (fun (cs : Array Value) (p : Value × Nat) => cs.setIfInBounds (k * size + p.2) p.1) cells) (fun x hx => hv x (by simp [hx])) (by
      have : (v.cells.toList.zipIdx.foldl (fun (cs : Array Value) (p : Value × Nat) => cs.setIfInBounds (k * size + p.2) p.1) cells).size = cells.size := by
        rw [← Array.length_toList, e]; simp; omega
      rw [this]; exact hk1)
    refine ⟨cs', ?_, ?_⟩
    · simp only [List.zipIdx_cons, List.map_cons, Instr.fill]
      rw [if_neg (by simp; omega), ← Array.foldl_toList, Array.toList_zipIdx]
      exact h1
    · rw [h2, e]
      have l1 : (cells.toList.take (k * size)).length = k * size := by simp; omega
      have l2 : v.cells.toList.length = size := by simpa using hvs
      rw [List.flatMap_cons]
      have t1 : (cells.toList.take (k * size) ++ v.cells.toList ++ cells.toList.drop (k * size + v.cells.toList.length)).take ((k + 1) * size) = cells.toList.take (k * size) ++ v.cells.toList := by
        rw [List.take_append_of_le_length (by simp [l1]; omega)]
        exact List.take_of_length_le (by simp [l1]; omega)
      have t2 : (cells.toList.take (k * size) ++ v.cells.toList ++ cells.toList.drop (k * size + v.cells.toList.length)).drop ((k + 1 + vs.length) * size) = cells.toList.drop ((k + (vs.length + 1)) * size) := by
        have hge : (k + 1) * size ≤ (k + 1 + vs.length) * size := Nat.mul_le_mul_right size (by omega)
        rw [List.drop_append, List.drop_of_length_le (by simp [l1]; omega), List.nil_append, List.drop_drop]
        congr 1
        simp only [List.length_append, l1, l2]
        have : k + (vs.length + 1) = k + 1 + vs.length := by omega
        rw [this]
        omega
      rw [t1, t2]
      simp

theorem Rows.vals {lss : List (List L)} {vs vals : List Value} (h : Rows w g σ lss vs vals) : vals = vs.flatMap (fun v => v.cells.toList) ∧ vs.length = lss.length := by
  induction h with
  | nil => simp
  | cons h t ih => simp [ih.1, ih.2]

theorem Rows.sizes {lss : List (List L)} {vs vals : List Value} (h : Rows w g σ lss vs vals) {n : Nat} (hn : ∀ ls ∈ lss, ls.length = n) : ∀ v ∈ vs, v.cells.size = n := by
  induction h with
  | nil => simp
  | cons h t ih =>
    intro v hv
    rcases List.mem_cons.1 hv with rfl | hv
    · rw [← hn _ (List.mem_cons_self ..), h.length]; simp
    · exact ih (fun ls hl => hn ls (by simp [hl])) v hv

theorem parts_zip (parts : List (Nat × Operand)) (h : ∀ (i : Nat) q, parts[i]? = some q → q.1 = 0 + i) : parts.map (fun q => (q.1, a.eval q.2)) = ((parts.map fun q => a.eval q.2).zipIdx 0).map fun q => (q.2, q.1) := by
  apply List.ext_getElem?
  intro i
  simp only [List.getElem?_map, List.getElem?_zipIdx]
  cases hp : parts[i]? with
  | none => rfl
  | some q => simp [h i q hp]

theorem build_cells {t e : TypeId} (hu : (tyOf P t).u = .sl e) (hk : (tyOf P e).known = true) {n : Nat} {parts : Array (Nat × Operand)} {lss : List (List L)} {vals : List Value}
    (hr : Rows w g σ lss (parts.toList.map fun q => a.eval q.2) vals) (hi : ∀ (i : Nat) q, parts.toList[i]? = some q → q.1 = 0 + i) (hn : n = lss.length) (hl : ∀ ls ∈ lss, ls.length = (tyOf P e).sz) (hb : n * (tyOf P e).sz ≤ 16777216) :
    ∃ cs : Array Value, cs.toList = vals ∧ (Instr.buildSlice t n (parts.map fun q => (q.1, a.eval q.2))).run P w = .ok (.slice (some ⟨w.heap.size, 0, none⟩) n n) { w with heap := w.heap.push (.cells cs e) } := by
  obtain ⟨i, z, hi', hz, hze, hsz, _, hone, hzs⟩ := info_of_known' hk
  obtain ⟨hv1, hv2⟩ := hr.vals
  have hlen : (parts.toList.map fun q => a.eval q.2).length = n := by rw [hv2, hn]
  have hsizes := hr.sizes hl
  have main : ∀ zero : Array Value, ∃ cs' : Array Value, cs'.toList = vals ∧ Instr.fill (fun i => some (i * (tyOf P e).sz, (tyOf P e).sz)) ((Array.range (n * (tyOf P e).sz)).map fun x => zero[x % zero.size]!) (parts.map fun q => (q.1, a.eval q.2)).toList = some cs' := by
    intro zero
    obtain ⟨cs', h1, h2⟩ := fill_seq (tyOf P e).sz (parts.toList.map fun q => a.eval q.2) 0 ((Array.range (n * (tyOf P e).sz)).map fun x => zero[x % zero.size]!) hsizes (by rw [hlen]; simp)
    refine ⟨cs', ?_, ?_⟩
    · rw [h2, ← hv1, hlen]
      simp [List.drop_of_length_le]
    · rw [Array.toList_map, parts_zip parts.toList hi]
      exact h1
  have hnb : ¬ n * (tyOf P e).sz > 2 ^ 24 := by omega
  by_cases h0 : n * (tyOf P e).sz = 0
  · obtain ⟨cs', q1, q2⟩ := main #[]
    refine ⟨cs', q1, ?_⟩
    simp only [Instr.buildSlice, Sem.run_bind, run_underlying (u_sl hu), Result.andThen_ok, run_sizeOf' hk, hnb, if_false]
    rw [if_pos h0]
    simp only [Sem.run_bind, Sem.run_pure, Result.andThen_ok, q2]
    rfl
  · obtain ⟨cs', q1, q2⟩ := main z.cells
    refine ⟨cs', q1, ?_⟩
    simp only [Instr.buildSlice, Sem.run_bind, run_underlying (u_sl hu), Result.andThen_ok, run_sizeOf' hk, hnb, if_false]
    rw [if_neg h0]
    simp only [Sem.run_bind, zeroValue, typeInfo, run_program, Result.andThen_ok, hi', hz, Sem.run_pure, q2]
    rfl

end

end Go.Tw
