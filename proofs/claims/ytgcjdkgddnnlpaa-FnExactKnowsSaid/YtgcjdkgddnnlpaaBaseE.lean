/- The layer: trees, states, rules; plain functions. -/
import Derived.Test.YtgcjdkgddnnlpaaBaseD
set_option linter.unusedSimpArgs false
set_option linter.unusedVariables false
set_option linter.unnecessarySimpa false
namespace Go.Tw
inductive Sch where
  | nil
  | op (i : Nat) (r : Sch)
  | fork (i : Nat) (a : Sch) (j : Nat) (b : Sch)
  | fork3 (i : Nat) (a : Sch) (j : Nat) (b : Sch) (k : Nat) (c : Sch)
  | fork4 (i : Nat) (a : Sch) (j : Nat) (b : Sch) (k : Nat) (c : Sch) (m : Nat) (d : Sch)
  | sub (r : Sch)
def Sch.len : Sch → Nat
  | .nil => 0
  | .op _ r => r.len + 1
  | .fork _ a _ _ => a.len + 1
  | .fork3 _ a _ _ _ _ => a.len + 1
  | .fork4 _ a _ _ _ _ _ _ => a.len + 1
  | .sub r => r.len
def checkS (kc : Bool) (ops : Array Oper) : Sch → Array Bool → Bool
  | .nil, listed => (Region.ready .any ops listed).isEmpty
  | .op i r, listed => (Region.ready .any ops listed).contains i && (freeK kc ops listed i || Region.ready .any ops listed == [i]) && checkS kc ops r (listed.setIfInBounds i true)
  | .fork i a j b, listed => Region.ready .any ops listed == [i, j] && a.len == b.len && checkS kc ops a (listed.setIfInBounds i true) && checkS kc ops b (listed.setIfInBounds j true)
  | .fork3 i a j b k c, listed => Region.ready .any ops listed == [i, j, k] && a.len == b.len && a.len == c.len && checkS kc ops a (listed.setIfInBounds i true) && checkS kc ops b (listed.setIfInBounds j true) && checkS kc ops c (listed.setIfInBounds k true)
  | .fork4 i a j b k c m d, listed => Region.ready .any ops listed == [i, j, k, m] && a.len == b.len && a.len == c.len && a.len == d.len && checkS kc ops a (listed.setIfInBounds i true) && checkS kc ops b (listed.setIfInBounds j true) && checkS kc ops c (listed.setIfInBounds k true) && checkS kc ops d (listed.setIfInBounds m true)
  | .sub r, listed => checkS kc ops r listed
inductive SchO where
  | nil
  | op (o : Oper) (r : SchO)
  | fork (o : Oper) (a : SchO) (p : Oper) (b : SchO)
  | fork3 (o : Oper) (a : SchO) (p : Oper) (b : SchO) (q : Oper) (c : SchO)
  | fork4 (o : Oper) (a : SchO) (p : Oper) (b : SchO) (q : Oper) (c : SchO) (r : Oper) (d : SchO)
  | sub (r : SchO)
def Sch.ops (l : List Oper) : Sch → Option SchO
  | .nil => some .nil
  | .op i r => match l[i]?, r.ops l with
    | some o, some r' => some (.op o r')
    | _, _ => none
  | .fork i a j b => match l[i]?, a.ops l, l[j]?, b.ops l with
    | some o, some a', some p, some b' => some (.fork o a' p b')
    | _, _, _, _ => none
  | .fork3 i a j b k c => match l[i]?, a.ops l, l[j]?, b.ops l, l[k]?, c.ops l with
    | some o, some a', some p, some b', some q, some c' => some (.fork3 o a' p b' q c')
    | _, _, _, _, _, _ => none
  | .fork4 i a j b k c m d => match l[i]?, a.ops l, l[j]?, b.ops l, l[k]?, c.ops l, l[m]?, d.ops l with
    | some o, some a', some p, some b', some q, some c', some r, some d' => some (.fork4 o a' p b' q c' r d')
    | _, _, _, _, _, _, _, _ => none
  | .sub r => match r.ops l with
    | some r' => some (.sub r')
    | none => none
def RunS (P : Program) (N : Nat) (k : Bool) (ops : List Oper) (K : St → Prop) : SchO → St → Prop
  | .nil, σ => K σ
  | .op o r, σ => Step P N k ops o σ (RunS P N k ops K r)
  | .fork o a p b, σ => Step P N k ops o σ (RunS P N k ops K a) ∧ Step P N k ops p σ (RunS P N k ops K b)
  | .fork3 o a p b q c, σ => Step P N k ops o σ (RunS P N k ops K a) ∧ Step P N k ops p σ (RunS P N k ops K b) ∧ Step P N k ops q σ (RunS P N k ops K c)
  | .fork4 o a p b q c r d, σ => Step P N k ops o σ (RunS P N k ops K a) ∧ Step P N k ops p σ (RunS P N k ops K b) ∧ Step P N k ops q σ (RunS P N k ops K c) ∧ Step P N k ops r σ (RunS P N k ops K d)
  | .sub r, σ => ∃ σ', Sub σ σ' ∧ RunS P N k ops K r σ'
section
variable {kc : Bool} {P : Program} {w0 w w' : World} {Al : Blks} {N : Nat} {g : Gh} {σ : St} {a : Act} {ops : Array Oper} {Q : Exit → Act → World → Prop}
theorem RunS_sound {l : List Oper} {K : St → Prop} (hsel : Region.noSelect l.toArray = true) (hQ : ∀ c a w, ¬ Q (.panic c) a w) (hK : ∀ σ' a' w' g', Rel w0 Al N σ' a' w' g' → K σ' → Q .normal a' w') :
    ∀ (s : Sch) (os : SchO) (listed : Array Bool) (σ : St) (a : Act) (w : World) (g : Gh), checkS kc l.toArray s listed = true → s.ops l = some os → RunS P N kc l K os σ → Rel w0 Al N σ a w g →
      wpAnyK kc P l.toArray Q s.len listed a w
  | .nil, os, listed, σ, a, w, g, hc, ho, h, R => by
    simp only [Sch.ops, Option.some.injEq] at ho
    subst ho
    simp only [checkS, List.isEmpty_iff] at hc
    exact ⟨hc, hK σ a w g R h⟩
  | .op i rest, os, listed, σ, a, w, g, hc, ho, h, R => by
    simp only [Sch.ops] at ho
    split at ho
    · rename_i o r' ho1 hos
      simp only [Option.some.injEq] at ho
      subst ho
      have ho : l.toArray[i]? = some o := by simpa using ho1
      simp only [checkS, Bool.and_eq_true, Bool.or_eq_true] at hc
      obtain ⟨⟨hrd, hone⟩, hrest⟩ := hc
      have hrd : i ∈ Region.ready .any l.toArray listed := by simpa using hrd
      simp only [RunS] at h
      rcases hone with hfr | hone
      · obtain ⟨hpv, hfree⟩ := freeK_spec ho hfr
        obtain ⟨hd, h⟩ := h
        have hd' : ∀ t, o.dst = some t → t < N := by
          intro t ht
          rw [ht] at hd
          exact hd
        split at h
        · exact h.elim
        · rename_i G hG
          have hw := guardOf_run R hG
          simp only [hpv] at h
          split at h
          · rename_i c v hp
            obtain ⟨hc, h⟩ := h
            cases G with
            | true =>
              obtain ⟨r, hr, hv⟩ : ∃ r, (∀ w1, (stillOp o.op = true ∨ Kept w w1) → (execOp a.eval o).run P w1 = .ok (.value r) w1) ∧ RepV w g σ v r := by
                cases hst : stillOp o.op with
                | true =>
                  obtain ⟨r, hr, hv⟩ := pv_still R.mem R.slots hp (hc rfl) hst
                  exact ⟨r, fun w1 _ => hr w1, hv⟩
                | false =>
                  obtain ⟨r, hr, hv⟩ := pv_runs R.mem R.slots hp (hc rfl)
                  exact ⟨r, fun w1 h => hr w1 (h.resolve_left (by simp)), hv⟩
              refine wpAnyK_first ho (Region.noSelect_spec hsel) (fun c a w h => (hQ c _ w h).elim) rest.len listed a w hfree hrd (v := r) (Or.inl ⟨hw, hr⟩) ?_
              exact RunS_sound hsel hQ hK rest r' _ _ _ w g hrest hos h (R.put hd' (fun _ => hv) (fun e => by cases e))
            | false =>
              refine wpAnyK_first ho (Region.noSelect_spec hsel) (fun c a w h => (hQ c _ w h).elim) rest.len listed a w hfree hrd (v := undef) (Or.inr ⟨hw, rfl⟩) ?_
              exact RunS_sound hsel hQ hK rest r' _ _ _ w g hrest hos h (R.put hd' (fun e => by cases e) (fun _ => rfl))
          · exact h.elim
      · have hone : Region.ready .any l.toArray listed = [i] := by simpa using hone
        refine ⟨fun h => (by rw [h] at hone; cases hone), fun j hj => ?_⟩
        rw [hone] at hj
        obtain rfl : j = i := by simpa using hj
        exact Step_wpOp (fun h => h) ho R h fun σ' a' w' g' R' hn hk => ⟨fun hg => hk hg, RunS_sound hsel hQ hK rest r' _ _ _ w' g' hrest hos hn R'⟩
    · cases ho
  | .fork i sa j sb, os, listed, σ, a, w, g, hc, ho, h, R => by
    simp only [Sch.ops] at ho
    split at ho
    · rename_i o a' p b' ho1 ha hp1 hb
      simp only [Option.some.injEq] at ho
      subst ho
      have ho : l.toArray[i]? = some o := by simpa using ho1
      have hp : l.toArray[j]? = some p := by simpa using hp1
      simp only [checkS, Bool.and_eq_true, beq_iff_eq] at hc
      obtain ⟨⟨⟨hrd, hlen⟩, hca⟩, hcb⟩ := hc
      obtain ⟨h1, h2⟩ := h
      refine ⟨fun h => (by rw [h] at hrd; cases hrd), fun q hq => ?_⟩
      rw [hrd] at hq
      simp only [List.mem_cons, List.not_mem_nil, or_false] at hq
      rcases hq with rfl | rfl
      · exact Step_wpOp (fun h => h) ho R h1 fun σ' a1 w' g' R' hn hk => ⟨fun hg => hk hg, RunS_sound hsel hQ hK sa a' _ _ _ w' g' hca ha hn R'⟩
      · refine Step_wpOp (fun h => h) hp R h2 fun σ' a1 w' g' R' hn hk => ⟨fun hg => hk hg, ?_⟩
        have := RunS_sound hsel hQ hK sb b' _ _ _ w' g' hcb hb hn R'
        rw [← hlen] at this
        exact this
    · cases ho
  | .fork3 i sa j sb k sc, os, listed, σ, a, w, g, hc, ho, h, R => by
    simp only [Sch.ops] at ho
    split at ho
    · rename_i o a' p b' q c' ho1 ha hp1 hb hq1 hc1
      simp only [Option.some.injEq] at ho
      subst ho
      have ho : l.toArray[i]? = some o := by simpa using ho1
      have hp : l.toArray[j]? = some p := by simpa using hp1
      have hq' : l.toArray[k]? = some q := by simpa using hq1
      simp only [checkS, Bool.and_eq_true, beq_iff_eq] at hc
      obtain ⟨⟨⟨⟨⟨hrd, hlen⟩, hlen2⟩, hca⟩, hcb⟩, hcc⟩ := hc
      obtain ⟨h1, h2, h3⟩ := h
      refine ⟨fun h => (by rw [h] at hrd; cases hrd), fun q hq => ?_⟩
      rw [hrd] at hq
      simp only [List.mem_cons, List.not_mem_nil, or_false] at hq
      rcases hq with rfl | rfl | rfl
      · exact Step_wpOp (fun h => h) ho R h1 fun σ' a1 w' g' R' hn hk => ⟨fun hg => hk hg, RunS_sound hsel hQ hK sa a' _ _ _ w' g' hca ha hn R'⟩
      · refine Step_wpOp (fun h => h) hp R h2 fun σ' a1 w' g' R' hn hk => ⟨fun hg => hk hg, ?_⟩
        have := RunS_sound hsel hQ hK sb b' _ _ _ w' g' hcb hb hn R'
        rw [← hlen] at this
        exact this
      · refine Step_wpOp (fun h => h) hq' R h3 fun σ' a1 w' g' R' hn hk => ⟨fun hg => hk hg, ?_⟩
        have := RunS_sound hsel hQ hK sc c' _ _ _ w' g' hcc hc1 hn R'
        rw [← hlen2] at this
        exact this
    · cases ho
  | .fork4 i sa j sb k sc m sd, os, listed, σ, a, w, g, hc, ho, h, R => by
    simp only [Sch.ops] at ho
    split at ho
    · rename_i o a' p b' q c' r d' ho1 ha hp1 hb hq1 hc1 hr1 hd1
      simp only [Option.some.injEq] at ho
      subst ho
      have ho : l.toArray[i]? = some o := by simpa using ho1
      have hp : l.toArray[j]? = some p := by simpa using hp1
      have hq' : l.toArray[k]? = some q := by simpa using hq1
      have hr' : l.toArray[m]? = some r := by simpa using hr1
      simp only [checkS, Bool.and_eq_true, beq_iff_eq] at hc
      obtain ⟨⟨⟨⟨⟨⟨⟨hrd, hlen⟩, hlen2⟩, hlen3⟩, hca⟩, hcb⟩, hcc⟩, hcd⟩ := hc
      obtain ⟨h1, h2, h3, h4⟩ := h
      refine ⟨fun h => (by rw [h] at hrd; cases hrd), fun q hq => ?_⟩
      rw [hrd] at hq
      simp only [List.mem_cons, List.not_mem_nil, or_false] at hq
      rcases hq with rfl | rfl | rfl | rfl
      · exact Step_wpOp (fun h => h) ho R h1 fun σ' a1 w' g' R' hn hk => ⟨fun hg => hk hg, RunS_sound hsel hQ hK sa a' _ _ _ w' g' hca ha hn R'⟩
      · refine Step_wpOp (fun h => h) hp R h2 fun σ' a1 w' g' R' hn hk => ⟨fun hg => hk hg, ?_⟩
        have := RunS_sound hsel hQ hK sb b' _ _ _ w' g' hcb hb hn R'
        rw [← hlen] at this
        exact this
      · refine Step_wpOp (fun h => h) hq' R h3 fun σ' a1 w' g' R' hn hk => ⟨fun hg => hk hg, ?_⟩
        have := RunS_sound hsel hQ hK sc c' _ _ _ w' g' hcc hc1 hn R'
        rw [← hlen2] at this
        exact this
      · refine Step_wpOp (fun h => h) hr' R h4 fun σ' a1 w' g' R' hn hk => ⟨fun hg => hk hg, ?_⟩
        have := RunS_sound hsel hQ hK sd d' _ _ _ w' g' hcd hd1 hn R'
        rw [← hlen3] at this
        exact this
    · cases ho
  | .sub rest, os, listed, σ, a, w, g, hc, ho, h, R => by
    simp only [Sch.ops] at ho
    split at ho
    · rename_i r' hos
      simp only [Option.some.injEq] at ho
      subst ho
      obtain ⟨σ', hs, h⟩ := h
      obtain ⟨g', R'⟩ := hs _ _ _ _ _ _ R
      exact RunS_sound hsel hQ hK rest r' listed σ' a w g' hc hos h R'
    · cases ho
theorem W_drawS (kc : Bool) {id : Nat} {l : List Oper} {K : Exit → St → Prop} (s : Sch) (hm : P.follows .mixedOrders = true)
    (hc : (s.len == l.length && Region.noSelect l.toArray && checkS kc l.toArray s (Array.replicate l.length false)) = true) {os : SchO} (ho : s.ops l = some os) (h : RunS P N kc l (K .normal) os σ) : W P N (.region id l.toArray true) K σ := by
  simp only [Bool.and_eq_true, beq_iff_eq] at hc
  obtain ⟨⟨hl, hsel⟩, hc⟩ := hc
  intro w0 Al a w g R
  let Q : Exit → Act → World → Prop := fun e a w => e = .normal ∧ Lift w0 Al N K .normal a w
  have key : (Code.region id l.toArray true).wp P Q a w := by
    refine wp_region_any hm (wpAny_of_K (kc := kc) _ _ _ _ ?_)
    have hQ1 : ∀ c a w, ¬ Q (.panic c) a w := by
      intro c a w h
      have := h.1
      cases this
    have hQ2 : ∀ σ' a' w' g', Rel w0 Al N σ' a' w' g' → K .normal σ' → Q .normal a' w' := by
      intro σ' a' w' g' R' hK
      exact ⟨rfl, σ', g', R', hK⟩
    have := RunS_sound (kc := kc) (P := P) (N := N) (Q := Q) (K := K .normal) hsel hQ1 hQ2 s os (Array.replicate l.length false) σ a { w with drawn := w.drawn + 1 } g hc ho h R.drew
    rw [hl] at this
    simpa using this
  refine wp_mono key fun e a' w' hq => ?_
  obtain ⟨rfl, hq⟩ := hq
  exact hq
end
attribute [go_sem] RunS
end Go.Tw

namespace Go.Tw
theorem Sub.swp_box (a b : Nat) {σ σ' : St} (h : σ.ren (fun n => n) (swp a b) = σ') : Sub σ σ' := by
  subst h
  exact Sub.ren (fun _ => rfl) (swp_swp a b)
theorem Sub.nilBox {σ : St} {k j nm z : Nat} {ls : List L} (hb : get σ.box k = some ls) (hj : ls[j]? = some .nil) (hnm : get σ.row nm = none) :
    Sub σ { σ with box := (k, ls.set j (.ref nm [] z 0 0)) :: del [k] σ.box, row := (nm, ⟨.own, z, []⟩) :: σ.row } := by
  intro w0 Al N a w g R
  obtain ⟨cs0, e0, hc0, hr0⟩ := R.mem.box k ls hb
  obtain ⟨v0, hv0, oa, rfl⟩ := hr0.nth hj
  have hrep : Rep w true (.slice oa 0 0) (.sl z []) fun _ => False := by
    cases oa with
    | none => exact .nils
    | some ad => exact .bare
  let g' : Gh := ⟨g.bx, fun k => if k = nm then .slice oa 0 0 else g.rw k, fun k => if k = nm then fun _ => False else g.fp k⟩
  let σ1 : St := { σ with row := (nm, ⟨.own, z, []⟩) :: σ.row }
  have hin : NewIn w w g g' σ σ1 [] [] [(nm, ⟨.own, z, []⟩)] [] (fun _ => false) := by
    have hk : ∀ k row, get [(nm, (⟨.own, z, []⟩ : Row))] k = some row → k = nm ∧ row = ⟨.own, z, []⟩ := by
      intro k row h
      simp only [get] at h
      split at h
      · rename_i e
        simp only [Option.some.injEq] at h
        exact ⟨e, h.symm⟩
      · cases h
    refine ⟨by simp [σ1, del_nil], by simp [σ1, del_nil, killB_no], fun _ _ _ => rfl, Nat.le_refl _, fun r _ hr => ?_, fun _ _ _ => rfl, fun k row h => ?_, fun k ls h => by simp [get] at h, ?_, ?_, ?_, ?_, fun k ls h => by simp [get] at h, ?_, fun k ls r row h => by simp [get] at h, fun k k' ls ls' h => by simp [get] at h, fun k ls h => by simp [get] at h, fun _ _ r p _ _ h => by simp at h, fun _ _ b _ _ h => by simp at h⟩
    · have : r ≠ nm := fun e => by subst e; rw [hnm] at hr; cases hr
      simp [g', this]
    · obtain ⟨rfl, _⟩ := hk k row h; exact Or.inr hnm
    · intro k row h _; obtain ⟨rfl, rfl⟩ := hk k row h; simp only [g', if_true]; exact hrep
    · intro k row h hp; obtain ⟨_, rfl⟩ := hk k row h; cases hp
    · intro k row h hp; obtain ⟨_, rfl⟩ := hk k row h; cases hp
    · intro k row b h _ hb; obtain ⟨rfl, _⟩ := hk k row h; simp [g'] at hb
    · intro r r' row row' b h h' _ _ hb; obtain ⟨rfl, _⟩ := hk r row h; simp [g'] at hb
  have R1 := R.turn hin (σ1 := σ1) ⟨by rw [killE_no], (killS_no _).symm⟩ rfl rfl rfl
  let σ2 : St := { σ1 with box := (k, ls.set j (.ref nm [] z 0 0)) :: del [k] σ.box }
  have hb1 : get σ1.box k = some ls := hb
  obtain ⟨cs, e, hc, hr⟩ := R1.mem.box k ls hb1
  have hcs : cs = cs0 := by
    have h : g'.bx k = g.bx k := rfl
    rw [h, hc0] at hc
    simp only [Option.some.injEq, Obj.cells.injEq] at hc
    exact hc.1.symm
  subst hcs
  have hst : ∀ l : L, StaysL w w g' g' σ1 σ2 l := fun l => ⟨fun r p _ row h => ⟨row, h, rfl, fun z es u h1 h2 => ⟨es, h1, rfl, h2⟩⟩, fun b _ h => ⟨by
    simp only [σ2, get]
    split
    · rfl
    · rename_i hne
      rw [get_del, if_neg (by simpa using fun e : b = k => hne (by first | exact e | exact e.symm))]
      exact h, rfl⟩⟩
  have hk2 : ∀ k' (ls' : List L), get [(k, ls.set j (.ref nm [] z 0 0))] k' = some ls' → k' = k ∧ ls' = ls.set j (.ref nm [] z 0 0) := by
    intro k' ls' h
    simp only [get] at h
    split at h
    · rename_i e
      simp only [Option.some.injEq] at h
      exact ⟨e, h.symm⟩
    · cases h
  have hin2 : NewIn w w g' g' σ1 σ2 [] [k] [] [(k, ls.set j (.ref nm [] z 0 0))] (fun _ => false) := by
    refine ⟨by simp [σ2, del_nil], by simp [σ2, σ1, killB_no], fun _ _ _ => rfl, Nat.le_refl _, fun _ _ _ => ⟨rfl, rfl⟩, fun _ _ _ => rfl, fun k row h => by simp [get] at h, fun k' ls' h => ?_, fun k row h => by simp [get] at h, fun k row h => by simp [get] at h, fun k row h => by simp [get] at h, fun k row b h => by simp [get] at h, fun k' ls' h => ?_, fun r r' row row' b h => by simp [get] at h, fun k ls r row _ h => by simp [get] at h, fun k1 k2 l1 l2 h1 h2 _ => ?_, fun k' ls' h => ?_, fun _ _ r p _ _ h => by simp at h, fun _ _ b _ _ h => ?_⟩
    · obtain ⟨rfl, _⟩ := hk2 _ _ h; exact Or.inl (by simp)
    · obtain ⟨rfl, _⟩ := hk2 _ _ h
      exact ⟨Or.inl (Or.inr ⟨_, ls, by simp, hb1, rfl⟩), R1.mem.lt _ (Or.inl ⟨_, ls, hb1, rfl⟩)⟩
    · rw [(hk2 _ _ h1).1, (hk2 _ _ h2).1]
    · obtain ⟨rfl, rfl⟩ := hk2 _ _ h
      refine ⟨cs, e, hc, .of_nth (by simp [hr.length]) fun i l v hl hv => ?_⟩
      rw [List.getElem?_set] at hl
      split at hl
      · rename_i hij
        subst hij
        split at hl
        · simp only [Option.some.injEq] at hl
          subst hl
          rw [hv0] at hv
          simp only [Option.some.injEq] at hv
          subst hv
          exact ⟨⟨.own, z, []⟩, [], .slice oa 0 0, by simp [σ2, σ1, get], rfl, by simp [valAt, g'], by simp, View.whole _ _ _ _ _⟩
        · cases hl
      · obtain ⟨v', hv', hrl⟩ := hr.nth hl
        rw [hv'] at hv
        simp only [Option.some.injEq] at hv
        subst hv
        exact hrl.stays (hst l)
    · simp only [List.mem_singleton] at h
      subst h
      exact ⟨by simp [get], rfl⟩
  exact ⟨g', R1.turn hin2 (σ1 := σ2) ⟨by rw [killE_no], (killS_no _).symm⟩ rfl rfl rfl⟩
end Go.Tw

namespace Go.Tw
section
variable {w : World} {g : Gh} {σ σ' : St}
theorem stays_get (hr : ∀ k, get σ'.row k = get σ.row k) (hb : ∀ k, get σ'.box k = get σ.box k) (l : L) : StaysL w w g g σ σ' l :=
  ⟨fun r p _ row h => ⟨row, (hr r).trans h, rfl, fun z es u h1 h2 => ⟨es, h1, rfl, h2⟩⟩, fun b _ h => ⟨by rw [hb]; exact h, rfl⟩⟩
theorem owned_get (hr : ∀ k, get σ'.row k = get σ.row k) (hb : ∀ k, get σ'.box k = get σ.box k) : Owned g σ' = Owned g σ := by
  funext b
  simp only [Owned, hr, hb]
theorem mem_get (hr : ∀ k, get σ'.row k = get σ.row k) (hb : ∀ k, get σ'.box k = get σ.box k) (m : Mem w g σ) : Mem w g σ' := by
  have ho := owned_get (g := g) hr hb
  refine ⟨fun k ls h => ?_, fun r row h hp => m.own r row (hr r ▸ h) hp, fun r row h hp => ?_, fun r row h hp => ?_, fun k k' ls ls' h h' e => m.bb k k' ls ls' (hb k ▸ h) (hb k' ▸ h') e,
    fun k ls r row h h' hp => m.br k ls r row (hb k ▸ h) (hr r ▸ h') hp, fun r r' row row' b h h' hp hp' => m.rr r r' row row' b (hr r ▸ h) (hr r' ▸ h') hp hp', fun b h => m.lt b (ho ▸ h)⟩
  · obtain ⟨cs, e, h1, h2⟩ := m.box k ls (hb k ▸ h)
    exact ⟨cs, e, h1, h2.stays fun l _ => stays_get hr hb l⟩
  · rw [ho]; exact m.top r row (hr r ▸ h) hp
  · rw [ho]; exact m.ro r row (hr r ▸ h) hp
theorem Sub.same_get (he : σ'.env = σ.env) (hs : σ'.sav = σ.sav) (hr : ∀ k, get σ'.row k = get σ.row k) (hb : ∀ k, get σ'.box k = get σ.box k) : Sub σ σ' := fun w0 Al N a w g R => by
  obtain ⟨h1, h2, h3, h4, h5, h6, h7, h8, h9, h10, h11, h12⟩ := R
  refine ⟨g, ⟨fun t c v hg hc => ?_, fun t c v hg hc => h1.no t c v (he ▸ hg) hc⟩, he ▸ h2, mem_get hr hb h3, by rw [owned_get hr hb]; exact h4, h5, h6, h7, h8, h9, h10, h11, fun x hx => ?_⟩
  · exact (h1.yes t c v (he ▸ hg) hc).stays fun l _ => stays_get hr hb l
  · obtain ⟨q1, q2, q3⟩ := h12 x (hs ▸ hx)
    exact ⟨fun t c v h hc => (q1 t c v h hc).stays fun l _ => stays_get hr hb l, q2, q3⟩
end
def picks {α : Type} (xs : List (Nat × α)) (ks : List Nat) : List (Nat × α) := ks.filterMap fun k => (get xs k).map fun x => (k, x)
theorem get_picks {α : Type} (xs : List (Nat × α)) : ∀ (ks : List Nat) (n : Nat), get (picks xs ks) n = if n ∈ ks then get xs n else none
  | [], n => by simp [picks, get]
  | k :: ks, n => by
    have ih := get_picks xs ks n
    unfold picks at *
    simp only [List.filterMap_cons]
    cases h : get xs k with
    | none =>
      simp only [Option.map_none]
      rw [ih]
      by_cases e : n = k
      · subst e; simp [h]
      · simp [e]
    | some x =>
      simp only [Option.map_some, get]
      by_cases e : n = k
      · subst e; simp [h]
      · simp only [e, if_false]; rw [ih]; simp [e]
def St.sorted (σ : St) (rs bs : List Nat) : St := { σ with row := picks σ.row rs, box := picks σ.box bs }
theorem mem_keys {α : Type} : ∀ {xs : List (Nat × α)} {k : Nat}, get xs k ≠ none → k ∈ xs.map (·.1)
  | [], _, h => by simp [get] at h
  | (j, x) :: xs, k, h => by
    simp only [get] at h
    by_cases e : k = j
    · subst e; simp
    · simp only [e, if_false] at h
      simp only [List.map_cons, List.mem_cons]
      exact Or.inr (mem_keys h)
def St.neat (σ : St) (ts rs bs : List Nat) (n : Nat) : St := { ((σ.tidy ts rs bs n).sorted rs bs) with nxt := n }
theorem Sub.neat {σ : St} (ts rs bs : List Nat) (n : Nat) (hn : ts.Nodup) : Sub σ (σ.neat ts rs bs n) := by
  refine (Sub.of_tidy ts rs bs n hn rfl).trans ?_
  refine Sub.trans (σ2 := (σ.tidy ts rs bs n).sorted rs bs) (Sub.same_get rfl rfl (fun k => ?_) fun k => ?_) (Sub.num n)
  · simp only [St.sorted, get_picks]
    split
    · rfl
    · rename_i hk
      simp only [St.tidy, St.drop]
      rw [get_del]
      split
      · rfl
      · rename_i hd
        cases h : get (σ.only ts).row k with
        | none => rfl
        | some x =>
          exfalso
          refine hd ?_
          simp only [List.mem_filter]
          exact ⟨mem_keys (xs := σ.row) (by rw [show get σ.row k = get (σ.only ts).row k from rfl, h]; simp), by simpa using hk⟩
  · simp only [St.sorted, get_picks]
    split
    · rfl
    · rename_i hk
      simp only [St.tidy, St.drop]
      rw [get_killB, get_del]
      split
      · rfl
      · rename_i hd
        cases h : get (σ.only ts).box k with
        | none => rfl
        | some x =>
          exfalso
          refine hd ?_
          simp only [List.mem_filter]
          exact ⟨mem_keys (xs := σ.box) (by rw [show get σ.box k = get (σ.only ts).box k from rfl, h]; simp), by simpa using hk⟩
theorem Sub.of_neat {σ σ' : St} (ts rs bs : List Nat) (n : Nat) (hn : ts.Nodup) (h : σ.neat ts rs bs n = σ') : Sub σ σ' := h ▸ Sub.neat ts rs bs n hn
theorem frz_nil (rs : List Nat) : frz rs [] = [] := rfl
theorem frz_cons (rs : List Nat) (k : Nat) (x : Row) (xs : List (Nat × Row)) : frz rs ((k, x) :: xs) = if rs.contains k = true then (k, { x with pm := .ro }) :: frz rs xs else frz rs xs := by
  unfold frz
  rw [List.filter_cons]
  cases rs.contains k <;> simp
attribute [go_sem] St.neat St.sorted picks St.freeze frz_nil frz_cons
end Go.Tw

namespace Go.Tw
def pfx : Path → Path → Prop
  | [], _ => True
  | (i, j) :: q, (i', j') :: p => i' = i ∧ j' = j ∧ pfx q p
  | _ :: _, [] => False
instance pfxDec : ∀ (q p : Path), Decidable (pfx q p)
  | [], _ => isTrue (by simp [pfx])
  | (i, j) :: q, (i', j') :: p => by
    have := pfxDec q p
    unfold pfx
    infer_instance
  | _ :: _, [] => isFalse (by simp [pfx])
section
variable {w w' : World} {g g' : Gh} {σ σ' : St} {φ : L → L}
end
attribute [go_sem] pfx
end Go.Tw

namespace Go.Tw
section
variable {P : Program} {w0 w : World} {Al : Blks} {N : Nat} {g : Gh} {σ : St} {a : Act}
end
end Go.Tw

namespace Go.Tw
theorem markE_add (k : Int) (a : Nat) : ∀ b, markE (markE k a) b = markE k (a + b)
  | 0 => rfl
  | b + 1 => by show IntKind.wrap .i64 (markE (markE k a) b + 1) = _; rw [markE_add k a b]; rfl
theorem markE_zero (k : Int) : markE k 0 = k := rfl
theorem markE_nn (m : Nat) (h : m ≤ 4611686018427387904) : 0 ≤ markE 1 m := by rw [markE_pos _ _ (by omega) (by omega)]; omega
def mB (k : Int) (i : Nat) : Bool := (markE k i).tmod 3 == 0
theorem mB_def (k : Int) (i : Nat) : ((markE k i).tmod 3 == 0) = mB k i := rfl
theorem upto_getE {α : Type} (f : Nat → α) (xs : List α) {i : Nat} (h : i < xs.length) (h2 : i < (upto f xs i).length) : (upto f xs i)[i] = xs[i] := by
  have := upto_get f xs h
  rw [List.getElem?_eq_getElem h2] at this
  simpa using this
theorem cnt_le {α : Type} {f g : α → Nat} (h : ∀ a, f a ≤ 9 * (1 + g a)) : ∀ xs : List α, (xs.map f).sum ≤ 9 * (xs.length + (xs.map g).sum)
  | [] => by simp
  | x :: xs => by have := h x; have := cnt_le h xs; simp only [List.map_cons, List.sum_cons, List.length_cons]; omega
def mWait (k : Int) (i : Nat) : GWait := ⟨markE k (2 * i), mB k (2 * i + 1)⟩
def mReceiver (k : Int) (i : Nat) : GReceiver := ⟨markE k (i)⟩
def fIntS (k : Int) (xs : List (List Int)) (j : Nat) : List Int := marks (markE k (sumTo List.length xs j)) (xs.getD j []).length
theorem fIntS_at {k : Int} {xs : List (List Int)} {i : Nat} (h : i < xs.length) : fIntS k xs i = marks (markE k (sumTo List.length xs i)) xs[i].length := by simp [fIntS, h]
def nMsg (x : GMsg) : Nat := 3 + x.list.length
def mkMsg (k : Int) (s : Nat) (x : GMsg) : GMsg := ⟨markE k (s), markE k (s + 1), mB k (s + 2), marks (markE k (s + 3)) x.list.length⟩
def fMsg (k : Int) (xs : List GMsg) (j : Nat) : GMsg := mkMsg k (sumTo nMsg xs j) (xs.getD j (⟨0, 0, false, []⟩ : GMsg))
theorem fMsg_at {k : Int} {xs : List GMsg} {i : Nat} (h : i < xs.length) : fMsg k xs i = mkMsg k (sumTo nMsg xs i) xs[i] := by simp [fMsg, h]
def nvMsg (x : GMsg) : Nat := x.list.length
theorem nMsg_le (x : GMsg) : nMsg x ≤ 9 * (1 + x.tot) := by
  unfold nMsg GMsg.tot
  omega
def nSender (x : GSender) : Nat := 1 + (x.queue.map nMsg).sum
def mkSender (k : Int) (s : Nat) (x : GSender) : GSender := ⟨markE k (s), (List.range x.queue.length).map (fMsg (markE k (s + 1)) x.queue)⟩
def fSender (k : Int) (xs : List GSender) (j : Nat) : GSender := mkSender k (sumTo nSender xs j) (xs.getD j (⟨0, []⟩ : GSender))
theorem fSender_at {k : Int} {xs : List GSender} {i : Nat} (h : i < xs.length) : fSender k xs i = mkSender k (sumTo nSender xs i) xs[i] := by simp [fSender, h]
def nvSender (x : GSender) : Nat := (x.queue.map nMsg).sum
theorem nSender_le (x : GSender) : nSender x ≤ 9 * (1 + x.tot) := by
  have := cnt_le (f := nMsg) (g := fun a => a.tot) nMsg_le x.queue
  unfold nSender GSender.tot
  omega
def nPacket (x : GPacket) : Nat := 7 + x.msg.list.length
def mkPacket (k : Int) (s : Nat) (x : GPacket) : GPacket := ⟨markE k (s), markE k (s + 1), mB k (s + 2), markE k (s + 3), ⟨markE k (s + 4), markE k (s + 5), mB k (s + 6), marks (markE k (s + 7)) x.msg.list.length⟩⟩
def fPacket (k : Int) (xs : List GPacket) (j : Nat) : GPacket := mkPacket k (sumTo nPacket xs j) (xs.getD j (⟨0, 0, false, 0, ⟨0, 0, false, []⟩⟩ : GPacket))
theorem fPacket_at {k : Int} {xs : List GPacket} {i : Nat} (h : i < xs.length) : fPacket k xs i = mkPacket k (sumTo nPacket xs i) xs[i] := by simp [fPacket, h]
def nvPacket (x : GPacket) : Nat := x.msg.list.length
theorem nPacket_le (x : GPacket) : nPacket x ≤ 9 * (1 + x.tot) := by
  unfold nPacket GPacket.tot GMsg.tot
  omega
def nFrame (x : GFrame) : Nat := 1 + x.list.length + 1
def mkFrame (k : Int) (s : Nat) (x : GFrame) : GFrame := ⟨markE k (s), marks (markE k (s + 1)) x.list.length, mB k (s + 1 + x.list.length)⟩
def fFrame (k : Int) (xs : List GFrame) (j : Nat) : GFrame := mkFrame k (sumTo nFrame xs j) (xs.getD j (⟨0, [], false⟩ : GFrame))
theorem fFrame_at {k : Int} {xs : List GFrame} {i : Nat} (h : i < xs.length) : fFrame k xs i = mkFrame k (sumTo nFrame xs i) xs[i] := by simp [fFrame, h]
def nvFrame (x : GFrame) : Nat := x.list.length
theorem nFrame_le (x : GFrame) : nFrame x ≤ 9 * (1 + x.tot) := by
  unfold nFrame GFrame.tot
  omega
def nHome (x : GHome) : Nat := x.list.length + 1 + x.readers.length + 4 + 2 * x.queue.length
def mkHome (k : Int) (s : Nat) (x : GHome) : GHome := ⟨marks (markE k (s)) x.list.length, markE k (s + x.list.length), (List.range x.readers.length).map (mB (markE k (s + x.list.length + 1))), mB k (s + x.list.length + 1 + x.readers.length), ⟨markE k (s + x.list.length + 1 + x.readers.length + 1), mB k (s + x.list.length + 1 + x.readers.length + 2)⟩, markE k (s + x.list.length + 1 + x.readers.length + 3), (List.range x.queue.length).map (mWait (markE k (s + x.list.length + 1 + x.readers.length + 4)))⟩
def fHome (k : Int) (xs : List GHome) (j : Nat) : GHome := mkHome k (sumTo nHome xs j) (xs.getD j (⟨[], 0, [], false, ⟨0, false⟩, 0, []⟩ : GHome))
theorem fHome_at {k : Int} {xs : List GHome} {i : Nat} (h : i < xs.length) : fHome k xs i = mkHome k (sumTo nHome xs i) xs[i] := by simp [fHome, h]
def nvHome (x : GHome) : Nat := x.list.length + x.readers.length + 2 * x.queue.length
theorem nHome_le (x : GHome) : nHome x ≤ 9 * (1 + x.tot) := by
  unfold nHome GHome.tot
  omega
def nNode (x : GNode) : Nat := 1 + (x.frames.map nFrame).sum + (x.homes.map nHome).sum + (x.out.map nSender).sum + x.in_.length
def mkNode (k : Int) (s : Nat) (x : GNode) : GNode := ⟨markE k (s), (List.range x.frames.length).map (fFrame (markE k (s + 1)) x.frames), (List.range x.homes.length).map (fHome (markE k (s + 1 + (x.frames.map nFrame).sum)) x.homes), (List.range x.out.length).map (fSender (markE k (s + 1 + (x.frames.map nFrame).sum + (x.homes.map nHome).sum)) x.out), (List.range x.in_.length).map (mReceiver (markE k (s + 1 + (x.frames.map nFrame).sum + (x.homes.map nHome).sum + (x.out.map nSender).sum)))⟩
def fNode (k : Int) (xs : List GNode) (j : Nat) : GNode := mkNode k (sumTo nNode xs j) (xs.getD j (⟨0, [], [], [], []⟩ : GNode))
theorem fNode_at {k : Int} {xs : List GNode} {i : Nat} (h : i < xs.length) : fNode k xs i = mkNode k (sumTo nNode xs i) xs[i] := by simp [fNode, h]
def nvNode (x : GNode) : Nat := (x.frames.map nFrame).sum + (x.homes.map nHome).sum + (x.out.map nSender).sum + x.in_.length
theorem nNode_le (x : GNode) : nNode x ≤ 9 * (1 + x.tot) := by
  have := cnt_le (f := nFrame) (g := fun a => a.tot) nFrame_le x.frames
  have := cnt_le (f := nHome) (g := fun a => a.tot) nHome_le x.homes
  have := cnt_le (f := nSender) (g := fun a => a.tot) nSender_le x.out
  unfold nNode GNode.tot
  omega
def mvWorld (k : Int) (x : GWorld) : GWorld := ⟨x.size, (List.range x.nodes.length).map (fNode (k) x.nodes), (List.range x.net.length).map (fPacket (markE k ((x.nodes.map nNode).sum)) x.net)⟩
def nvWorld (x : GWorld) : Nat := (x.nodes.map nNode).sum + (x.net.map nPacket).sum
def nvHart (x : GHart) : Nat := x.regs.length
def nBlock (x : GBlock) : Nat := 1 + 5 * x.list.length
def mkBlock (k : Int) (s : Nat) (x : GBlock) : GBlock := ⟨markE k (s), (List.range x.list.length).map (mIns (markE k (s + 1)))⟩
def fBlock (k : Int) (xs : List GBlock) (j : Nat) : GBlock := mkBlock k (sumTo nBlock xs j) (xs.getD j (⟨0, []⟩ : GBlock))
theorem fBlock_at {k : Int} {xs : List GBlock} {i : Nat} (h : i < xs.length) : fBlock k xs i = mkBlock k (sumTo nBlock xs i) xs[i] := by simp [fBlock, h]
def nvBlock (x : GBlock) : Nat := 5 * x.list.length
theorem nBlock_le (x : GBlock) : nBlock x ≤ 9 * (1 + x.tot) := by
  unfold nBlock GBlock.tot
  omega
def nCore (x : GCore) : Nat := x.hart.regs.length + 2 + (x.cache.map nBlock).sum
def mkCore (k : Int) (s : Nat) (x : GCore) : GCore := ⟨⟨marks (markE k (s)) x.hart.regs.length, markE k (s + x.hart.regs.length), markE k (s + x.hart.regs.length + 1)⟩, (List.range x.cache.length).map (fBlock (markE k (s + x.hart.regs.length + 2)) x.cache)⟩
def fCore (k : Int) (xs : List GCore) (j : Nat) : GCore := mkCore k (sumTo nCore xs j) (xs.getD j (⟨⟨[], 0, 0⟩, []⟩ : GCore))
theorem fCore_at {k : Int} {xs : List GCore} {i : Nat} (h : i < xs.length) : fCore k xs i = mkCore k (sumTo nCore xs i) xs[i] := by simp [fCore, h]
def nvCore (x : GCore) : Nat := x.hart.regs.length + (x.cache.map nBlock).sum
theorem nCore_le (x : GCore) : nCore x ≤ 9 * (1 + x.tot) := by
  have := cnt_le (f := nBlock) (g := fun a => a.tot) nBlock_le x.cache
  unfold nCore GCore.tot GHart.tot
  omega
def mvFlock (k : Int) (x : GFlock) : GFlock := ⟨⟨x.world.size, (List.range x.world.nodes.length).map (fNode (k) x.world.nodes), (List.range x.world.net.length).map (fPacket (markE k ((x.world.nodes.map nNode).sum)) x.world.net)⟩, (List.range x.cores.length).map (fCore (markE k ((x.world.nodes.map nNode).sum + (x.world.net.map nPacket).sum)) x.cores)⟩
def nvFlock (x : GFlock) : Nat := (x.world.nodes.map nNode).sum + (x.world.net.map nPacket).sum + (x.cores.map nCore).sum
theorem nvFlock_le (x : GFlock) : nvFlock x ≤ 9 * x.tot := by
  have := cnt_le (f := nNode) (g := fun a => a.tot) nNode_le x.world.nodes
  have := cnt_le (f := nPacket) (g := fun a => a.tot) nPacket_le x.world.net
  have := cnt_le (f := nCore) (g := fun a => a.tot) nCore_le x.cores
  unfold nvFlock GFlock.tot GWorld.tot
  omega
end Go.Tw

namespace Go.Tw
def PE {α : Type} (P : Program) (f : FuncId) (args : List A) (Q : α → Prop) (res : α → List A) : Prop :=
  Ours P f ∧ ∀ w vs, Shapes args vs → (∀ (j : Nat) t v, (flatA args)[j]? = some t → (flatU vs)[j]? = some v → Rep w false v t fun _ => True) → Calls P f vs.toArray w fun
    | .returned r, w' => w.heap.size ≤ w'.heap.size ∧ (∀ b, b < w.heap.size → w'.heap[b]? = w.heap[b]?) ∧ w'.os = w.os ∧ w'.tape = w.tape ∧ w'.output = w.output ∧
        ∃ x, Q x ∧ ∃ us, r = oneU us ∧ Shapes (res x) us ∧ ∃ F : Nat → Blks, (∀ (j : Nat) t v, (flatA (res x))[j]? = some t → (flatU us)[j]? = some v → Rep w' true v t (F j)) ∧ (∀ j b, F j b → w.heap.size ≤ b) ∧ ∀ j j' b, F j b → F j' b → j = j'
    | _, _ => False
theorem PE.pc {α : Type} {P : Program} {f : FuncId} {args : List A} {Q : α → Prop} {res : α → List A} (h : PE P f args Q res) : ∀ w vs, Shapes args vs → (∀ (j : Nat) t v, (flatA args)[j]? = some t → (flatU vs)[j]? = some v → Rep w false v t fun _ => True) → Calls P f vs.toArray w fun
    | .returned r, w' => ∃ x, Q x ∧ (w.heap.size ≤ w'.heap.size ∧ (∀ b, b < w.heap.size → w'.heap[b]? = w.heap[b]?) ∧ w'.os = w.os ∧ w'.tape = w.tape ∧ w'.output = w.output ∧
        ∃ us, r = oneU us ∧ Shapes (res x) us ∧ ∃ F : Nat → Blks, (∀ (j : Nat) t v, (flatA (res x))[j]? = some t → (flatU us)[j]? = some v → Rep w' true v t (F j)) ∧ (∀ j b, F j b → w.heap.size ≤ b) ∧ ∀ j j' b, F j b → F j' b → j = j')
    | _, _ => False := fun w vs h1 h2 => Calls.mono (h.2 w vs h1 h2) fun e w' he => by
  cases e with
  | returned r => obtain ⟨a1, a2, a3, a4, a5, x, hx, rest⟩ := he; exact ⟨x, hx, a1, a2, a3, a4, a5, rest⟩
  | panicked => exact he
  | outgrown => exact he
def OutE {α : Type} (P : Program) (rs : List ResultVar) (Q : α → Prop) (res : α → List A) (e : Exit) (σ : St) : Prop := ∃ x, Q x ∧ OutN P rs (res x) e σ
section
variable {P : Program} {w0 w w' : World} {Al : Blks} {N : Nat} {g : Gh} {σ σ' : St} {a : Act}
theorem outN_end {α : Type} {fn : Func} {Q : α → Prop} {res : α → List A} {e : Exit} (R : Rel w0 Al N σ a w g) (h : OutE P fn.results.toList Q res e σ) :
    (e = .normal ∨ e = .ret) ∧ ∃ x, Q x ∧ ∃ us, (results fn a.tmps).run P w = .ok (oneU us) w ∧ Shapes (res x) us ∧ ∃ F : Nat → Blks, (∀ (j : Nat) t v, (flatA (res x))[j]? = some t → (flatU us)[j]? = some v → Rep w true v t (F j)) ∧ (∀ j b, F j b → ∃ r row, get σ.row r = some row ∧ row.pm = .own ∧ g.fp r b) ∧ ∀ j j' b, F j b → F j' b → j = j' := by
  obtain ⟨x, hx, h⟩ := h
  have fin : (match resV P σ fn.results.toList with
    | some (c, vs) => c ∧ shapeVs (res x) vs ∧ match takeLs σ ((flatA (res x)).map zOf) (vs.flatMap V.leaves) with
      | some (c', ts, _) => c' ∧ ts = flatA (res x)
      | none => False
    | none => False) → ∃ us, (results fn a.tmps).run P w = .ok (oneU us) w ∧ Shapes (res x) us ∧ ∃ F : Nat → Blks, (∀ (j : Nat) t v, (flatA (res x))[j]? = some t → (flatU us)[j]? = some v → Rep w true v t (F j)) ∧ (∀ j b, F j b → ∃ r row, get σ.row r = some row ∧ row.pm = .own ∧ g.fp r b) ∧ ∀ j j' b, F j b → F j' b → j = j' := by
    intro hK
    split at hK
    · rename_i c vs' hres
      obtain ⟨hc, hsv, hK⟩ := hK
      split at hK
      · rename_i c' ts rs hts
        obtain ⟨hc', rfl⟩ := hK
        obtain ⟨us, hr, hus⟩ := resV_us R.mem R.slots hres hc
        obtain ⟨hS, hL⟩ := shapeVs_rep hsv hus
        obtain ⟨_, hown, F, q1, q2, q3⟩ := takeLs_rep R.mem hts hc' hL
        refine ⟨us, hr, hS, F, q1, fun j b hb => ?_, q3⟩
        obtain ⟨r, row, hrs, h1, h2, h3⟩ := q2 j b hb
        obtain ⟨row', e1, e2⟩ := hown r hrs
        rw [h1] at e1
        cases e1
        exact ⟨r, row, h1, e2, h3⟩
      · exact hK.elim
    · exact hK.elim
  cases e with
  | normal => exact ⟨Or.inl rfl, x, hx, fin h⟩
  | ret => exact ⟨Or.inr rfl, x, hx, fin h⟩
  | _ => exact h.elim
end
attribute [go_sem] OutE
end Go.Tw

namespace Go.Tw
theorem View.both {u v v' : Value} {z n : Nat} (h : View u z 0 n v) (h' : View u z 0 n v') : View v z 0 n v' := by
  obtain ⟨oa, m, cap, o1, rfl, rfl, h1⟩ := h
  obtain ⟨oa', m', cap', o2, e, rfl, h2⟩ := h'
  cases e
  refine ⟨o1, n, cap - 0, o2, rfl, by simp, ?_⟩
  rcases h1 with h1 | h1
  · exact Or.inl (by omega)
  · rcases h2 with h2 | h2
    · exact Or.inl (by omega)
    · refine Or.inr ?_
      rw [h2, h1]
      cases oa <;> simp [Addr.add]
theorem View.comp {u v v' : Value} {z n : Nat} (h : View u z 0 n v) (h' : View v z 0 n v') : View u z 0 n v' := by
  obtain ⟨oa, m, cap, o1, rfl, rfl, h1⟩ := h
  obtain ⟨oa', m', cap', o2, e, rfl, h2⟩ := h'
  cases e
  refine ⟨oa, m, cap, o2, rfl, by simp, ?_⟩
  rcases h1 with h1 | h1
  · exact Or.inl (by omega)
  · rcases h2 with h2 | h2
    · exact Or.inl (by omega)
    · refine Or.inr ?_
      rw [h2, h1]
      cases oa <;> simp [Addr.add]
def Cur (w : World) (c : Nat) (es : Els) (bv : Value) : Prop :=
  ∃ cs e u1 u2 i h, w.heap[c]? = some (.cells cs e (0, 0)) ∧ cs.toList = [bv, u1, u2] ∧ Rep w false bv (.sl 1 es) (fun b => b ≠ c) ∧ 0 ≤ i ∧ Rep w false u1 (.int .i64 i) (fun _ => False) ∧ Rep w false u2 (.int .i64 h) fun _ => False
def PD {α : Type} (P : Program) (f : FuncId) (es : Els) (args : List A) (Q : α → Prop) (res : α → List A) : Prop :=
  Ours P f ∧ ∀ w c bv vs, Cur w c es bv → (∃ oa cap, bv = .slice oa es.length cap) → Shapes args vs → (∀ (j : Nat) t v, (flatA args)[j]? = some t → (flatU vs)[j]? = some v → Rep w false v t fun b => b ≠ c) → Calls P f (Value.pointer (some ⟨c, 0, none⟩) :: vs).toArray w fun
    | .returned r, w' => w.heap.size ≤ w'.heap.size ∧ (∀ b, b < w.heap.size → b ≠ c → w'.heap[b]? = w.heap[b]?) ∧ w'.os = w.os ∧ w'.tape = w.tape ∧ w'.output = w.output ∧
        (∃ bv', View bv 1 0 es.length bv' ∧ Cur w' c es bv') ∧
        ∃ x, Q x ∧ ∃ us, r = oneU us ∧ Shapes (res x) us ∧ ∃ F : Nat → Blks, (∀ (j : Nat) t v, (flatA (res x))[j]? = some t → (flatU us)[j]? = some v → Rep w' true v t (F j)) ∧ (∀ j b, F j b → w.heap.size ≤ b) ∧ ∀ j j' b, F j b → F j' b → j = j'
    | _, _ => False
def St.drawn (σ : St) (k : Nat) (ls : List L) (res : List A) : St := { σ with box := (k, ls) :: del [k] σ.box, row := rowsN .own σ.nxt (flatA res) ++ σ.row, nxt := σ.nxt + (flatA res).length }
section
variable {P : Program} {w0 w w' : World} {Al : Blks} {N : Nat} {g : Gh} {σ σ' : St} {a : Act}
theorem lent_not_box (m : Mem w g σ) {k : Nat} {ls : List L} (hk : get σ.box k = some ls) {r : Nat} {row : Row} (h : get σ.row r = some row) : Rep w false (g.rw r) row.t fun b => b ≠ g.bx k :=
  (m.lentRow h).mono fun b hb e => by
    subst e
    rcases hb with ⟨r', row', _, h1, h2, h3⟩ | hb
    · exact m.br k ls r' row' hk h1 h2 h3
    · exact hb (Or.inl ⟨k, ls, hk, rfl⟩)
theorem denL_box (m : Mem w g σ) {k : Nat} {ls : List L} (hk : get σ.box k = some ls) {l : L} {t : T} {v : Value} (h : RepL w g σ l v) (hd : denL σ l t) : Rep w false v t fun b => b ≠ g.bx k := by
  unfold denL at hd
  split at hd
  · subst hd; exact (show Rep w false v _ _ from h).mono fun b hb => hb.elim
  · subst hd; obtain ⟨oa, rfl⟩ := h
    cases oa with
    | none => exact .nils
    | some a => exact .bare
  · rename_i r p z off len z' es'
    obtain ⟨row, es0, u, e1, e2, e3, e4, e5⟩ := h
    have hn : nodeOf σ r p = some (z, es0) := by simp [nodeOf, e1, e2]
    rw [hn] at hd
    obtain ⟨rfl, rfl⟩ := hd
    obtain ⟨u', hu', hru⟩ := (lent_not_box m hk e1).focus_ro e2
    rw [e3] at hu'
    cases hu'
    exact hru.view e5 e4
  · exact .hole h
  · exact hd.elim
theorem denLs_box (m : Mem w g σ) {k : Nat} {lk : List L} (hk : get σ.box k = some lk) : ∀ {ls : List L} {ts : List T} {vs : List Value}, RepLs w g σ ls vs → denLs σ ls ts → ∀ (j : Nat) t v, ts[j]? = some t → vs[j]? = some v → Rep w false v t fun b => b ≠ g.bx k
  | [], [], [], _, _ => by simp
  | l :: ls, t :: ts, v :: vs, h, hd => fun j t' v' ht hv => by
    cases j with
    | zero => simp at ht hv; subst ht hv; exact denL_box m hk h.1 hd.1
    | succ j => exact denLs_box m hk h.2 hd.2 j t' v' (by simpa using ht) (by simpa using hv)
  | [], _ :: _, _, _, h => h.elim
  | _ :: _, [], _, _, h => h.elim
  | [], [], _ :: _, h, _ => h.elim
  | _ :: _, _ :: _, [], h, _ => h.elim
theorem denVs_box (m : Mem w g σ) {k : Nat} {lk : List L} (hk : get σ.box k = some lk) : ∀ {vs : List V} {xs : List A} {us : List Value}, RepVs w g σ vs us → denVs σ vs xs →
    ∀ (j : Nat) t v, (flatA xs)[j]? = some t → (flatU us)[j]? = some v → Rep w false v t fun b => b ≠ g.bx k
  | [], [], [], _, _ => by simp [flatA]
  | x :: vs, (b, ts) :: xs, u :: us, h, hd => by
    have key : ∀ ls, RepLs w g σ ls u.cells.toList → denLs σ ls ts → denVs σ vs xs →
        ∀ (j : Nat) t v, (flatA ((b, ts) :: xs))[j]? = some t → (flatU (u :: us))[j]? = some v → Rep w false v t fun b => b ≠ g.bx k := by
      intro ls h1 h2 h4
      have q1 := (denLs_rep m h1 h2).1
      intro j t v ht hv
      simp only [flatA, flatU, List.flatMap_cons] at ht hv
      by_cases hj : j < ts.length
      · rw [List.getElem?_append_left hj] at ht
        rw [List.getElem?_append_left (by omega)] at hv
        exact denLs_box m hk h1 h2 j t v ht hv
      · rw [List.getElem?_append_right (by omega)] at ht
        rw [List.getElem?_append_right (by omega)] at hv
        rw [← q1] at hv
        exact denVs_box m hk h.2 h4 _ t v ht hv
    cases x with
    | l y =>
      cases b with
      | true => exact hd.elim
      | false => exact key [y] (RepV.cells h.1 rfl) hd.1 hd.2
    | agg ys =>
      cases b with
      | false => exact hd.elim
      | true =>
        obtain ⟨d1, d2⟩ := hd
        obtain ⟨cs, rfl, hr⟩ := h.1
        exact key ys (by simpa [Value.cells] using hr) d1 d2
    | tup => cases b <;> exact hd.elim
  | [], _ :: _, _, _, h => h.elim
  | .l _ :: _, [], _, _, h => h.elim
  | .agg _ :: _, [], _, _, h => h.elim
  | .tup _ :: _, [], _, _, h => h.elim
  | [], [], _ :: _, h, _ => h.elim
  | _ :: _, _ :: _, [], h, _ => h.elim
theorem CallW_draw {α : Type} {f : FuncId} {es : Els} {args : List A} {Q : α → Prop} {res : α → List A} {vs : List V} {K : St → V → Prop} {k r n : Nat} {i h : Int} {pm : Pm} (hpd : PD P f es args Q res)
    (hbox : get σ.box k = some [.ref r [] 1 0 n, .t (.int .i64 i), .t (.int .i64 h)]) (hrow : get σ.row r = some ⟨pm, 1, es⟩) (hn : n = es.length) (hi : 0 ≤ i) (hden : denVs σ vs args) (v : α → V) (hv : ∀ x, oneV (valsN σ.nxt (res x)) = some (v x))
    (hfr : σ.row.all (fun x => decide (x.1 < σ.nxt)) = true) (hK : ∀ (i' h' : Int), 0 ≤ i' → ∀ x, Q x → K (σ.drawn k [.ref r [] 1 0 n, .t (.int .i64 i'), .t (.int .i64 h')] (res x)) (v x)) : CallW P false f (.l (.ptr k 0) :: vs) K σ := by
  refine ⟨hpd.1, fun w0 Al N a w g us R hus => ?_⟩
  have m := R.mem
  match us, hus with
  | [], hus => exact hus.elim
  | u0 :: us, hus =>
    obtain ⟨hu0, hus⟩ := hus
    obtain ⟨_, hp⟩ : (get σ.box k).isSome ∧ u0 = .pointer (some ⟨g.bx k, 0, none⟩) := hu0
    subst hp
    obtain ⟨h1, _⟩ := denVs_rep m hus hden
    obtain ⟨cs, e, hc, hls⟩ := m.box k _ hbox
    obtain ⟨bv, u1, u2, hcs, hb0, hb1, hb2⟩ : ∃ bv u1 u2, cs.toList = [bv, u1, u2] ∧ RepL w g σ (.ref r [] 1 0 n) bv ∧ RepL w g σ (.t (.int .i64 i)) u1 ∧ RepL w g σ (.t (.int .i64 h)) u2 := by
      match hq : cs.toList, hls with
      | [x, y, z], hls => exact ⟨x, y, z, rfl, hls.1, hls.2.1, hls.2.2.1⟩
      | [], hls => exact hls.elim
      | [_], hls => exact hls.2.elim
      | [_, _], hls => exact hls.2.2.elim
      | _ :: _ :: _ :: _ :: _, hls => exact hls.2.2.2.elim
    obtain ⟨row', es', u, e1, e2, e3, e4, e5⟩ := hb0
    rw [hrow] at e1
    cases e1
    simp only [T.at?, Option.some.injEq, T.sl.injEq, true_and] at e2
    subst e2
    simp only [valAt, Option.some.injEq] at e3
    subst e3
    have hbr : Rep w false bv (.sl 1 es) fun b => b ≠ g.bx k := by
      have := (lent_not_box m hbox hrow).view e5 (by simp [hn])
      rwa [hn, List.drop_zero, List.take_length] at this
    have hcur : Cur w (g.bx k) es bv := ⟨cs, e, u1, u2, i, h, hc, hcs, hbr, hi, hb1, hb2⟩
    have hbs : ∃ oa cap, bv = .slice oa es.length cap := by
      obtain ⟨_, _, cap, oa', _, hv', _⟩ := e5
      exact ⟨oa', _, by rw [hv', hn]⟩
    refine Calls.mono (hpd.2 w (g.bx k) bv us hcur hbs h1 fun j t v ht hv => denVs_box m hbox hus hden j t v ht hv) fun e w' he => ?_
    cases e with
    | panicked => exact he
    | outgrown => exact he
    | returned q =>
      obtain ⟨hsiz, hold, hos, htape, hout, ⟨bv', hvw, cs', e', u1', u2', i', h', hc', hcs', hbr', hi', hr1, hr2⟩, x, hx, us', rfl, hsh, F, hF, hlo, hdis⟩ := he
      let G : Nat → Blks := fun j b => F j b ∧ b < w'.heap.size
      let g' : Gh := ⟨g.bx, fun k => if σ.nxt ≤ k ∧ k < σ.nxt + (flatA (res x)).length then (flatU us').getD (k - σ.nxt) undef else g.rw k, fun k => if σ.nxt ≤ k ∧ k < σ.nxt + (flatA (res x)).length then G (k - σ.nxt) else g.fp k⟩
      have hfl := flatU_length hsh
      have hfr' : ∀ j, j < (flatA (res x)).length → get σ.row (σ.nxt + j) = none := fun j _ => get_lt hfr _ (by omega)
      have hrow' : ∀ r row, get (rowsN .own σ.nxt (flatA (res x))) r = some row → row.pm = .own ∧ σ.nxt ≤ r ∧ r < σ.nxt + (flatA (res x)).length ∧ (flatA (res x))[r - σ.nxt]? = some (.sl row.z row.es) := by
        intro r row hr
        rw [get_rowsN] at hr
        split at hr
        · rename_i hle
          split at hr
          · rename_i z es he
            simp only [Option.some.injEq] at hr
            subst hr
            have := (List.getElem?_eq_some_iff.1 he).1
            exact ⟨rfl, hle, by omega, he⟩
          · cases hr
        · cases hr
      have hnew : ∀ k row, get (rowsN .own σ.nxt (flatA (res x))) k = some row → get σ.row k = none := by
        intro k row hk
        obtain ⟨_, h1, h2, _⟩ := hrow' k row hk
        have := hfr' (k - σ.nxt) (by omega)
        rwa [Nat.add_sub_cancel' h1] at this
      have hnot : ∀ r, (get σ.row r).isSome → ¬ (σ.nxt ≤ r ∧ r < σ.nxt + (flatA (res x)).length) := by
        rintro r hr ⟨h1, h2⟩
        have := hfr' (r - σ.nxt) (by omega)
        rw [Nat.add_sub_cancel' h1] at this
        rw [this] at hr
        cases hr
      have hrwr : g'.rw r = g.rw r := by
        have := hnot r (by simp [hrow])
        simp only [g', this, if_false]
      have hklt : g.bx k < w.heap.size := m.lt _ (Or.inl ⟨k, _, hbox, rfl⟩)
      have hrowr : get (σ.drawn k [.ref r [] 1 0 n, .t (.int .i64 i'), .t (.int .i64 h')] (res x)).row r = some ⟨pm, 1, es⟩ := by
        simp only [St.drawn, get_append]
        cases hq : get (rowsN .own σ.nxt (flatA (res x))) r with
        | none => exact hrow
        | some row => have := hnew r row hq; rw [hrow] at this; cases this
      have hgb : ∀ k' ls, get [(k, [L.ref r [] 1 0 n, .t (.int .i64 i'), .t (.int .i64 h')])] k' = some ls → k' = k ∧ [L.ref r [] 1 0 n, .t (.int .i64 i'), .t (.int .i64 h')] = ls := fun k' ls h => get_one h
      have hin : NewIn w w' g g' σ (σ.drawn k [.ref r [] 1 0 n, .t (.int .i64 i'), .t (.int .i64 h')] (res x)) [] [k] (rowsN .own σ.nxt (flatA (res x))) [(k, [.ref r [] 1 0 n, .t (.int .i64 i'), .t (.int .i64 h')])] (fun _ => false) := by
        refine ⟨by simp [St.drawn, del_nil], by simp [St.drawn, killB_no], fun b hb hp => hold b hb fun e => hp (Or.inr ⟨k, _, by simp, hbox, e.symm⟩), hsiz, fun r _ hr => ?_, fun _ _ _ => rfl, fun k row hk => Or.inr (hnew k row hk), fun k' ls hk => ?_, ?_, ?_, ?_, ?_, fun k' ls hk => ?_, ?_, fun k' ls r row hk hr _ hb => ?_, fun k1 k2 ls ls' hk hk' _ => ?_, fun k' ls hk => ?_, fun _ _ r p _ _ h => by simp at h, fun l _ b _ _ hb => ?_⟩
        · have := hnot r hr
          simp only [g', this, if_false, and_self]
        · exact Or.inl (by simp [(hgb k' ls hk).1])
        · intro k row hk _
          obtain ⟨_, h1, h2, h3⟩ := hrow' k row hk
          have hc : σ.nxt ≤ k ∧ k < σ.nxt + (flatA (res x)).length := ⟨h1, h2⟩
          have hlt : k - σ.nxt < (flatU us').length := by omega
          have hv : (flatU us')[k - σ.nxt]? = some ((flatU us').getD (k - σ.nxt) undef) := by simp [List.getD_eq_getElem?_getD, List.getElem?_eq_getElem hlt]
          simp only [g', hc, and_self, if_true]
          obtain ⟨H, hH, hs, hlt'⟩ := (hF _ _ _ h3 hv).lt
          exact hH.mono fun b hb => ⟨hs b hb, hlt' b hb⟩
        · intro k row hk hp; rw [(hrow' k row hk).1] at hp; cases hp
        · intro k row hk hp; rw [(hrow' k row hk).1] at hp; cases hp
        · intro k row b hk _ hb
          obtain ⟨_, h1, h2, h3⟩ := hrow' k row hk
          have hc : σ.nxt ≤ k ∧ k < σ.nxt + (flatA (res x)).length := ⟨h1, h2⟩
          simp only [g', hc, and_self, if_true] at hb
          exact ⟨Or.inr (hlo _ b hb.1), hb.2⟩
        · obtain ⟨rfl, _⟩ := hgb k' ls hk
          exact ⟨Or.inl (Or.inr ⟨k', _, by simp, hbox, rfl⟩), Nat.lt_of_lt_of_le hklt hsiz⟩
        · intro r r' row row' b hr hr' _ _ hb hb'
          obtain ⟨_, h1, h2, _⟩ := hrow' r row hr
          obtain ⟨_, h3, h4, _⟩ := hrow' r' row' hr'
          have hc : σ.nxt ≤ r ∧ r < σ.nxt + (flatA (res x)).length := ⟨h1, h2⟩
          have hc' : σ.nxt ≤ r' ∧ r' < σ.nxt + (flatA (res x)).length := ⟨h3, h4⟩
          simp only [g', hc, hc', and_self, if_true] at hb hb'
          have := hdis _ _ b hb.1 hb'.1
          omega
        · obtain ⟨rfl, _⟩ := hgb k' ls hk
          obtain ⟨_, h1, h2, _⟩ := hrow' r row hr
          have hc : σ.nxt ≤ r ∧ r < σ.nxt + (flatA (res x)).length := ⟨h1, h2⟩
          simp only [g', hc, and_self, if_true] at hb
          have := hlo _ _ hb.1
          omega
        · rw [(hgb k1 ls hk).1, (hgb k2 ls' hk').1]
        · obtain ⟨rfl, rfl⟩ := hgb k' ls hk
          refine ⟨cs', e', hc', ?_⟩
          rw [hcs']
          refine ⟨⟨_, es, g.rw r, hrowr, rfl, by simp [valAt, hrwr], by simp [hn], ?_⟩, hr1, hr2, trivial⟩
          rw [hn]
          exact (hn ▸ e5).comp hvw
        · have : b = k := by simpa using hb
          subst this
          exact ⟨by simp [get], rfl⟩
      have R' := R.turn hin ⟨by rw [killE_no]; rfl, (killS_no _).symm⟩ hos htape hout
      refine ⟨_, g', v x, R', ?_, hK i' h' hi' x hx, fun e => by cases e⟩
      refine oneV_unit (hv x) (valsN_rep hsh fun j t u ht hu => leafN_rep (hF j t u ht hu) fun z es e => ?_)
      subst e
      have hj : j < (flatA (res x)).length := (List.getElem?_eq_some_iff.1 ht).1
      have hc : σ.nxt ≤ σ.nxt + j ∧ σ.nxt + j < σ.nxt + (flatA (res x)).length := ⟨by omega, by omega⟩
      refine ⟨⟨.own, z, es⟩, ?_, rfl, rfl, ?_⟩
      · simp only [St.drawn, get_append, get_rowsN, Nat.le_add_right, if_true, Nat.add_sub_cancel_left, ht]
      · simp only [g', hc, and_self, if_true, Nat.add_sub_cancel_left, List.getD_eq_getElem?_getD, hu, Option.getD_some]
end
end Go.Tw

namespace Go.Tw
def St.startD (a0 : Act) (es : Els) (i h : Int) (args : List A) : St :=
  { env := (0, true, .l (.ptr 0 0)) :: paramsE 1 (valsN 1 args), box := [(0, [.ref 0 [] 1 0 es.length, .t (.int .i64 i), .t (.int .i64 h)])], row := (0, ⟨.ro, 1, es⟩) :: rowsN .ro 1 (flatA args), nxt := (flatA args).length + 1,
    sav := [([(0, true, .l (.ptr 0 0)), (1, true, .l (.ref 0 [] 1 0 es.length))], a0)] }
def CurO (a0 : Act) (es : Els) (σ : St) : Prop := ∃ env' k r n i h pm, σ.sav = [(env', a0)] ∧ get env' 0 = some (true, .l (.ptr k 0)) ∧ get env' 1 = some (true, .l (.ref r [] 1 0 n)) ∧
  get σ.box k = some [.ref r [] 1 0 n, .t (.int .i64 i), .t (.int .i64 h)] ∧ get σ.row r = some ⟨pm, 1, es⟩ ∧ n = es.length ∧ 0 ≤ i
def OutD {α : Type} (P : Program) (rs : List ResultVar) (a0 : Act) (es : Els) (Q : α → Prop) (res : α → List A) (e : Exit) (σ : St) : Prop := (∃ x, Q x ∧ OutN P rs (res x) e σ) ∧ CurO a0 es σ
section
variable {P : Program} {w0 w w' : World} {Al : Blks} {N : Nat} {g : Gh} {σ σ' : St} {a : Act}
theorem PD_of {α : Type} {f : FuncId} {fn : Func} {c : Code} {es : Els} {args : List A} {Q : α → Prop} {res : α → List A} (hf : P.funcs[f]? = some fn) (hb : fn.body = some c) (hn : (fn.name == "runtime.NumGoroutine") = false) {n : Nat} (hnt : fn.ntmps = n) {rs : List ResultVar} (hrs : fn.results.toList = rs) (hl : args.length + 1 ≤ n)
    (h : ∀ a0 i h, 0 ≤ i → W P n c (OutD P rs a0 es Q res) (St.startD a0 es i h args)) : PD P f es args Q res := by
  subst hnt hrs
  refine ⟨⟨fn, hf, by simp [hb], hn⟩, fun w c bv vs hcur hbs hsh hrep => calls_of_wp hf hb ?_⟩
  obtain ⟨cs, ce, u1, u2, i, hh, hc, hcs, hbr, hi, hr1, hr2⟩ := hcur
  obtain ⟨oa, cap, hbv⟩ := hbs
  let g : Gh := ⟨fun _ => c, fun k => if k = 0 then bv else (flatU vs).getD (k - 1) undef, fun _ _ => False⟩
  let a0 : Act := { tmps := #[Value.pointer (some ⟨c, 0, none⟩), bv], defers := [] }
  have hfl := flatU_length hsh
  have hclt : c < w.heap.size := (Array.getElem?_eq_some_iff.1 hc).1
  have hrow : ∀ r row, get (St.startD a0 es i hh args).row r = some row → row.pm = .ro ∧ ((r = 0 ∧ row = ⟨.ro, 1, es⟩) ∨ (r ≠ 0 ∧ (flatA args)[r - 1]? = some (.sl row.z row.es))) := by
    intro r row hr
    simp only [St.startD, get] at hr
    split at hr
    · rename_i e
      simp only [Option.some.injEq] at hr
      subst hr
      exact ⟨rfl, Or.inl ⟨e, rfl⟩⟩
    · rename_i e
      rw [get_rowsN] at hr
      split at hr
      · split at hr
        · rename_i z es he
          simp only [Option.some.injEq] at hr
          subst hr
          exact ⟨rfl, Or.inr ⟨e, he⟩⟩
        · cases hr
      · cases hr
  have hbox : ∀ k ls, get (St.startD a0 es i hh args).box k = some ls → k = 0 ∧ [L.ref 0 [] 1 0 es.length, .t (.int .i64 i), .t (.int .i64 hh)] = ls := fun k ls h => get_one h
  have hown : ∀ b, Owned g (St.startD a0 es i hh args) b → b = c := by
    rintro b (⟨k, ls, h1, h2⟩ | ⟨r, row, h1, h2, _⟩)
    · exact h2.symm
    · exact absurd (hrow r row h1).1 h2
  have hno : ∀ b, b ≠ c → ¬ Owned g (St.startD a0 es i hh args) b := fun b hb ho => hb (hown b ho)
  have hrow0 : get (St.startD a0 es i hh args).row 0 = some ⟨.ro, 1, es⟩ := by simp [St.startD, get]
  have hbref : RepL w g (St.startD a0 es i hh args) (.ref 0 [] 1 0 es.length) bv := by
    refine ⟨_, es, bv, hrow0, rfl, by simp [valAt, g], by simp, ?_⟩
    rw [hbv]
    exact View.whole _ _ _ _ _
  have hptr : RepL w g (St.startD a0 es i hh args) (.ptr 0 0) (.pointer (some ⟨c, 0, none⟩)) := ⟨by simp [St.startD, get], rfl⟩
  have hvals : RepVs w g (St.startD a0 es i hh args) (valsN 1 args) vs := by
    refine valsN_rep hsh fun j t v ht hv => ?_
    refine leafN_rep (hrep j t v ht hv) fun z es' e => ?_
    subst e
    refine ⟨⟨.ro, z, es'⟩, ?_, rfl, rfl, ?_⟩
    · have : 1 + j ≠ 0 := by omega
      simp only [St.startD, get, this, if_false, get_rowsN, Nat.le_add_right, if_true, Nat.add_sub_cancel_left, ht]
    · have : 1 + j ≠ 0 := by omega
      simp [g, hv]
  have hlen := hvals.length
  have hal : args.length = vs.length := hsh.length
  have R : Rel w (fun b => b = c) fn.ntmps (St.startD a0 es i hh args) { tmps := (Value.pointer (some ⟨c, 0, none⟩) :: vs).toArray ++ Array.replicate (fn.ntmps - (Value.pointer (some ⟨c, 0, none⟩) :: vs).toArray.size) undef, defers := [] } w g := by
    refine ⟨⟨fun t c' v hg hc' => ?_, fun t c' v hg hc' => ?_⟩, ?_, ⟨?_, ?_, ?_, ?_, ?_, ?_, ?_, fun b hb => by rw [hown b hb]; exact hclt⟩, fun b hb => Or.inr (hown b hb), fun _ _ _ => rfl, Nat.le_refl _, rfl, rfl, rfl, rfl, by simp; omega, fun x hx => ?_⟩
    · simp only [St.startD, get] at hg
      split at hg
      · rename_i e
        subst e
        simp only [Option.some.injEq, Prod.mk.injEq] at hg
        obtain ⟨_, rfl⟩ := hg
        have : ((Value.pointer (some ⟨c, 0, none⟩) :: vs).toArray ++ Array.replicate (fn.ntmps - (Value.pointer (some ⟨c, 0, none⟩) :: vs).toArray.size) undef).getD 0 undef = Value.pointer (some ⟨c, 0, none⟩) := by
          rw [Array.getD_eq_getD_getElem?, Array.getElem?_append_left (by simp)]
          simp
        rw [this]
        exact hptr
      · obtain ⟨_, h2, h3⟩ := get_paramsE _ 1 t c' v hg
        obtain ⟨u, hu, hr⟩ := hvals.nth (j := t - 1) h3
        have hlt : t - 1 < vs.length := (List.getElem?_eq_some_iff.1 hu).1
        have : ((Value.pointer (some ⟨c, 0, none⟩) :: vs).toArray ++ Array.replicate (fn.ntmps - (Value.pointer (some ⟨c, 0, none⟩) :: vs).toArray.size) undef).getD t undef = u := by
          rw [Array.getD_eq_getD_getElem?, Array.getElem?_append_left (by simp; omega)]
          have e : t = (t - 1) + 1 := by omega
          rw [e]
          simp [hu]
        rw [this]
        exact hr
    · simp only [St.startD, get] at hg
      split at hg
      · simp only [Option.some.injEq, Prod.mk.injEq] at hg
        rw [hc'] at hg
        cases hg.1
      · have := (get_paramsE _ 1 t c' v hg).1
        rw [hc'] at this
        cases this
    · refine List.pairwise_cons.2 ⟨fun y hy => ?_, paramsE_unq _ 1⟩
      have := get_paramsE_lt _ 1 y.1 y.2 hy
      simp only
      omega
    · intro k ls h
      obtain ⟨rfl, rfl⟩ := hbox k ls h
      refine ⟨cs, ce, hc, ?_⟩
      rw [hcs]
      exact ⟨hbref, hr1, hr2, trivial⟩
    · intro r row h hp; rw [(hrow r row h).1] at hp; cases hp
    · intro r row h hp; rw [(hrow r row h).1] at hp; cases hp
    · intro r row h hp
      rcases (hrow r row h).2 with ⟨rfl, rfl⟩ | ⟨hr0, ht⟩
      · simp only [g, if_true]
        exact hbr.mono fun b hb => hno b hb
      · have hlt : r - 1 < (flatU vs).length := by rw [hfl]; exact (List.getElem?_eq_some_iff.1 ht).1
        have hv : (flatU vs)[r - 1]? = some ((flatU vs).getD (r - 1) undef) := by simp [List.getD_eq_getElem?_getD, List.getElem?_eq_getElem hlt]
        simp only [g, hr0, if_false]
        exact (hrep _ _ _ ht hv).mono fun b hb => hno b hb
    · intro k k' ls ls' h h' _
      rw [(hbox k ls h).1, (hbox k' ls' h').1]
    · intro k ls r row _ h hp; exact absurd (hrow r row h).1 hp
    · intro r r' row row' b h _ hp; exact absurd (hrow r row h).1 hp
    · simp only [St.startD, List.mem_singleton] at hx
      subst hx
      refine ⟨fun t c' v hg hc' => ?_, fun t c' v hg hc' => ?_, by simp⟩
      · simp only [get] at hg
        split at hg
        · rename_i e
          subst e
          simp only [Option.some.injEq, Prod.mk.injEq] at hg
          obtain ⟨_, rfl⟩ := hg
          exact hptr
        · split at hg
          · rename_i e
            subst e
            simp only [Option.some.injEq, Prod.mk.injEq] at hg
            obtain ⟨_, rfl⟩ := hg
            exact hbref
          · cases hg
      · simp only [get] at hg
        split at hg
        · simp only [Option.some.injEq, Prod.mk.injEq] at hg
          rw [hc'] at hg
          cases hg.1
        · split at hg
          · simp only [Option.some.injEq, Prod.mk.injEq] at hg
            rw [hc'] at hg
            cases hg.1
          · cases hg
  refine wp_mono (h a0 i hh hi w _ _ w g R) fun e a' w' ⟨σ', g', R', hK, hO⟩ => ?_
  obtain ⟨he, x, hx, us, hr, hS, F, q1, q2, q3⟩ := outN_end R' hK
  obtain ⟨env', k, r, n, i', h', pm, o1, o2, o3, o4, o5, o6, o7⟩ := hO
  obtain ⟨s1, _, _⟩ := R'.sav (env', a0) (by rw [o1]; simp)
  have p1 : Value.pointer (some ⟨c, 0, none⟩) = .pointer (some ⟨g'.bx k, 0, none⟩) := (s1 0 true _ o2 rfl).2
  have hkc : g'.bx k = c := by simpa using p1.symm
  have p2 : RepL w' g' σ' (.ref r [] 1 0 n) bv := s1 1 true _ o3 rfl
  obtain ⟨cs', ce', hc', hls⟩ := R'.mem.box k _ o4
  obtain ⟨bv', u1', u2', hcs', hb0, hb1, hb2⟩ : ∃ bv u1 u2, cs'.toList = [bv, u1, u2] ∧ RepL w' g' σ' (.ref r [] 1 0 n) bv ∧ RepL w' g' σ' (.t (.int .i64 i')) u1 ∧ RepL w' g' σ' (.t (.int .i64 h')) u2 := by
    match hq : cs'.toList, hls with
    | [x, y, z], hls => exact ⟨x, y, z, rfl, hls.1, hls.2.1, hls.2.2.1⟩
    | [], hls => exact hls.elim
    | [_], hls => exact hls.2.elim
    | [_, _], hls => exact hls.2.2.elim
    | _ :: _ :: _ :: _ :: _, hls => exact hls.2.2.2.elim
  have hfin : ∃ bv', View bv 1 0 es.length bv' ∧ Cur w' c es bv' := by
    obtain ⟨row1, e1, u1, d1, d2, d3, _, d5⟩ := p2
    obtain ⟨row2, e2, u2, f1, f2, f3, _, f5⟩ := hb0
    rw [o5] at d1 f1
    cases d1
    cases f1
    simp only [T.at?, Option.some.injEq, T.sl.injEq, true_and] at d2 f2
    subst d2
    simp only [valAt, Option.some.injEq] at d3 f3
    subst d3
    subst f3
    refine ⟨bv', o6 ▸ d5.both f5, cs', ce', u1', u2', i', h', hkc ▸ hc', hcs', ?_, o7, hb1, hb2⟩
    have := (lent_not_box R'.mem o4 o5).view f5 (by simp [o6])
    rw [o6, List.drop_zero, List.take_length, hkc] at this
    exact this
  have fin : a'.defers = [] ∧ ∃ v, (results fn a'.tmps).run P w' = .ok v w' ∧ (w.heap.size ≤ w'.heap.size ∧ (∀ b, b < w.heap.size → b ≠ c → w'.heap[b]? = w.heap[b]?) ∧ w'.os = w.os ∧ w'.tape = w.tape ∧ w'.output = w.output ∧
      (∃ bv', View bv 1 0 es.length bv' ∧ Cur w' c es bv') ∧
      ∃ x, Q x ∧ ∃ us, v = oneU us ∧ Shapes (res x) us ∧ ∃ F : Nat → Blks, (∀ (j : Nat) t v, (flatA (res x))[j]? = some t → (flatU us)[j]? = some v → Rep w' true v t (F j)) ∧ (∀ j b, F j b → w.heap.size ≤ b) ∧ ∀ j j' b, F j b → F j' b → j = j') := by
    refine ⟨R'.dfr, _, hr, R'.siz, fun b hb hbc => R'.frm b hb hbc, R'.os, R'.tape, R'.out, hfin, x, hx, us, rfl, hS, F, q1, fun j b hb => ?_, q3⟩
    obtain ⟨r', row, h1, h2, h3⟩ := q2 j b hb
    rcases R'.own b (Or.inr ⟨r', row, h1, by simp [h2], h3⟩) with h | h
    · exact h
    · subst h
      exact absurd (hkc ▸ h3) (R'.mem.br k _ r' row o4 h1 (by simp [h2]))
  rcases he with rfl | rfl
  · exact fin
  · exact fin
end
attribute [go_sem] OutD CurO St.startD St.drawn
end Go.Tw

namespace Go.Tw
def PNew (P : Program) (f : FuncId) (es : Els) : Prop :=
  Ours P f ∧ ∀ w bv, Rep w false bv (.sl 1 es) (fun _ => True) → (∃ oa cap, bv = .slice oa es.length cap) → Calls P f #[bv] w fun
    | .returned r, w' => w.heap.size ≤ w'.heap.size ∧ (∀ b, b < w.heap.size → w'.heap[b]? = w.heap[b]?) ∧ w'.os = w.os ∧ w'.tape = w.tape ∧ w'.output = w.output ∧
        ∃ c cs e bv' u1 u2 h, r = .pointer (some ⟨c, 0, none⟩) ∧ w.heap.size ≤ c ∧ c < w'.heap.size ∧ w'.heap[c]? = some (.cells cs e (0, 0)) ∧ cs.toList = [bv', u1, u2] ∧ View bv 1 0 es.length bv' ∧
          Rep w' false u1 (.int .i64 0) (fun _ => False) ∧ Rep w' false u2 (.int .i64 h) fun _ => False
    | _, _ => False
def St.startN (a0 : Act) (es : Els) : St :=
  { env := [(0, true, .l (.ref 0 [] 1 0 es.length))], box := [], row := [(0, ⟨.ro, 1, es⟩)], nxt := 1, sav := [([(0, true, .l (.ref 0 [] 1 0 es.length))], a0)] }
def OutNew (a0 : Act) (es : Els) (t : Nat) : Exit → St → Prop
  | .normal, σ | .ret, σ => ∃ env' k r n h, σ.sav = [(env', a0)] ∧ get env' 0 = some (true, .l (.ref r [] 1 0 n)) ∧ get σ.env t = some (true, .l (.ptr k 0)) ∧ get σ.box k = some [.ref r [] 1 0 n, .t (.int .i64 0), .t (.int .i64 h)] ∧ n = es.length
  | _, _ => False
section
variable {P : Program} {w0 w w' : World} {Al : Blks} {N : Nat} {g : Gh} {σ σ' : St} {a : Act}
theorem PNew_of {f : FuncId} {fn : Func} {c : Code} {es : Els} (hf : P.funcs[f]? = some fn) (hb : fn.body = some c) (hn : (fn.name == "runtime.NumGoroutine") = false) {n t : Nat} (hnt : fn.ntmps = n) (hrs : fn.results.toList = [.tmp t]) (hl : 1 ≤ n)
    (h : ∀ a0, W P n c (OutNew a0 es t) (St.startN a0 es)) : PNew P f es := by
  subst hnt
  refine ⟨⟨fn, hf, by simp [hb], hn⟩, fun w bv hrep hbs => calls_of_wp hf hb ?_⟩
  obtain ⟨oa, cap, hbv⟩ := hbs
  let g : Gh := ⟨fun _ => 0, fun _ => bv, fun _ _ => False⟩
  let a0 : Act := { tmps := #[bv] ++ Array.replicate (fn.ntmps - 1) undef, defers := [] }
  have hslot : a0.tmps.getD 0 undef = bv := by
    simp only [a0]
    rw [Array.getD_eq_getD_getElem?, Array.getElem?_append_left (by simp)]
    simp
  have hrow : ∀ r row, get (St.startN a0 es).row r = some row → r = 0 ∧ row = ⟨.ro, 1, es⟩ := fun r row h => by
    obtain ⟨h1, h2⟩ := get_one h
    exact ⟨h1, h2.symm⟩
  have hown : ∀ b, ¬ Owned g (St.startN a0 es) b := by
    rintro b (⟨k, ls, h1, _⟩ | ⟨r, row, h1, h2, _⟩)
    · simp [St.startN, get] at h1
    · rw [(hrow r row h1).2] at h2; exact h2 rfl
  have hleaf : RepL w g (St.startN a0 es) (.ref 0 [] 1 0 es.length) bv := by
    refine ⟨⟨.ro, 1, es⟩, es, bv, by simp [St.startN, get], rfl, by simp [valAt, g], by simp, ?_⟩
    rw [hbv]
    exact View.whole _ _ _ _ _
  have R : Rel w (fun _ => False) fn.ntmps (St.startN a0 es) a0 w g := by
    refine ⟨⟨fun t c u hg hc => ?_, fun t c u hg hc => ?_⟩, by simp [St.startN], ⟨?_, ?_, ?_, ?_, ?_, ?_, ?_, fun b hb => (hown b hb).elim⟩, fun b hb => (hown b hb).elim, fun _ _ _ => rfl, Nat.le_refl _, rfl, rfl, rfl, rfl, by simp [a0]; omega, fun x hx => ?_⟩
    · obtain ⟨rfl, e⟩ := get_one hg
      simp only [Prod.mk.injEq] at e
      obtain ⟨_, rfl⟩ := e
      rw [hslot]
      exact hleaf
    · obtain ⟨rfl, e⟩ := get_one hg
      simp only [Prod.mk.injEq] at e
      rw [hc] at e
      cases e.1
    · intro k ls h; simp [St.startN, get] at h
    · intro r row h hp; rw [(hrow r row h).2] at hp; cases hp
    · intro r row h hp; rw [(hrow r row h).2] at hp; cases hp
    · intro r row h hp
      obtain ⟨rfl, rfl⟩ := hrow r row h
      exact hrep.mono fun b _ => hown b
    · intro k k' ls ls' h; simp [St.startN, get] at h
    · intro k ls r row h; simp [St.startN, get] at h
    · intro r r' row row' b h _ hp; rw [(hrow r row h).2] at hp; exact absurd rfl hp
    · simp only [St.startN, List.mem_singleton] at hx
      subst hx
      refine ⟨fun t c u hg hc => ?_, fun t c u hg hc => ?_, by simp⟩
      · obtain ⟨rfl, e⟩ := get_one hg
        simp only [Prod.mk.injEq] at e
        obtain ⟨_, rfl⟩ := e
        rw [hslot]
        exact hleaf
      · obtain ⟨rfl, e⟩ := get_one hg
        simp only [Prod.mk.injEq] at e
        rw [hc] at e
        cases e.1
  have ha0 : ({ tmps := #[bv] ++ Array.replicate (fn.ntmps - #[bv].size) undef, defers := [] } : Act) = a0 := rfl
  rw [ha0]
  refine wp_mono (h a0 w _ _ w g R) fun e a' w' ⟨σ', g', R', hK⟩ => ?_
  have fin : (∃ env' k r n h, σ'.sav = [(env', a0)] ∧ get env' 0 = some (true, .l (.ref r [] 1 0 n)) ∧ get σ'.env t = some (true, .l (.ptr k 0)) ∧ get σ'.box k = some [.ref r [] 1 0 n, .t (.int .i64 0), .t (.int .i64 h)] ∧ n = es.length) →
      a'.defers = [] ∧ ∃ v, (results fn a'.tmps).run P w' = .ok v w' ∧ (w.heap.size ≤ w'.heap.size ∧ (∀ b, b < w.heap.size → w'.heap[b]? = w.heap[b]?) ∧ w'.os = w.os ∧ w'.tape = w.tape ∧ w'.output = w.output ∧
        ∃ c cs e bv' u1 u2 h, v = .pointer (some ⟨c, 0, none⟩) ∧ w.heap.size ≤ c ∧ c < w'.heap.size ∧ w'.heap[c]? = some (.cells cs e (0, 0)) ∧ cs.toList = [bv', u1, u2] ∧ View bv 1 0 es.length bv' ∧
          Rep w' false u1 (.int .i64 0) (fun _ => False) ∧ Rep w' false u2 (.int .i64 h) fun _ => False) := by
    rintro ⟨env', k, r, n, h', o1, o2, o3, o4, o5⟩
    obtain ⟨us, hr, hus⟩ := resV_us (P := P) (a := a') (fn := fn) (c := true = true ∧ True) (vs := [.l (.ptr k 0)]) R'.mem R'.slots (by rw [hrs]; simp [resV, o3]) ⟨rfl, trivial⟩
    match us, hus with
    | [u], hus =>
      obtain ⟨_, hu⟩ : (get σ'.box k).isSome ∧ u = .pointer (some ⟨g'.bx k, 0, none⟩) := hus.1
      obtain ⟨s1, _, _⟩ := R'.sav (env', a0) (by rw [o1]; simp)
      have p2 : RepL w' g' σ' (.ref r [] 1 0 n) bv := by
        have := s1 0 true _ o2 rfl
        rwa [hslot] at this
      obtain ⟨cs', ce', hc', hls⟩ := R'.mem.box k _ o4
      obtain ⟨bv', u1', u2', hcs', hb0, hb1, hb2⟩ : ∃ bv u1 u2, cs'.toList = [bv, u1, u2] ∧ RepL w' g' σ' (.ref r [] 1 0 n) bv ∧ RepL w' g' σ' (.t (.int .i64 0)) u1 ∧ RepL w' g' σ' (.t (.int .i64 h')) u2 := by
        match hq : cs'.toList, hls with
        | [x, y, z], hls => exact ⟨x, y, z, rfl, hls.1, hls.2.1, hls.2.2.1⟩
        | [], hls => exact hls.elim
        | [_], hls => exact hls.2.elim
        | [_, _], hls => exact hls.2.2.elim
        | _ :: _ :: _ :: _ :: _, hls => exact hls.2.2.2.elim
      have ho : Owned g' σ' (g'.bx k) := Or.inl ⟨k, _, o4, rfl⟩
      refine ⟨R'.dfr, _, hr, R'.siz, fun b hb => R'.frm b hb fun h => h, R'.os, R'.tape, R'.out, g'.bx k, cs', ce', bv', u1', u2', h', hu ▸ rfl, (R'.own _ ho).resolve_right fun h => h, R'.mem.lt _ ho, hc', hcs', ?_, hb1, hb2⟩
      obtain ⟨row1, e1, x1, d1, d2, d3, _, d5⟩ := p2
      obtain ⟨row2, e2, x2, f1, f2, f3, _, f5⟩ := hb0
      rw [d1] at f1
      cases f1
      simp only [valAt, Option.some.injEq] at d3 f3
      subst d3
      subst f3
      exact o5 ▸ d5.both f5
    | [], hus => exact hus.elim
    | _ :: _ :: _, hus => exact hus.2.elim
  cases e with
  | normal => exact fin hK
  | ret => exact fin hK
  | _ => exact hK.elim
theorem OutD_in {α : Type} {rs : List ResultVar} {a0 : Act} {es : Els} {Q : α → Prop} {res : α → List A} {e : Exit} (x : α) (hq : Q x) (hc : CurO a0 es σ) (h : OutN P rs (res x) e σ) : OutD P rs a0 es Q res e σ := ⟨⟨x, hq, h⟩, hc⟩
end
attribute [go_sem] St.startN OutNew
end Go.Tw
namespace Go.Tw
theorem OutD_int {P : Program} {t : Nat} {a0 : Act} {es : Els} {Q : Int → Prop} {e : Exit} {σ : St} {y : Int} (he : e = .ret ∨ e = .normal) (hg : get σ.env t = some (true, .l (.t (.int .i64 y)))) (hq : Q y) (hc : CurO a0 es σ) :
    OutD P [.tmp t] a0 es Q (fun x : Int => [(false, [.int .i64 x])]) e σ := by
  refine ⟨⟨y, hq, ?_⟩, hc⟩
  rcases he with rfl | rfl <;> simp [OutN, resV, hg, shapeVs, shapeV, takeLs, takeL, V.leaves, flatA, zOf]
theorem OutNew_in {a0 : Act} {es : Els} {t : Nat} {σ : St} (h : ∃ env' k r n h, σ.sav = [(env', a0)] ∧ get env' 0 = some (true, .l (.ref r [] 1 0 n)) ∧ get σ.env t = some (true, .l (.ptr k 0)) ∧ get σ.box k = some [.ref r [] 1 0 n, .t (.int .i64 0), .t (.int .i64 h)] ∧ n = es.length) : OutNew a0 es t .ret σ := h
theorem and255 (x : BitVec 64) : 0 ≤ IntKind.wrap .i64 ((x &&& 255#64).toNat : Int) ∧ IntKind.wrap .i64 ((x &&& 255#64).toNat : Int) ≤ 255 := by
  have h : (x &&& 255#64).toNat ≤ 255 := by rw [BitVec.toNat_and]; exact Nat.and_le_right
  rw [wrap_ok (by omega) (by omega)]
  omega
theorem OutD_bool {P : Program} {t : Nat} {a0 : Act} {es : Els} {Q : Bool → Prop} {e : Exit} {σ : St} {y : Bool} (he : e = .ret ∨ e = .normal) (hg : get σ.env t = some (true, .l (.t (.bool y)))) (hq : Q y) (hc : CurO a0 es σ) :
    OutD P [.tmp t] a0 es Q (fun x : Bool => [(false, [.bool x])]) e σ := by
  refine ⟨⟨y, hq, ?_⟩, hc⟩
  rcases he with rfl | rfl <;> simp [OutN, resV, hg, shapeVs, shapeV, takeLs, takeL, V.leaves, flatA, zOf]
theorem tmod_in {x n : Int} (hx : 0 ≤ x) (hn : 0 < n) : 0 ≤ x.tmod n ∧ (x.tmod n < n ∨ n ≤ 0 ∧ x.tmod n = 0) := ⟨Int.tmod_nonneg _ hx, Or.inl (Int.tmod_lt_of_pos _ hn)⟩
theorem tmod4_in {x y z w n : Int} (hx : 0 ≤ x ∧ x ≤ 255) (hy : 0 ≤ y ∧ y ≤ 255) (hz : 0 ≤ z ∧ z ≤ 255) (hw : 0 ≤ w ∧ w ≤ 255) (hn : 0 < n) :
    0 ≤ (IntKind.wrap .i64 (IntKind.wrap .i64 (IntKind.wrap .i64 (IntKind.wrap .i64 (x * 16777216) + IntKind.wrap .i64 (y * 65536)) + IntKind.wrap .i64 (z * 256)) + w)).tmod n ∧
    ((IntKind.wrap .i64 (IntKind.wrap .i64 (IntKind.wrap .i64 (IntKind.wrap .i64 (x * 16777216) + IntKind.wrap .i64 (y * 65536)) + IntKind.wrap .i64 (z * 256)) + w)).tmod n < n ∨ n ≤ 0 ∧ (IntKind.wrap .i64 (IntKind.wrap .i64 (IntKind.wrap .i64 (IntKind.wrap .i64 (x * 16777216) + IntKind.wrap .i64 (y * 65536)) + IntKind.wrap .i64 (z * 256)) + w)).tmod n = 0) := by
  rw [wrap_ok (n := x * 16777216) (by omega) (by omega), wrap_ok (n := y * 65536) (by omega) (by omega), wrap_ok (n := z * 256) (by omega) (by omega), wrap_ok (n := x * 16777216 + y * 65536) (by omega) (by omega), wrap_ok (n := x * 16777216 + y * 65536 + z * 256) (by omega) (by omega), wrap_ok (by omega) (by omega)]
  exact tmod_in (by omega) hn
theorem W_seqJ {P : Program} {N : Nat} {K : Exit → St → Prop} {x y : Code} {σ : St} {α : Type} (I : α → St) (φ : α → Prop) (h1 : W P N x (Then (fun σ' => ∃ p, φ p ∧ Sub σ' (I p)) K) σ) (h2 : ∀ p, φ p → W P N y K (I p)) : W P N (.seq x y) K σ :=
  W_seqK fun K' hK => W_mono h1 fun e σ' h => by
    cases e with
    | normal => obtain ⟨p, hp, hs⟩ := h; exact hK _ (W_sub hs (h2 p hp))
    | _ => exact h
end Go.Tw

namespace Go.Tw
def ends (x : GIns) : Bool := !(insOk x) || decide (x.op = 7) || decide (x.op = 8) || decide (x.op = 9)
def badIns (n i : Nat) (x : GIns) : Bool := (!(insOk x) && decide (x ≠ ⟨0, 0, 0, 0, 0⟩)) || (ends x && decide (i + 1 < n))
def blockHd (b : GBlock) : Bool := inR b.start 0 23 && inR (b.list.length : Int) 1 (4 - b.start % 4)
def blockOk (b : GBlock) : Bool := blockHd b && (List.range b.list.length).all fun i => match b.list[i]? with
  | some x => !badIns b.list.length i x
  | none => true
def pageOf (b : GBlock) : Int := if blockOk b = true then b.start / 4 else -1
end Go.Tw

namespace Go.Tw
end Go.Tw

namespace Go.Tw
def frameOk (f : GFrame) : Bool := if f.state = 0 then decide (f.list.length = 0) else inR f.state 0 2 && wordsOk f.list 4
def blk : List Int → List GIns
  | [] => []
  | w :: ws => if ends (decode w) = true then [decode w] else decode w :: blk ws
end Go.Tw

namespace Go.Tw
theorem callG_false {P : Program} {k : Bool} {f : FuncId} {vs : List V} {c : Prop} {d : Option Nat} {next : St → Prop} {σ : St} (v : V) (h : next (σ.set d false v)) : CallG P k f vs c false d next σ :=
  ⟨σ, v, fun _ _ _ _ _ g R => ⟨g, R⟩, fun _ => h, fun e => by cases e⟩
theorem all_of {α : Type} {xs : List α} {p : α → Bool} (h : ∀ j, (hj : j < xs.length) → p xs[j] = true) : xs.all p = true := by
  rw [List.all_eq_true]
  intro x hx
  obtain ⟨j, hj, rfl⟩ := List.getElem_of_mem hx
  exact h j hj
end Go.Tw

namespace Go.Tw
def msgHd (m : GMsg) : Bool := inR m.kind 1 7 && inR m.page 0 5 && ((decide (m.kind = 3) || decide (m.kind = 6)) || !m.own)
def msgOk (m : GMsg) : Bool := msgHd m && wordsOk m.list (if m.kind = 3 ∨ m.kind = 7 then 4 else 0)
def sendHd (s : GSender) : Bool := inR s.base 0 100000 && decide ((s.queue.length : Int) ≤ 30) && decide (IntKind.wrap .i64 (s.base + s.queue.length) ≤ 100000)
def senderOk (s : GSender) : Bool := sendHd s && s.queue.all msgOk
end Go.Tw

namespace Go.Tw
def wofN (who n : Int) : Bool := inR who 0 (IntKind.wrap .i64 (n - 1))
def homeHd (h : GHome) (n : Int) : Bool := inR n 1 4 && wordsOk h.list 4 && inR h.owner (-1) (IntKind.wrap .i64 (n - 1)) && decide ((h.readers.length : Int) = n) && wofN h.now.who n && inR h.acks 0 n && decide ((h.queue.length : Int) ≤ 12)
def homeOk (h : GHome) (n : Int) : Bool := homeHd h n && h.queue.all fun w => wofN w.who n
end Go.Tw

namespace Go.Tw
def nodeHd (x : GNode) (n : Int) : Bool := inR n 1 4 && inR x.id 0 (IntKind.wrap .i64 (n - 1)) && decide ((x.frames.length : Int) = 6) && decide ((x.homes.length : Int) = 6) && decide ((x.out.length : Int) = n) && decide ((x.in_.length : Int) = n)
def gotOk (r : GReceiver) : Bool := inR r.got 0 100000
def nodeOk (x : GNode) (n : Int) : Bool := nodeHd x n && x.frames.all frameOk && (x.homes.all fun h => homeOk h n) && x.out.all senderOk && x.in_.all gotOk
theorem all_no {α : Type} {xs : List α} {p : α → Bool} {i : Nat} (h : i < xs.length) (hp : p xs[i] = false) : xs.all p = false := by
  rw [List.all_eq_false]; exact ⟨xs[i], List.getElem_mem h, by simp [hp]⟩
end Go.Tw

namespace Go.Tw
theorem enc_tail {α : Type} (f : α → List T) (xs : List α) : (enc f xs).tail = enc f xs.tail := by cases xs <;> rfl
attribute [go_sem] enc_tail
def purge (l : List GBlock) (page : Int) : List GBlock := l.filter fun b => decide (pageOf b ≠ page)
theorem purge_step {l : List GBlock} {page : Int} {i : Nat} (h : i < l.length) : purge (l.take (i + 1)) page = purge (l.take i) page ++ (if pageOf l[i] = page then [] else [l[i]]) := by
  unfold purge
  rw [← List.take_append_getElem h, List.filter_append]
  by_cases hp : pageOf l[i] = page <;> simp [hp]
end Go.Tw

namespace Go.Tw
def xAt (mem : List Int) (h : GHart) : GIns := decode (mem.getD h.pc.toNat 0)
def tAt (mem : List Int) (h : GHart) : Int := target (xAt mem h) h.regs
def gAt (mem : List Int) (h : GHart) : Int := if 0 ≤ tAt mem h then mem.getD (tAt mem h).toNat 0 else 0
def stepH (mem : List Int) (h : GHart) : GHart := (work h (xAt mem h) (gAt mem h)).1
def putAt (mem : List Int) (h : GHart) : Int := (work h (xAt mem h) (gAt mem h)).2
def stepM (mem : List Int) (h : GHart) : List Int := if 0 ≤ putAt mem h then mem.set (tAt mem h).toNat (putAt mem h) else mem
theorem work_regs (h : GHart) (x : GIns) (got : Int) : (work h x got).1.regs.length = h.regs.length := by
  unfold work
  by_cases q : hartOk h = true ∧ h.state = 0 ∧ isW got = true
  · rw [if_pos q]
    by_cases qi : insOk x = true
    · rw [if_pos qi]
      split; · simp
      split; · simp
      split; · simp
      split; · simp
      split; · simp
      split; · simp
      split; · simp
      split; · simp
      split <;> simp
    · rw [if_neg qi]
  · rw [if_neg q]
theorem work_small {h : GHart} (x : GIns) (got : Int) {n : Nat} (q : h.regs.length ≤ n) : (work h x got).1.regs.length ≤ n := by rw [work_regs]; exact q
theorem stepM_len (mem : List Int) (h : GHart) : (stepM mem h).length = mem.length := by unfold stepM; split <;> simp
structure Tr where
  m : List Int
  hs : List GHart
  evs : List GEvent
def z0 : GHart := ⟨[], 0, 0⟩
def trGo (s : Tr) (i : Int) : Bool := decide (0 ≤ i) && decide (i < s.hs.length) && evOk s.m (s.hs.getD i.toNat z0)
def trStep (s : Tr) (i : Int) : Tr :=
  if trGo s i = true then ⟨stepM s.m (s.hs.getD i.toNat z0), s.hs.set i.toNat (stepH s.m (s.hs.getD i.toNat z0)), s.evs ++ [eventOf s.m (s.hs.getD i.toNat z0) i]⟩ else s
def TrOk (n : Nat) (s : Tr) : Prop := s.m.length ≤ 1048576 ∧ s.hs.length = n ∧ ∀ h ∈ s.hs, h.regs.length ≤ 1048576
theorem TrOk.step {n : Nat} {s : Tr} (h : TrOk n s) (i : Int) : TrOk n (trStep s i) := by
  unfold trStep
  split
  · rename_i hg
    obtain ⟨h1, h2, h3⟩ := h
    refine ⟨by rw [stepM_len]; exact h1, by simpa using h2, fun a ha => ?_⟩
    rcases List.mem_or_eq_of_mem_set ha with ha | rfl
    · exact h3 a ha
    · unfold trGo at hg
      simp only [Bool.and_eq_true, decide_eq_true_eq] at hg
      have hlt : i.toNat < s.hs.length := by omega
      refine work_small _ _ ?_
      rw [List.getD_eq_getElem?_getD, List.getElem?_eq_getElem hlt]
      exact h3 _ (List.getElem_mem hlt)
  · exact h
end Go.Tw

namespace Go.Tw
def eG (s : Int) : List T := [.int .i64 s, .hole]
def kept (xs : List GBlock) (page : Int) (j : Nat) : Nat := (purge (xs.take j) page).length
def Del (xs : List GBlock) (page : Int) (j : Nat) (es : Els) : Prop :=
  ∃ gl : List Int, es = enc eBlock (purge (xs.take j) page) ++ enc eG gl ++ enc eBlock (xs.drop j) ∧ kept xs page j + gl.length = j ∧ 0 < gl.length
section
variable {xs : List GBlock} {page : Int} {j : Nat} {es : Els}
theorem Del.len (h : Del xs page j es) (hj : j ≤ xs.length) : es.length = xs.length := by
  obtain ⟨gl, rfl, h1, h2⟩ := h
  simp only [List.length_append, enc_length, List.length_drop]
  unfold kept at h1
  omega
theorem Del.lt (h : Del xs page j es) : kept xs page j < j := by
  obtain ⟨gl, -, h1, h2⟩ := h
  omega
theorem Del.at (h : Del xs page j es) (hj : j < xs.length) : es[j]? = some [.int .i64 xs[j].start, .sl 5 (enc eIns xs[j].list)] := by
  obtain ⟨gl, rfl, h1, h2⟩ := h
  unfold kept at h1
  rw [List.getElem?_append_right (by simp only [List.length_append, enc_length]; omega)]
  simp only [List.length_append, enc_length]
  rw [show j - ((purge (xs.take j) page).length + gl.length) = 0 from by omega, enc_get, List.getElem?_drop]
  simp [hj, eBlock]
theorem set_mid {α : Type} (a b c : List α) (x y : α) : (a ++ (b ++ x :: c)).set (a.length + b.length) y = a ++ (b ++ y :: c) := by
  rw [List.set_append_right _ _ (by omega), Nat.add_sub_cancel_left, List.set_append_right _ _ (by omega), Nat.sub_self]
  rfl
theorem Del.skip (h : Del xs page j es) (hj : j < xs.length) (hp : pageOf xs[j] = page) : Del xs page (j + 1) (es.set j [.int .i64 xs[j].start, .hole]) ∧ kept xs page (j + 1) = kept xs page j := by
  obtain ⟨gl, rfl, h1, h2⟩ := h
  have hk : purge (xs.take (j + 1)) page = purge (xs.take j) page := by rw [purge_step hj, if_pos hp, List.append_nil]
  refine ⟨⟨gl ++ [xs[j].start], ?_, ?_, by simp⟩, by unfold kept; rw [hk]⟩
  · rw [hk]
    unfold kept at h1
    have e1 : enc eBlock (xs.drop j) = eBlock xs[j] :: enc eBlock (xs.drop (j + 1)) := by rw [List.drop_eq_getElem_cons hj]; rfl
    have e2 : (enc eBlock (purge (xs.take j) page)).length + (enc eG gl).length = j := by simp only [enc_length]; exact h1
    rw [e1, List.append_assoc]
    have := set_mid (enc eBlock (purge (xs.take j) page)) (enc eG gl) (enc eBlock (xs.drop (j + 1))) (eBlock xs[j]) [.int .i64 xs[j].start, .hole]
    rw [e2] at this
    rw [this]
    simp [enc, eG]
  · unfold kept at *
    rw [hk]
    simp only [List.length_append, List.length_singleton]
    omega
theorem Del.start {i : Nat} (hi : i < xs.length) (hp : pageOf xs[i] = page) (hall : ∀ k, (hk : k < xs.length) → k < i → ¬ pageOf xs[k] = page) :
    Del xs page (i + 1) ((enc eBlock xs).set i [.int .i64 xs[i].start, .hole]) ∧ kept xs page (i + 1) = i := by
  have h0 : purge (xs.take i) page = xs.take i := by
    unfold purge
    rw [List.filter_eq_self]
    intro a ha
    obtain ⟨k, hk, rfl⟩ := List.getElem_of_mem ha
    simp only [List.length_take] at hk
    simp only [List.getElem_take, decide_eq_true_eq]
    exact hall k (by omega) (by omega)
  have hk : purge (xs.take (i + 1)) page = xs.take i := by rw [purge_step hi, if_pos hp, List.append_nil, h0]
  have hki : kept xs page (i + 1) = i := by unfold kept; rw [hk]; simp; omega
  refine ⟨⟨[xs[i].start], ?_, by rw [hki]; rfl, by simp⟩, hki⟩
  rw [hk]
  have e1 : xs = xs.take i ++ xs[i] :: xs.drop (i + 1) := by rw [← List.drop_eq_getElem_cons hi, List.take_append_drop]
  have e2 : enc eBlock xs = enc eBlock (xs.take i) ++ ([] ++ eBlock xs[i] :: enc eBlock (xs.drop (i + 1))) := by
    rw [List.nil_append]
    have e0 := congrArg (enc eBlock) e1
    rw [e0]
    unfold enc
    rw [List.map_append]
    rfl
  have e3 : (enc eBlock (xs.take i)).length + ([] : Els).length = i := by simp [enc_length]; omega
  rw [e2]
  have := set_mid (enc eBlock (xs.take i)) [] (enc eBlock (xs.drop (i + 1))) (eBlock xs[i]) [.int .i64 xs[i].start, .hole]
  rw [e3] at this
  rw [this]
  simp [enc, eG]
theorem Del.fin (h : Del xs page xs.length es) : es.take (kept xs page xs.length) = enc eBlock (purge xs page) ∧ kept xs page xs.length = (purge xs page).length ∧ (purge xs page).length < xs.length := by
  have hlt := h.lt
  obtain ⟨gl, rfl, h1, h2⟩ := h
  have hk : kept xs page xs.length = (purge xs page).length := by unfold kept; rw [List.take_length]
  refine ⟨?_, hk, by omega⟩
  rw [hk, List.take_length, List.append_assoc, List.take_left' (by simp [enc_length])]
end
end Go.Tw

namespace Go.Tw
end Go.Tw

