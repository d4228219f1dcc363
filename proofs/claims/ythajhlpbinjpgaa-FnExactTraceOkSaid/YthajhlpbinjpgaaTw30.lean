/- A call by its contract. -/
import Derived.Test.YthajhlpbinjpgaaTw29
set_option linter.unusedSimpArgs false
set_option linter.unusedVariables false
namespace Go.Tw

/-- The state behind a call that answered with what is new. -/
def St.answer (σ : St) (res : List A) : St := { σ with row := rowsN .own σ.nxt (flatA res) ++ σ.row, nxt := σ.nxt + (flatA res).length }

section
variable {P : Program} {w0 w w' : World} {Al : Blks} {N : Nat} {g : Gh} {σ σ' : St} {a : Act}

theorem denLs_rep (m : Mem w g σ) : ∀ {ls : List L} {ts : List T} {vs : List Value}, RepLs w g σ ls vs → denLs σ ls ts → ts.length = vs.length ∧ ∀ (j : Nat) t v, ts[j]? = some t → vs[j]? = some v → Rep w false v t fun _ => True
  | [], [], [], _, _ => ⟨rfl, by simp⟩
  | l :: ls, t :: ts, v :: vs, h, hd => by
    obtain ⟨h1, h2⟩ := denLs_rep m h.2 hd.2
    refine ⟨by simp [h1], fun j t' v' ht hv => ?_⟩
    cases j with
    | zero => simp at ht hv; subst ht hv; exact denL_rep m h.1 hd.1
    | succ j => exact h2 j t' v' (by simpa using ht) (by simpa using hv)
  | [], _ :: _, _, _, h => h.elim
  | _ :: _, [], _, _, h => h.elim
  | [], [], _ :: _, h, _ => h.elim
  | _ :: _, _ :: _, [], h, _ => h.elim

theorem denVs_rep (m : Mem w g σ) : ∀ {vs : List V} {xs : List A} {us : List Value}, RepVs w g σ vs us → denVs σ vs xs →
    Shapes xs us ∧ ∀ (j : Nat) t v, (flatA xs)[j]? = some t → (flatU us)[j]? = some v → Rep w false v t fun _ => True
  | [], [], [], _, _ => ⟨trivial, by simp [flatA]⟩
  | x :: vs, (b, ts) :: xs, u :: us, h, hd => by
    have key : ∀ ls, RepLs w g σ ls u.cells.toList → denLs σ ls ts → ShapeV (b, ts) u → denVs σ vs xs →
        Shapes ((b, ts) :: xs) (u :: us) ∧ ∀ (j : Nat) t v, (flatA ((b, ts) :: xs))[j]? = some t → (flatU (u :: us))[j]? = some v → Rep w false v t fun _ => True := by
      intro ls h1 h2 h3 h4
      obtain ⟨q1, q2⟩ := denLs_rep m h1 h2
      obtain ⟨q3, q4⟩ := denVs_rep m h.2 h4
      refine ⟨⟨h3, q3⟩, fun j t v ht hv => ?_⟩
      simp only [flatA, flatU, List.flatMap_cons] at ht hv
      by_cases hj : j < ts.length
      · rw [List.getElem?_append_left hj] at ht
        rw [List.getElem?_append_left (by omega)] at hv
        exact q2 j t v ht hv
      · rw [List.getElem?_append_right (by omega)] at ht
        rw [List.getElem?_append_right (by omega)] at hv
        rw [← q1] at hv
        exact q4 _ t v ht hv
    cases x with
    | l y =>
      cases b with
      | true => exact hd.elim
      | false =>
        obtain ⟨d1, d2⟩ := hd
        have hone : u.oneCell' = true := RepL.one h.1
        have hl : ts.length = 1 := by
          match ts, d1 with
          | [_], _ => rfl
          | [], d1 => exact d1.elim
          | _ :: _ :: _, d1 => exact d1.2.elim
        exact key [y] (RepV.cells h.1 rfl) d1 (by simp only [ShapeV, Bool.false_eq_true, if_false]; exact ⟨hl, hone⟩) d2
    | agg ys =>
      cases b with
      | false => exact hd.elim
      | true =>
        obtain ⟨d1, d2⟩ := hd
        obtain ⟨cs, rfl, hr⟩ := h.1
        have hl := (denLs_rep m hr d1).1
        exact key ys (by simpa [Value.cells] using hr) d1 (by simp only [ShapeV, if_true]; exact ⟨cs, rfl, hl.symm⟩) d2
    | tup => cases b <;> exact hd.elim
  | [], _ :: _, _, _, h => h.elim
  | .l _ :: _, [], _, _, h => h.elim
  | .agg _ :: _, [], _, _, h => h.elim
  | .tup _ :: _, [], _, _, h => h.elim
  | [], [], _ :: _, h, _ => h.elim
  | _ :: _, _ :: _, [], h, _ => h.elim

theorem answer_in (m : Mem w g σ) {res : List A} (hfr : ∀ j, j < (flatA res).length → get σ.row (σ.nxt + j) = none) {us : List Value} (hsh : Shapes res us) {F : Nat → Blks}
    (hF : ∀ (j : Nat) t v, (flatA res)[j]? = some t → (flatU us)[j]? = some v → Rep w' true v t (F j)) (hlo : ∀ j b, F j b → w.heap.size ≤ b) (hdis : ∀ j j' b, F j b → F j' b → j = j')
    (hsiz : w.heap.size ≤ w'.heap.size) (hold : ∀ b, b < w.heap.size → w'.heap[b]? = w.heap[b]?) :
    ∃ g', NewIn w w' g g' σ (σ.answer res) [] [] (rowsN .own σ.nxt (flatA res)) [] (fun _ => false) ∧ ∀ j v, j < (flatA res).length → (flatU us)[j]? = some v → g'.rw (σ.nxt + j) = v := by
  -- the blocks that are there
  let G : Nat → Blks := fun j b => F j b ∧ b < w'.heap.size
  let g' : Gh := ⟨g.bx, fun k => if σ.nxt ≤ k ∧ k < σ.nxt + (flatA res).length then (flatU us).getD (k - σ.nxt) undef else g.rw k, fun k => if σ.nxt ≤ k ∧ k < σ.nxt + (flatA res).length then G (k - σ.nxt) else g.fp k⟩
  have hfl := flatU_length hsh
  have hrow : ∀ r row, get (rowsN .own σ.nxt (flatA res)) r = some row → row.pm = .own ∧ σ.nxt ≤ r ∧ r < σ.nxt + (flatA res).length ∧ (flatA res)[r - σ.nxt]? = some (.sl row.z row.es) := by
    intro r row hr
    rw [get_rowsN] at hr
    split at hr
    · rename_i hle
      split at hr
      · rename_i z es he
        simp only [Option.some.injEq] at hr
        subst hr
        have := (List.getElem?_eq_some_iff.1 he).1
        exact ⟨rfl, hle, by omega, he⟩
      · cases hr
    · cases hr
  have hnew : ∀ k row, get (rowsN .own σ.nxt (flatA res)) k = some row → get σ.row k = none := by
    intro k row hk
    obtain ⟨_, h1, h2, _⟩ := hrow k row hk
    have := hfr (k - σ.nxt) (by omega)
    rwa [Nat.add_sub_cancel' h1] at this
  have hnot : ∀ r, (get σ.row r).isSome → ¬ (σ.nxt ≤ r ∧ r < σ.nxt + (flatA res).length) := by
    rintro r hr ⟨h1, h2⟩
    have := hfr (r - σ.nxt) (by omega)
    rw [Nat.add_sub_cancel' h1] at this
    rw [this] at hr
    cases hr
  refine ⟨g', ⟨by simp [St.answer, del_nil], by simp [St.answer, del_nil, killB_no], fun b hb _ => hold b hb, hsiz, fun r _ hr => ?_, fun _ _ _ => rfl, fun k row hk => Or.inr (hnew k row hk), fun k ls hk => by simp [get] at hk, ?_, ?_, ?_, ?_, fun k ls hk => by simp [get] at hk, ?_, fun k ls r row hk => by simp [get] at hk, fun k k' ls ls' hk => by simp [get] at hk, fun k ls hk => by simp [get] at hk, fun _ _ r p _ _ h => by simp at h, fun _ _ b _ _ h => by simp at h⟩, ?_⟩
  · have := hnot r hr
    simp only [g', this, if_false, and_self]
  · intro k row hk _
    obtain ⟨_, h1, h2, h3⟩ := hrow k row hk
    have hc : σ.nxt ≤ k ∧ k < σ.nxt + (flatA res).length := ⟨h1, h2⟩
    have hlt : k - σ.nxt < (flatU us).length := by omega
    have hv : (flatU us)[k - σ.nxt]? = some ((flatU us).getD (k - σ.nxt) undef) := by simp [List.getD_eq_getElem?_getD, List.getElem?_eq_getElem hlt]
    simp only [g', hc, and_self, if_true]
    obtain ⟨H, hH, hs, hlt'⟩ := (hF _ _ _ h3 hv).lt
    exact hH.mono fun b hb => ⟨hs b hb, hlt' b hb⟩
  · intro k row hk hp; rw [(hrow k row hk).1] at hp; cases hp
  · intro k row hk hp; rw [(hrow k row hk).1] at hp; cases hp
  · intro k row b hk _ hb
    obtain ⟨_, h1, h2, h3⟩ := hrow k row hk
    have hc : σ.nxt ≤ k ∧ k < σ.nxt + (flatA res).length := ⟨h1, h2⟩
    simp only [g', hc, and_self, if_true] at hb
    exact ⟨Or.inr (hlo _ b hb.1), hb.2⟩
  · intro r r' row row' b hr hr' _ _ hb hb'
    obtain ⟨_, h1, h2, _⟩ := hrow r row hr
    obtain ⟨_, h3, h4, _⟩ := hrow r' row' hr'
    have hc : σ.nxt ≤ r ∧ r < σ.nxt + (flatA res).length := ⟨h1, h2⟩
    have hc' : σ.nxt ≤ r' ∧ r' < σ.nxt + (flatA res).length := ⟨h3, h4⟩
    simp only [g', hc, hc', and_self, if_true] at hb hb'
    have := hdis _ _ b hb.1 hb'.1
    omega
  · intro j v hj hv
    have hc : σ.nxt ≤ σ.nxt + j ∧ σ.nxt + j < σ.nxt + (flatA res).length := ⟨by omega, by omega⟩
    simp only [g', hc, and_self, if_true, Nat.add_sub_cancel_left, List.getD_eq_getElem?_getD, hv, Option.getD_some]

/-- A call of a function that only reads. -/
theorem CallW_pure {f : FuncId} {args res : List A} {vs : List V} {v : V} {K : St → V → Prop} (hpc : PC P f args res) (hden : denVs σ vs args) (hv : oneV (valsN σ.nxt res) = some v)
    (hfr : ∀ j, j < (flatA res).length → get σ.row (σ.nxt + j) = none) (hK : K (σ.answer res) v) {k : Bool} : CallW P k f vs K σ := by
  refine ⟨hpc.1, fun w0 Al N a w g us R hus => ?_⟩
  obtain ⟨h1, h2⟩ := denVs_rep R.mem hus hden
  refine Calls.mono (hpc.2 w us h1 h2) fun e w' he => ?_
  cases e with
  | panicked => exact he
  | outgrown => exact he
  | returned r =>
    obtain ⟨hsiz, hold, hos, htape, hout, us', rfl, hsh, F, hF, hlo, hdis⟩ := he
    obtain ⟨g', hin, hrw⟩ := answer_in R.mem hfr hsh hF hlo hdis hsiz hold
    have R' := R.turn hin ⟨by rw [killE_no]; rfl, (killS_no _).symm⟩ hos htape hout
    refine ⟨σ.answer res, g', v, R', ?_, hK, fun _ => hold⟩
    refine oneV_unit hv (valsN_rep hsh fun j t u ht hu => leafN_rep (hF j t u ht hu) fun z es e => ?_)
    subst e
    have hj : j < (flatA res).length := (List.getElem?_eq_some_iff.1 ht).1
    refine ⟨⟨.own, z, es⟩, ?_, rfl, rfl, hrw j u hj hu⟩
    simp only [St.answer, get_append, get_rowsN, Nat.le_add_right, if_true, Nat.add_sub_cancel_left, ht]

end

end Go.Tw
