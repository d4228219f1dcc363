/- A slice compared with nil: the answer is open, but no slice with elements is nil. -/
import Derived.Test.YthajhlpbinjpgaaTyA
set_option linter.unusedSimpArgs false
set_option linter.unusedVariables false
namespace Go.Tw

def lenOf : L → Option Nat
  | .ref _ _ _ _ len => some len
  | .nil => some 0
  | _ => none

section
variable {P : Program} {w0 w w' : World} {Al : Blks} {N : Nat} {g : Gh} {σ : St} {a : Act} {K : Exit → St → Prop}

theorem nil_len (m : Mem w g σ) {l : L} {n : Nat} {v : Value} (hl : lenOf l = some n) (h : RepL w g σ l v) : ∃ oa cap, v = .slice oa n cap ∧ (oa = none → n = 0) := by
  cases l with
  | ref r p z off len =>
    simp only [lenOf, Option.some.injEq] at hl
    subst hl
    obtain ⟨row, es, u, h1, h2, h3, h4, h5⟩ := h
    obtain ⟨oa, k, cap, oa', rfl, rfl, h6⟩ := h5
    refine ⟨oa', _, rfl, fun e => ?_⟩
    subst e
    obtain ⟨u', hu', hr⟩ := m.at h1 h2
    rw [h3] at hu'
    cases hu'
    obtain ⟨hcap, hk⟩ := hr.cap_ge
    rcases h6 with h6 | h6
    · omega
    · cases oa with
      | some x => simp at h6
      | none => cases hr with | nils => simp at h4; omega
  | nil =>
    simp only [lenOf, Option.some.injEq] at hl
    subst hl
    obtain ⟨oa, rfl⟩ := h
    exact ⟨oa, 0, rfl, fun _ => rfl⟩
  | _ => simp [lenOf] at hl

theorem W_regNil {id x d1 d2 t te ty1 ty2 e : Nat} {ps1 ps2 : String} {af : Array Edge} {l : L} {n : Nat} (hu : (tyOf P t).u = .sl e) (hx : get σ.env x = some (true, .l l)) (hl : lenOf l = some n) (h1 : d1 < N) (h2 : d2 < N)
    (h : ∀ b : Bool, (b = true → n = 0) → K .normal ((σ.set (some d1) true (.l l)).set (some d2) true (.l (.t (.bool b))))) :
    W P N (.region id #[{ dst := some d1, op := .move (.tmp x), type := ty1, pos := ps1, after := #[], guard := none },
      { dst := some d2, op := .binOp .eql t (.tmp d1) (.const (.slice none 0 0)) te, type := ty2, pos := ps2, after := af, guard := none }] false) K σ := by
  intro w0 Al a w g R
  refine wp_region ?_
  have hu' : ∃ e', P.underlying t = some (.slice e') := by
    simp only [tyOf, uOf] at hu
    split at hu <;> simp_all
  obtain ⟨e', hu'⟩ := hu'
  have hxr := R.slots.yes x true _ hx rfl
  obtain ⟨oa, cap, hv, hnil⟩ := nil_len R.mem hl hxr
  have R1 := Rel.put (x := a.tmps.getD x undef) (d := some d1) (v := .l l) (c := true) R (fun t e => by cases e; exact h1) (fun _ => hxr) (fun e => by cases e)
  have ev : (a.put (some d1) (a.tmps.getD x undef)).eval (.tmp d1) = .slice oa n cap := by
    have hs : d1 < a.tmps.size := R.tsz ▸ h1
    rw [← hv]
    simp [Act.eval, Act.put, hs, Array.getD]
  have heq : ∀ w1 : World, (Go.binOp .eql t (.slice oa n cap) (.slice none 0 0)).run P w1 = .ok (.bool oa.isNone) w1 := by
    intro w1
    have hq : (Op.equal t (.slice oa n cap) (.slice none 0 0)).run P w1 = .ok oa.isNone w1 := by
      show (Op.equalIn (9999 + 1) t (.slice oa n cap) (.slice none 0 0)).run P w1 = _
      generalize 9999 = d
      simp only [Op.equalIn, Sem.run_bind, run_underlying hu', Result.andThen_ok]
      cases oa <;> simp [Sem.run_pure]
    show ((do pure (.bool (← Op.equal t (.slice oa n cap) (.slice none 0 0))) : Sem Value)).run P w1 = _
    simp only [Sem.run_bind, hq, Result.andThen_ok, Sem.run_pure]
  have R2 := Rel.put (x := .bool oa.isNone) (d := some d2) (v := .l (.t (.bool oa.isNone))) (c := true) R1 (fun t e => by cases e; exact h2) (fun _ => .bool) (fun e => by cases e)
  have hK := h oa.isNone (fun e => hnil (by simpa using e))
  have e0 : List.range (2 : Nat) = [0, 1] := rfl
  simp only [List.size_toArray, List.length_cons, List.length_nil, Nat.zero_add, Nat.reduceAdd, e0, wpOps, List.getElem?_toArray, List.getElem?_cons_zero, List.getElem?_cons_succ, Region.wanted, if_true]
  refine .inl ?_
  have q1 : (execOp a.eval { dst := some d1, op := .move (.tmp x), type := ty1, pos := ps1, after := #[], guard := none }).run P w = .ok (.value (a.tmps.getD x undef)) w := by simp [execOp, Act.eval]
  simp only [Oper.wp, q1, Oper.upon]
  refine .inl ?_
  have q2 : (execOp (a.put (some d1) (a.tmps.getD x undef)).eval { dst := some d2, op := .binOp .eql t (.tmp d1) (.const (.slice none 0 0)) te, type := ty2, pos := ps2, after := af, guard := none }).run P w = .ok (.value (.bool oa.isNone)) w := by
    have hg : (eqGuard .eql t (.tmp d1) (.const (.slice none 0 0)) (.slice oa n cap) (.slice none 0 0)).run P w = .ok () w := by simp [eqGuard]
    have e2 : (a.put (some d1) (a.tmps.getD x undef)).eval (.const (.slice none 0 0)) = .slice none 0 0 := rfl
    simp only [execOp, ev, e2, Sem.run_bind, hg, heq, Result.andThen_ok, Sem.run_pure]
  simp only [q2]
  exact ⟨_, _, R2, hK⟩
end
theorem flat_nil : Flat [] := by simp [Flat]
theorem flat_cons (x : List T) (xs : Els) : Flat (x :: xs) ↔ (∀ c ∈ x, c.flat = true) ∧ Flat xs := by simp [Flat]
theorem flat_app (xs ys : Els) : Flat (xs ++ ys) ↔ Flat xs ∧ Flat ys := by
  simp only [Flat, List.mem_append]
  exact ⟨fun h => ⟨fun x hx => h x (Or.inl hx), fun x hx => h x (Or.inr hx)⟩, fun h x hx => hx.elim (h.1 x) (h.2 x)⟩
theorem flat_enc {α : Type} {f : α → List T} (xs : List α) (h : ∀ x, (f x).all T.flat = true) : Flat (enc f xs) := by
  intro x hx c hc
  simp only [enc, List.mem_map] at hx
  obtain ⟨y, _, rfl⟩ := hx
  exact List.all_eq_true.1 (h y) c hc
theorem flat_eI (xs : List Int) : Flat (enc eI xs) := flat_enc xs fun _ => rfl
theorem flat_eB (xs : List Bool) : Flat (enc eB xs) := flat_enc xs fun _ => rfl
theorem flat_eU (xs : List Int) : Flat (enc eU xs) := flat_enc xs fun _ => rfl
theorem flat_eStr (xs : List ByteArray) : Flat (enc eStr xs) := flat_enc xs fun _ => rfl
theorem flat_eEvent (xs : List GEvent) : Flat (enc eEvent xs) := flat_enc xs fun _ => rfl
theorem flat_eIns (xs : List GIns) : Flat (enc eIns xs) := flat_enc xs fun _ => rfl
theorem flat_eWait (xs : List GWait) : Flat (enc eWait xs) := flat_enc xs fun _ => rfl
theorem flat_eReceiver (xs : List GReceiver) : Flat (enc eReceiver xs) := flat_enc xs fun _ => rfl
theorem flat_eRace (xs : List GRace) : Flat (enc eRace xs) := flat_enc xs fun _ => rfl
theorem flat_eDeed (xs : List GDeed) : Flat (enc eDeed xs) := flat_enc xs fun _ => rfl
attribute [go_sem] appT appS partsL takeLss shareL shareLs shareLss flat_nil flat_cons flat_app flat_eI flat_eB flat_eU flat_eStr flat_eEvent flat_eIns flat_eWait flat_eReceiver flat_eRace flat_eDeed T.flat lenOf
end Go.Tw
