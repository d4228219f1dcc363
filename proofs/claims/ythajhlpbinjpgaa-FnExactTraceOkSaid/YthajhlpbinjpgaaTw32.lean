/- A region's operations as a list; names for the steps. -/
import Derived.Test.YthajhlpbinjpgaaTw31
set_option linter.unusedSimpArgs false
set_option linter.unusedVariables false
namespace Go.Tw

/-- One operation. -/
def Step (P : Program) (N : Nat) (k : Bool) (ops : List Oper) (o : Oper) (σ : St) (next : St → Prop) : Prop :=
  dstOk N o.dst ∧ match guardOf σ ops.toArray o.guard with
    | none => False
    | some G => match Op.isPv o.op with
      | true => match pv P σ o.op with
        | some (c, v) => (G = true → c) ∧ next (σ.set o.dst G v)
        | none => False
      | false => match calleeOf σ o.op with
        | some (c, f, vs) => CallG P k f vs c G o.dst (fun σ' => next σ') σ
        | none => (G = false → next (σ.set o.dst false (.l .undef))) ∧ (G = true → match eff P σ σ.nxt o.op with
          | some (c, σ', some v) => c ∧ next ({ σ' with nxt := σ.nxt + 1 }.set o.dst true v)
          | some (c, σ', none) => c ∧ next ({ σ' with nxt := σ.nxt + 1 }.set o.dst false (.l .undef))
          | none => False)

def RunL (P : Program) (N : Nat) (k : Bool) (ops : List Oper) (K : St → Prop) : List Oper → St → Prop
  | [], σ => K σ
  | o :: rest, σ => Step P N k ops o σ (RunL P N k ops K rest)

section
variable {P : Program} {N : Nat} {σ : St} {K : Exit → St → Prop}

theorem Step_mono {k : Bool} {ops : List Oper} {o : Oper} {next next' : St → Prop} (hn : ∀ σ, next σ → next' σ) (h : Step P N k ops o σ next) : Step P N k ops o σ next' := by
  unfold Step at *
  obtain ⟨h1, h2⟩ := h
  refine ⟨h1, ?_⟩
  cases hg : guardOf σ ops.toArray o.guard with
  | none => rw [hg] at h2; exact h2.elim
  | some G =>
    simp only [hg] at h2 ⊢
    cases hp : Op.isPv o.op with
    | true =>
      simp only [hp] at h2 ⊢
      cases hv : pv P σ o.op with
      | none => rw [hv] at h2; exact h2.elim
      | some q => simp only [hv] at h2 ⊢; exact ⟨h2.1, hn _ h2.2⟩
    | false =>
      simp only [hp] at h2 ⊢
      cases hc : calleeOf σ o.op with
      | some q =>
        simp only [hc] at h2 ⊢
        obtain ⟨σ1, v1, hsub, h3, h4⟩ := h2
        refine ⟨σ1, v1, hsub, fun e => hn _ (h3 e), fun e => ?_⟩
        have h5 := h4 e
        refine ⟨h5.1, h5.2.1, fun w0 Al N a w g vs R hv => ?_⟩
        refine Calls.mono (h5.2.2 w0 Al N a w g vs R hv) fun e w' he => ?_
        cases e with
        | returned r => obtain ⟨σ', g', v, q1, q2, q3, q4⟩ := he; exact ⟨σ', g', v, q1, q2, hn _ q3, q4⟩
        | panicked => exact he
        | outgrown => exact he
      | none =>
        simp only [hc] at h2 ⊢
        refine ⟨fun e => hn _ (h2.1 e), fun e => ?_⟩
        have h5 := h2.2 e
        cases he : eff P σ σ.nxt o.op with
        | none => rw [he] at h5; exact h5.elim
        | some q =>
          obtain ⟨c, σ', rv⟩ := q
          cases rv with
          | none => simp only [he] at h5 ⊢; exact ⟨h5.1, hn _ h5.2⟩
          | some v => simp only [he] at h5 ⊢; exact ⟨h5.1, hn _ h5.2⟩

theorem Run_of_RunL {K : St → Prop} (ops : List Oper) : ∀ (pre rest : List Oper) (σ : St), ops = pre ++ rest → RunL P N false ops K rest σ → Run P N ops.toArray K ((List.range rest.length).map (· + pre.length)) σ
  | pre, [], σ, _, h => h
  | pre, o :: rest, σ, e, h => by
    have hget : ops.toArray[pre.length]? = some o := by simp [e]
    have ih := fun σ => Run_of_RunL (K := K) ops (pre ++ [o]) rest σ (by simp [e])
    have hl : (List.range (o :: rest).length).map (· + pre.length) = pre.length :: (List.range rest.length).map (· + (pre ++ [o]).length) := by
      rw [List.length_cons, List.range_succ_eq_map]
      simp only [List.map_cons, List.map_map, List.length_append, List.length_singleton, Nat.zero_add]
      congr 1
      apply List.map_congr_left
      intro x _
      simp only [Function.comp]
      omega
    rw [hl]
    simp only [Run, hget]
    exact Step_mono (fun σ => ih σ) h

theorem W_reg {id : Nat} {l : List Oper} (h : RunL P N false l (K .normal) l σ) : W P N (.region id l.toArray false) K σ :=
  W_region (by
    have := Run_of_RunL (P := P) (N := N) (K := K .normal) l [] l σ rfl h
    simpa using this)

end

end Go.Tw
