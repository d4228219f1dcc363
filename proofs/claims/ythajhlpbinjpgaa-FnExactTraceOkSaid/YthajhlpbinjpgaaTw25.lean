/- The walk through a region's operations, one behind the other, as a function of the state; calls are left to their contracts. -/
import Derived.Test.YthajhlpbinjpgaaTw24
set_option linter.unusedSimpArgs false
set_option linter.unusedVariables false
namespace Go.Tw

/-- The state with a new name's number, nothing else. -/
theorem Rel.num {w0 w : World} {Al : Blks} {N : Nat} {σ : St} {a : Act} {g : Gh} (R : Rel w0 Al N σ a w g) (n : Nat) : Rel w0 Al N { σ with nxt := n } a w g := by
  obtain ⟨h1, h2, h3, h4, h5, h6, h7, h8, h9, h10, h11, h12⟩ := R
  refine ⟨h1.congr rfl rfl rfl, h2, h3.same rfl rfl, ?_, h5, h6, h7, h8, h9, h10, h11, fun x hx => ?_⟩
  · rw [Owned.same (g := g) (σ' := { σ with nxt := n }) (σ := σ) rfl rfl]; exact h4
  · obtain ⟨q1, q2, q3⟩ := h12 x hx
    exact ⟨fun t c v h hc => (q1 t c v h hc).same rfl rfl, q2, q3⟩

def RepVs (w : World) (g : Gh) (σ : St) : List V → List Value → Prop
  | [], [] => True
  | x :: xs, v :: vs => RepV w g σ x v ∧ RepVs w g σ xs vs
  | _, _ => False

/-- A function of the program's own. -/
def Ours (P : Program) (f : FuncId) : Prop := ∃ fn, P.funcs[f]? = some fn ∧ fn.body.isSome = true ∧ (fn.name == "runtime.NumGoroutine") = false

/-- What a call leaves: K holds of the state and of the value behind it. -/
def CallW (P : Program) (k : Bool) (f : FuncId) (args : List V) (K : St → V → Prop) (σ : St) : Prop :=
  Ours P f ∧ ∀ w0 Al N a w g vs, Rel w0 Al N σ a w g → RepVs w g σ args vs → Calls P f vs.toArray w fun
    | .returned r, w' => ∃ σ' g' v, Rel w0 Al N σ' a w' g' ∧ RepV w' g' σ' v r ∧ K σ' v ∧ (k = true → Kept w w')
    | _, _ => False

/-- One state says less than another. -/
def Sub (σ σ' : St) : Prop := ∀ w0 Al N a w g, Rel w0 Al N σ a w g → ∃ g', Rel w0 Al N σ' a w g'

/-- A call under a guard: where it is not done, a state that says less, and a slot of nothing. -/
def CallG (P : Program) (k : Bool) (f : FuncId) (vs : List V) (c : Prop) (G : Bool) (d : Option Nat) (next : St → Prop) (σ : St) : Prop :=
  ∃ σ1 v1, Sub σ σ1 ∧ (G = false → next (σ1.set d false v1)) ∧ (G = true → c ∧ CallW P k f vs (fun σ' v => next (σ'.set d true v)) σ)

/-- A region's operation's guard. -/
def guardOf (σ : St) (ops : Array Oper) : Option (Nat × Bool) → Option Bool
  | none => some true
  | some (j, want) => match (ops[j]?).bind (·.dst) with
    | some d => match get σ.env d with
      | some (c, .l (.t (.bool b))) => some (c && (b == want))
      | _ => none
    | none => none

def Op.isPv : Op → Bool
  | .move _ | .assign _ | .pick .. | .binOp .. | .unOp .. | .convert .. | .field .. | .extract .. | .fieldAddr .. | .nilCheck _ | .indexAddr .. | .load .. | .index .. | .build .. | .makeFunc .. | .slice .. => true
  | .call { callee := .builtin b, .. } => match b with
    | .len | .max | .min | .cap => true
    | _ => false
  | _ => false

def argsV (σ : St) : List Operand → Option (Prop × List V)
  | [] => some (True, [])
  | x :: xs => match evO σ x, argsV σ xs with
    | some (c, v), some (c', vs) => some (c = true ∧ c', v :: vs)
    | _, _ => none

/-- What is called, and with what. -/
def calleeOf (σ : St) : Op → Option (Prop × FuncId × List V)
  | .call { callee := .value f, args, .. } => match evO σ f, argsV σ args.toList with
    | some (c, .l (.fn f caps)), some (c', vs) => some (c = true ∧ c', f, vs ++ caps.map fun b => .l (.ptr b 0))
    | _, _ => none
  | _ => none

def dstOk (N : Nat) : Option Nat → Prop
  | some d => d < N
  | none => True

/-- The walk. -/
def Run (P : Program) (N : Nat) (ops : Array Oper) (K : St → Prop) : List Nat → St → Prop
  | [], σ => K σ
  | i :: rest, σ => match ops[i]? with
    | none => Run P N ops K rest σ
    | some o => dstOk N o.dst ∧ match guardOf σ ops o.guard with
      | none => False
      | some G => match Op.isPv o.op with
        | true => match pv P σ o.op with
          | some (c, v) => (G = true → c) ∧ Run P N ops K rest (σ.set o.dst G v)
          | none => False
        | false => match calleeOf σ o.op with
          | some (c, f, vs) => CallG P false f vs c G o.dst (fun σ' => Run P N ops K rest σ') σ
          | none => (G = false → Run P N ops K rest (σ.set o.dst false (.l .undef))) ∧ (G = true → match eff P σ σ.nxt o.op with
            | some (c, σ', some v) => c ∧ Run P N ops K rest ({ σ' with nxt := σ.nxt + 1 }.set o.dst true v)
            | some (c, σ', none) => c ∧ Run P N ops K rest ({ σ' with nxt := σ.nxt + 1 }.set o.dst false (.l .undef))
            | none => False)

section
variable {P : Program} {w0 w w' : World} {Al : Blks} {N : Nat} {g : Gh} {σ : St} {a : Act} {ops : Array Oper}

/-- What holds of a state, of the machine's. -/
def Lift (w0 : World) (Al : Blks) (N : Nat) (K : Exit → St → Prop) : Exit → Act → World → Prop := fun e a w => ∃ σ g, Rel w0 Al N σ a w g ∧ K e σ

theorem guardOf_run (R : Rel w0 Al N σ a w g) {o : Oper} {G : Bool} (h : guardOf σ ops o.guard = some G) : Region.wanted o (yielded ops a.tmps) = G := by
  unfold guardOf at h
  unfold Region.wanted
  split at h
  · rename_i hg
    simp only [Option.some.injEq] at h
    rw [hg, ← h]
  · rename_i j want hg
    rw [hg]
    split at h
    · rename_i d hd
      split at h
      · rename_i c b he
        simp only [Option.some.injEq] at h
        subst h
        simp only [yielded, hd, Option.bind_some]
        cases c with
        | true =>
          have hr := R.slots.yes d true _ he rfl
          have := rep_bool (g := g) (σ := σ) hr
          have hx : a.tmps[d]? = some (.bool b) := by
            rw [Array.getD_eq_getD_getElem?] at this
            cases hq : a.tmps[d]? with
            | none => rw [hq] at this; simp [undef] at this
            | some v => rw [hq] at this; simpa using this
          rw [hx]
          simp only [Bool.true_and]
          cases b <;> cases want <;> rfl
        | false =>
          have hr := R.slots.no d false _ he rfl
          simp only [Bool.false_and]
          rw [Array.getD_eq_getD_getElem?] at hr
          cases hq : a.tmps[d]? with
          | none => cases want <;> rfl
          | some v =>
            rw [hq] at hr
            simp only [Option.getD_some] at hr
            subst hr
            simp only [undef]
            cases want <;> rfl
      · cases h
    · cases h

theorem argsV_rep (hs : Slots w g σ a) : ∀ {xs : List Operand} {c : Prop} {vs : List V}, argsV σ xs = some (c, vs) → c → RepVs w g σ vs (xs.map a.eval)
  | [], c, vs, h, _ => by
    simp only [argsV, Option.some.injEq, Prod.mk.injEq] at h
    obtain ⟨_, rfl⟩ := h
    trivial
  | x :: xs, c, vs, h, hc => by
    simp only [argsV] at h
    split at h
    · rename_i c1 v c2 vs' hx hxs
      simp only [Option.some.injEq, Prod.mk.injEq] at h
      obtain ⟨rfl, rfl⟩ := h
      exact ⟨evO_rep hs hx hc.1, argsV_rep hs hxs hc.2⟩
    · cases h

theorem RepVs.append : ∀ {xs ys : List V} {vs us : List Value}, RepVs w g σ xs vs → RepVs w g σ ys us → RepVs w g σ (xs ++ ys) (vs ++ us)
  | [], _, [], _, _, h => h
  | _ :: _, _, _ :: _, _, h, h' => ⟨h.1, h.2.append h'⟩
  | [], _, _ :: _, _, h, _ => h.elim
  | _ :: _, _, [], _, h, _ => h.elim

theorem RepVs.length : ∀ {xs : List V} {vs : List Value}, RepVs w g σ xs vs → xs.length = vs.length
  | [], [], _ => rfl
  | _ :: _, _ :: _, h => by simp [h.2.length]
  | [], _ :: _, h => h.elim
  | _ :: _, [], h => h.elim

theorem RepVs.nth : ∀ {xs : List V} {vs : List Value}, RepVs w g σ xs vs → ∀ {j : Nat} {x : V}, xs[j]? = some x → ∃ v, vs[j]? = some v ∧ RepV w g σ x v
  | _ :: _, v :: _, h, 0, x, hx => by simp at hx; subst hx; exact ⟨v, rfl, h.1⟩
  | _ :: _, _ :: _, h, j + 1, x, hx => h.2.nth (j := j) (by simpa using hx)
  | [], [], _, _, _, hx => by simp at hx
  | [], _ :: _, h, _, _, _ => h.elim
  | _ :: _, [], h, _, _, _ => h.elim

theorem RepVs.stays {w' : World} {g' : Gh} {σ' : St} : ∀ {xs : List V} {vs : List Value}, RepVs w g σ xs vs → (∀ x ∈ xs, ∀ l ∈ x.leaves, StaysL w w' g g' σ σ' l) → RepVs w' g' σ' xs vs
  | [], [], _, _ => trivial
  | _ :: _, _ :: _, h, hs => ⟨h.1.stays (hs _ (by simp)), h.2.stays fun x hx => hs x (by simp [hx])⟩
  | [], _ :: _, h, _ => h.elim
  | _ :: _, [], h, _ => h.elim

theorem caps_rep (caps : List Nat) (h : ∀ b ∈ caps, (get σ.box b).isSome) : RepVs w g σ (caps.map fun b => .l (.ptr b 0)) (caps.map fun b => Value.pointer (some ⟨g.bx b, 0, none⟩)) := by
  induction caps with
  | nil => trivial
  | cons b r ih => exact ⟨⟨h b (by simp), rfl⟩, ih fun b hb => h b (by simp [hb])⟩

/-- A call's operation enters the function. -/
theorem callee_run (R : Rel w0 Al N σ a w g) {o : Oper} {c : Prop} {f : FuncId} {vs : List V} (h : calleeOf σ o.op = some (c, f, vs)) (hc : c) (ho : Ours P f) :
    ∃ us : List Value, RepVs w g σ vs us ∧ (execOp a.eval o).run P w = .ok (.enter f us.toArray) w := by
  obtain ⟨dst, op, type, pos, after, guard⟩ := o
  cases op with
  | call c0 =>
    obtain ⟨callee, args, ats⟩ := c0
    cases callee with
    | value fo =>
      simp only [calleeOf] at h
      split at h
      · rename_i c1 f' caps c2 vs' hf hx
        simp only [Option.some.injEq, Prod.mk.injEq] at h
        obtain ⟨rfl, rfl, rfl⟩ := h
        obtain ⟨hfr, hfv⟩ := evO_rep R.slots hf hc.1
        have hr := argsV_rep R.slots hx hc.2
        refine ⟨args.toList.map a.eval ++ caps.map fun b => Value.pointer (some ⟨g.bx b, 0, none⟩), hr.append (caps_rep caps hfr), ?_⟩
        obtain ⟨fn, h1, h2, h3⟩ := ho
        have h2' : fn.body.isNone = false := by cases hb : fn.body <;> simp_all
        simp only [execOp, resolve, hfv, Deferred.ofValue, Sem.run_bind, Sem.run_pure, Result.andThen_ok, invoke, callFunc, run_program, h1, h3, h2', Bool.false_eq_true, if_false]
        congr 2
        apply Array.ext'
        simp
      · cases h
    | _ => simp [calleeOf] at h
  | _ => simp [calleeOf] at h

end

end Go.Tw
