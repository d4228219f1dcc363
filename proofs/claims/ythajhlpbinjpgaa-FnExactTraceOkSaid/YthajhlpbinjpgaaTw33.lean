/- Regions whose order is drawn: what only reads may be taken first while all that may come before it only adds; so one order is enough. -/
import Derived.Test.YthajhlpbinjpgaaTw32
import Derived.OrdersHeld
set_option linter.unusedSimpArgs false
set_option linter.unusedVariables false
namespace Go.Tw

/-- What writes to nothing that was there. -/
def growOp (kc : Bool) : Op → Bool
  | .call { callee := .value _, .. } => kc
  | o => Op.isPv o || Op.grows o

def growAt (kc : Bool) (ops : Array Oper) (i : Nat) : Bool := ((ops[i]?).map fun o => growOp kc o.op).getD true

/-- Whatever order, and what is flagged leaves all that was there. -/
def wpAnyK (kc : Bool) (P : Program) (ops : Array Oper) (Q : Exit → Act → World → Prop) : Nat → Array Bool → Act → World → Prop
  | 0, listed, a, w => Region.ready .any ops listed = [] ∧ Q .normal a w
  | fuel + 1, listed, a, w =>
    (Region.ready .any ops listed = [] → Q .normal a w) ∧
    ∀ i ∈ Region.ready .any ops listed, wpOp P ops Q i (fun a' w' => (growAt kc ops i = true → Kept w w') ∧ wpAnyK kc P ops Q fuel (listed.setIfInBounds i true) a' w') a w

/-- What looks at slots alone. -/
def stillOp : Op → Bool
  | .move _ | .assign _ => true
  | .binOp .eql .. | .binOp .neq .. => false
  | .binOp .. => true
  | .index .. => true
  | _ => false

/-- Nothing that may come before number i writes to what was there, nor touches its slots. -/
def freeK (kc : Bool) (ops : Array Oper) (listed : Array Bool) (i : Nat) : Bool :=
  match ops[i]? with
  | none => false
  | some oi => Op.isPv oi.op && (List.range ops.size).all fun j => j == i || listed.getD j true || match ops[j]? with
      | some oj => oj.after.any (fun e => Region.binds .any e && e.on == i) || (oi.apart ops oj && (stillOp oi.op || growOp kc oj.op))
      | none => true

/-- An order that is enough. -/
def checkK (kc : Bool) (ops : Array Oper) : List Nat → Array Bool → Bool
  | [], listed => (Region.ready .any ops listed).isEmpty
  | i :: rest, listed => (Region.ready .any ops listed).contains i && (freeK kc ops listed i || Region.ready .any ops listed == [i]) && checkK kc ops rest (listed.setIfInBounds i true)

section
variable {kc : Bool} {P : Program} {w0 w w' : World} {Al : Blks} {N : Nat} {g : Gh} {σ : St} {a : Act} {ops : Array Oper} {Q : Exit → Act → World → Prop}

theorem wpAny_of_K : ∀ (fuel : Nat) (listed : Array Bool) (a : Act) (w : World), wpAnyK kc P ops Q fuel listed a w → wpAny P .any ops Q fuel listed a w
  | 0, _, _, _, h => h
  | fuel + 1, _, _, _, h => ⟨h.1, fun i hi => wpOp_mono (fun a' w' h' => wpAny_of_K fuel _ a' w' h'.2) (h.2 i hi)⟩

theorem pv_still (m : Mem w g σ) (hs : Slots w g σ a) {o : Oper} {c : Prop} {v : V} (h : pv P σ o.op = some (c, v)) (hc : c) (ho : stillOp o.op = true) : ∃ r, (∀ w1, (execOp a.eval o).run P w1 = .ok (.value r) w1) ∧ RepV w g σ v r := by
  obtain ⟨dst, op, type, pos, after, guard⟩ := o
  simp only at h ho
  cases op with
  | move x =>
    obtain ⟨r, hr, hv⟩ := pv_runs m hs (o := ⟨dst, .move x, type, pos, after, guard⟩) h hc
    refine ⟨a.eval x, fun w1 => rfl, ?_⟩
    have h0 := hr w (.refl w)
    simp [execOp] at h0
    rw [h0]
    exact hv
  | assign x =>
    obtain ⟨r, hr, hv⟩ := pv_runs m hs (o := ⟨dst, .assign x, type, pos, after, guard⟩) h hc
    refine ⟨a.eval x, fun w1 => rfl, ?_⟩
    have h0 := hr w (.refl w)
    simp [execOp] at h0
    rw [h0]
    exact hv
  | binOp op t x y yt =>
    simp only [pv] at h
    split at h
    · rename_i c1 ta c2 tb hx hy
      split at h
      · simp [stillOp] at ho
      · simp [stillOp] at ho
      · simp only [Option.map_eq_some_iff, Prod.mk.injEq] at h
        obtain ⟨⟨c0, z0⟩, hb, rfl, rfl⟩ := h
        obtain ⟨h1, h2, h3⟩ := hc
        have r1 : Rep w false (a.eval x) ta fun _ => False := evO_rep hs hx h1
        have r2 : Rep w false (a.eval y) tb fun _ => False := evO_rep hs hy h2
        obtain ⟨r, hr, hrep⟩ := binT_run (P := P) (t := t) r1 r2 hb h3
        refine ⟨r, fun w1 => ?_, hrep⟩
        have hg : (eqGuard op t x y (a.eval x) (a.eval y)).run P w1 = .ok () w1 := eqGuard_run r1 (fun e => by rw [e] at hb; simp [binT] at hb)
        simp only [execOp, Sem.run_bind, hg, Result.andThen_ok, hr, Sem.run_pure]
    · split at h
      · simp [stillOp] at ho
      · simp [stillOp] at ho
      · cases h
    · cases h
  | index t x ix =>
    simp only [pv] at h
    split at h
    · rename_i c1 s c2 k i hx hix hu
      simp only [Option.some.injEq, Prod.mk.injEq] at h
      obtain ⟨rfl, rfl⟩ := h
      obtain ⟨h1, h2, h3⟩ := hc
      have e1 := rep_str (g := g) (σ := σ) (evO_rep hs hx h1)
      have e2 : a.eval ix = .int k i := rep_int (g := g) (σ := σ) (evO_rep hs hix h2)
      refine ⟨_, fun w1 => ?_, .int⟩
      simp only [execOp, e1, e2, Instr.index, asIntOf, Sem.run_bind, Sem.run_pure, Result.andThen_ok, run_underlying (u_str hu), h3.1, if_true, str_at h3.1 h3.2]
    · cases h
  | _ => simp [stillOp] at ho

theorem wpAnyK_first {b : Bool} {i : Nat} {oi : Oper} {v : Value} (hi : ops[i]? = some oi) (hsel : ∀ (j : Nat) (o : Oper) cs b, ops[j]? = some o → o.op ≠ .select cs b)
    (hQ : ∀ c a w, Q (.panic c) (a.put oi.dst v) w → Q (.panic c) a w) :
    ∀ (fuel : Nat) (listed : Array Bool) (a : Act) (w : World),
      (∀ j oj, ops[j]? = some oj → j ≠ i → listed.getD j true = false → (∀ e ∈ oj.after, Region.binds .any e = true → e.on ≠ i) → oi.apart ops oj = true ∧ (b = true ∨ growAt kc ops j = true)) →
      i ∈ Region.ready .any ops listed → YieldsIf P ops (fun w1 => b = true ∨ Kept w w1) oi v a →
      wpAnyK kc P ops Q fuel (listed.setIfInBounds i true) (a.put oi.dst v) w → wpAnyK kc P ops Q (fuel + 1) listed a w := by
  intro fuel
  induction fuel with
  | zero =>
    intro listed a w _ hr hy H
    refine ⟨fun h => (by rw [h] at hr; cases hr), fun j hj => ?_⟩
    by_cases hji : j = i
    · subst hji; exact hy.wpOp hi (.inr (.refl w)) ⟨fun _ => .refl w, H⟩
    · have := ready_mono hj hji
      rw [H.1] at this
      cases this
  | succ fuel ih =>
    intro listed a w hfree hr hy H
    refine ⟨fun h => (by rw [h] at hr; cases hr), fun j hj => ?_⟩
    by_cases hji : j = i
    · subst hji; exact hy.wpOp hi (.inr (.refl w)) ⟨fun _ => .refl w, H⟩
    · have h1 := H.2 j (ready_mono hj hji)
      obtain ⟨hjun, oj, hoj, hall⟩ := mem_ready.1 hj
      have hnot : ∀ e ∈ oj.after, Region.binds .any e = true → e.on ≠ i := fun e he hb heq => by
        have h1 := hall e he hb
        have h0 := (mem_ready.1 hr).1
        rw [heq] at h1
        rcases Nat.lt_or_ge i listed.size with h' | h'
        · simp [h'] at h0 h1; rw [h0] at h1; cases h1
        · simp [Array.getElem?_eq_none h'] at h1
      obtain ⟨hap, hgr⟩ := hfree j oj hoj hji hjun hnot
      have h2 := wpOp_putIf hoj hap (fun cs b => hsel i oi cs b hi) (fun cs b => hsel j oj cs b hoj) hQ hy h1
      have hfree' : ∀ k ok, ops[k]? = some ok → k ≠ i → (listed.setIfInBounds j true).getD k true = false →
          (∀ e ∈ ok.after, Region.binds .any e = true → e.on ≠ i) → oi.apart ops ok = true ∧ (b = true ∨ growAt kc ops k = true) := fun k ok hk hki hun hno => by
        refine hfree k ok hk hki ?_ hno
        by_cases hjk : j = k
        · subst hjk; exact hjun
        · rw [getD_set_ne true hjk] at hun; exact hun
      refine wpOp_mono (fun a' w' h3 => ?_) h2
      obtain ⟨h3, h4, h5⟩ := h3
      have hk : ∀ w2, (b = true ∨ Kept w' w2) → b = true ∨ Kept w w2 := fun w2 h2 => by
        rcases hgr with hgr | hgr
        · exact .inl hgr
        · exact h2.imp id (h4 hgr).trans
      have hy' : YieldsIf P ops (fun w1 => b = true ∨ Kept w' w1) oi v a' := h3.imp (fun ⟨q1, q2⟩ => ⟨q1, fun w2 hw2 => q2 w2 (hk w2 hw2)⟩) id
      refine ⟨h4, ih (listed.setIfInBounds j true) a' w' hfree' (ready_mono hr (Ne.symm hji)) hy' ?_⟩
      rw [Array.setIfInBounds_comm _ _ hji]
      exact h5

theorem freeK_spec {i : Nat} {oi : Oper} {listed : Array Bool} (hi : ops[i]? = some oi) (h : freeK kc ops listed i = true) : Op.isPv oi.op = true ∧ ∀ (j : Nat) (oj : Oper),
    ops[j]? = some oj → j ≠ i → listed.getD j true = false → (∀ e ∈ oj.after, Region.binds .any e = true → e.on ≠ i) → oi.apart ops oj = true ∧ (stillOp oi.op = true ∨ growAt kc ops j = true) := by
  simp only [freeK, hi, Bool.and_eq_true, List.all_eq_true, List.mem_range] at h
  refine ⟨h.1, fun j oj hj hne hun hno => ?_⟩
  have h1 := h.2 j (Array.getElem?_eq_some_iff.1 hj).1
  simp only [hj, Bool.or_eq_true, beq_iff_eq, hne, false_or, hun, Bool.false_eq_true, Bool.and_eq_true] at h1
  rcases h1 with h1 | h1
  · obtain ⟨e, he, hb⟩ := Array.any_eq_true'.1 h1
    simp only [Bool.and_eq_true, beq_iff_eq] at hb
    exact absurd hb.2 (hno e he hb.1)
  · exact ⟨h1.1, h1.2.imp id fun h => by simp [growAt, hj, h]⟩

/-- One step, of the machine's. -/
theorem Step_wpOp {k : Bool} (hkk : kc = true → k = true) {l : List Oper} {i : Nat} {o : Oper} {next : St → Prop} (ho : l.toArray[i]? = some o) (R : Rel w0 Al N σ a w g) (h : Step P N k l o σ next) {M : Act → World → Prop}
    (hM : ∀ σ' a' w' g', Rel w0 Al N σ' a' w' g' → next σ' → (growAt kc l.toArray i = true → Kept w w') → M a' w') : wpOp P l.toArray Q i M a w := by
  unfold wpOp
  simp only [ho]
  obtain ⟨hd, h⟩ := h
  have hd' : ∀ t, o.dst = some t → t < N := by
    intro t ht
    rw [ht] at hd
    exact hd
  have hgr : growAt kc l.toArray i = growOp kc o.op := by simp only [growAt, ho, Option.map_some, Option.getD_some]
  split at h
  · exact h.elim
  · rename_i G hG
    rw [guardOf_run R hG]
    split at h
    · split at h
      · rename_i c v hp
        obtain ⟨hc, h⟩ := h
        cases G with
        | true =>
          obtain ⟨r, hr, hv⟩ := pv_run R.mem R.slots hp (hc rfl)
          simp only [if_true]
          refine .inl ?_
          simp only [Oper.wp, hr, Oper.upon]
          exact hM _ _ _ g (R.put hd' (fun _ => hv) (fun e => by cases e)) h fun _ => .refl w
        | false =>
          simp only [Bool.false_eq_true, if_false]
          exact hM _ _ _ g (R.put hd' (fun e => by cases e) (fun _ => rfl)) h fun _ => .refl w
      · exact h.elim
    · rename_i hpv
      split at h
      · rename_i c f vs hcal
        have hcg : growAt kc l.toArray i = true → kc = true := by
          intro hg
          rw [hgr] at hg
          unfold growOp at hg
          split at hg
          · exact hg
          · rename_i hne
            exfalso
            unfold calleeOf at hcal
            split at hcal
            · rename_i f0 args ats hop
              exact hne _ _ _ hop
            · cases hcal
        obtain ⟨σ1, v1, hsub, h0, h1⟩ := h
        cases G with
        | false =>
          simp only [Bool.false_eq_true, if_false]
          obtain ⟨g1, R1⟩ := hsub _ _ _ _ _ _ R
          exact hM _ _ _ g1 (R1.put hd' (fun e => by cases e) (fun _ => rfl)) (h0 rfl) fun _ => .refl w
        | true =>
          obtain ⟨hc, hours, hcall⟩ := h1 rfl
          simp only [if_true]
          refine .inl ?_
          obtain ⟨us, hus, hrun⟩ := callee_run R hcal hc hours
          simp only [Oper.wp, hrun, Oper.upon]
          refine Calls.mono (hcall w0 Al N a w g us R hus) fun e w2 he => ?_
          cases e with
          | returned r =>
            obtain ⟨σ2, g2, v, R2, hv, hK, hk⟩ := he
            exact hM _ _ _ g2 (R2.put hd' (fun _ => hv) (fun e => by cases e)) hK fun hg => hk (hkk (hcg hg))
          | panicked => exact he.elim
          | outgrown => exact he.elim
      · rename_i hcal
        obtain ⟨h0, h1⟩ := h
        cases G with
        | false =>
          simp only [Bool.false_eq_true, if_false]
          exact hM _ _ _ g (R.put hd' (fun e => by cases e) (fun _ => rfl)) (h0 rfl) fun _ => .refl w
        | true =>
          have h := h1 rfl
          simp only [if_true]
          refine .inl ?_
          have hgo : growOp kc o.op = true → Op.grows o.op = true := by
            intro hg
            unfold growOp at hg
            split at hg
            · rename_i f args ats hop
              -- a call of a function's value is entered, or nothing holds
              rw [hop] at h
              simp [eff] at h
            · rw [hpv] at hg
              simpa using hg
          split at h
          · rename_i c σ2 v he
            obtain ⟨hc, h⟩ := h
            obtain ⟨n, w2, g2, hr, hk, R2, x, rfl, hv⟩ := eff_run R he hc
            simp only [Oper.wp, hr, Oper.upon]
            exact hM _ _ _ g2 ((R2.num (σ.nxt + 1)).put hd' (fun _ => hv.same rfl rfl) (fun e => by cases e)) h fun hg => hk (hgo (hgr ▸ hg))
          · rename_i c σ2 he
            obtain ⟨hc, h⟩ := h
            obtain ⟨n, w2, g2, hr, hk, R2, rfl⟩ := eff_run R he hc
            simp only [Oper.wp, hr, Oper.upon]
            exact hM _ _ _ g2 ((R2.num (σ.nxt + 1)).put hd' (fun e => by cases e) (fun _ => rfl)) h fun hg => hk (hgo (hgr ▸ hg))
          · exact h.elim

theorem RunK_sound {l : List Oper} {K : St → Prop} (hsel : Region.noSelect l.toArray = true) (hQ : ∀ c a w, ¬ Q (.panic c) a w) (hK : ∀ σ' a' w' g', Rel w0 Al N σ' a' w' g' → K σ' → Q .normal a' w') :
    ∀ (ord : List Nat) (os : List Oper) (listed : Array Bool) (σ : St) (a : Act) (w : World) (g : Gh), checkK kc l.toArray ord listed = true → os.map some = ord.map (l.toArray[·]?) → RunL P N kc l K os σ → Rel w0 Al N σ a w g →
      wpAnyK kc P l.toArray Q ord.length listed a w
  | [], os, listed, σ, a, w, g, hc, ho, h, R => by
    cases os with
    | cons => simp at ho
    | nil =>
      simp only [checkK, List.isEmpty_iff] at hc
      exact ⟨hc, hK σ a w g R h⟩
  | i :: rest, os, listed, σ, a, w, g, hc, ho, h, R => by
    cases os with
    | nil => simp at ho
    | cons o os =>
      simp only [List.map_cons, List.cons.injEq] at ho
      obtain ⟨ho, hos⟩ := ho
      have ho := ho.symm
      simp only [checkK, Bool.and_eq_true, Bool.or_eq_true] at hc
      obtain ⟨⟨hrd, hone⟩, hrest⟩ := hc
      have hrd : i ∈ Region.ready .any l.toArray listed := by simpa using hrd
      simp only [RunL] at h
      rcases hone with hfr | hone
      · obtain ⟨hpv, hfree⟩ := freeK_spec ho hfr
        have h0 := h
        obtain ⟨hd, h⟩ := h
        have hd' : ∀ t, o.dst = some t → t < N := by
          intro t ht
          rw [ht] at hd
          exact hd
        split at h
        · exact h.elim
        · rename_i G hG
          have hw := guardOf_run R hG
          simp only [hpv] at h
          split at h
          · rename_i c v hp
            obtain ⟨hc, h⟩ := h
            cases G with
            | true =>
              obtain ⟨r, hr, hv⟩ : ∃ r, (∀ w1, (stillOp o.op = true ∨ Kept w w1) → (execOp a.eval o).run P w1 = .ok (.value r) w1) ∧ RepV w g σ v r := by
                cases hst : stillOp o.op with
                | true =>
                  obtain ⟨r, hr, hv⟩ := pv_still R.mem R.slots hp (hc rfl) hst
                  exact ⟨r, fun w1 _ => hr w1, hv⟩
                | false =>
                  obtain ⟨r, hr, hv⟩ := pv_runs R.mem R.slots hp (hc rfl)
                  exact ⟨r, fun w1 h => hr w1 (h.resolve_left (by simp)), hv⟩
              refine wpAnyK_first ho (Region.noSelect_spec hsel) (fun c a w h => (hQ c _ w h).elim) rest.length listed a w hfree hrd (v := r) (Or.inl ⟨hw, hr⟩) ?_
              exact RunK_sound hsel hQ hK rest os _ _ _ w g hrest hos h (R.put hd' (fun _ => hv) (fun e => by cases e))
            | false =>
              refine wpAnyK_first ho (Region.noSelect_spec hsel) (fun c a w h => (hQ c _ w h).elim) rest.length listed a w hfree hrd (v := undef) (Or.inr ⟨hw, rfl⟩) ?_
              exact RunK_sound hsel hQ hK rest os _ _ _ w g hrest hos h (R.put hd' (fun e => by cases e) (fun _ => rfl))
          · exact h.elim
      · have hone : Region.ready .any l.toArray listed = [i] := by simpa using hone
        refine ⟨fun h => (by rw [h] at hone; cases hone), fun j hj => ?_⟩
        rw [hone] at hj
        obtain rfl : j = i := by simpa using hj
        exact Step_wpOp (fun h => h) ho R h fun σ' a' w' g' R' hn hk => ⟨fun hg => hk hg, RunK_sound hsel hQ hK rest os _ _ _ w' g' hrest hos hn R'⟩

/-- A region whose order is drawn. -/
theorem W_draw {id : Nat} {l : List Oper} {K : Exit → St → Prop} (ord : List Nat) (os : List Oper) (hm : P.follows .mixedOrders = true) (hl : ord.length = l.length) (hsel : Region.noSelect l.toArray = true) (hc : checkK kc l.toArray ord (Array.replicate l.length false) = true)
    (ho : os.map some = ord.map (l.toArray[·]?)) (h : RunL P N kc l (K .normal) os σ) : W P N (.region id l.toArray true) K σ := by
  intro w0 Al a w g R
  let Q : Exit → Act → World → Prop := fun e a w => e = .normal ∧ Lift w0 Al N K .normal a w
  have key : (Code.region id l.toArray true).wp P Q a w := by
    refine wp_region_any hm (wpAny_of_K (kc := kc) _ _ _ _ ?_)
    have hQ1 : ∀ c a w, ¬ Q (.panic c) a w := by
      intro c a w h
      have := h.1
      cases this
    have hQ2 : ∀ σ' a' w' g', Rel w0 Al N σ' a' w' g' → K .normal σ' → Q .normal a' w' := by
      intro σ' a' w' g' R' hK
      exact ⟨rfl, σ', g', R', hK⟩
    have := RunK_sound (kc := kc) (P := P) (N := N) (Q := Q) (K := K .normal) hsel hQ1 hQ2 ord os (Array.replicate l.length false) σ a { w with drawn := w.drawn + 1 } g hc ho h R.drew
    rw [hl] at this
    simpa using this
  refine wp_mono key fun e a' w' hq => ?_
  obtain ⟨rfl, hq⟩ := hq
  exact hq

theorem map_some_filterMap {α : Type} (l : List α) : ∀ (ord : List Nat), ord.all (· < l.length) = true → (ord.filterMap (l[·]?)).map some = ord.map (l[·]?)
  | [], _ => rfl
  | i :: ord, h => by
    simp only [List.all_cons, Bool.and_eq_true, decide_eq_true_eq] at h
    have e : l[i]? = some l[i] := List.getElem?_eq_getElem h.1
    simp only [List.filterMap_cons, List.map_cons, e]
    rw [map_some_filterMap l ord h.2]

/-- In an order that is given. -/
theorem W_drawO (kc : Bool) {id : Nat} {l : List Oper} {K : Exit → St → Prop} (ord : List Nat) (hm : P.follows .mixedOrders = true)
    (hc : (ord.length == l.length && Region.noSelect l.toArray && ord.all (· < l.length) && checkK kc l.toArray ord (Array.replicate l.length false)) = true) (h : RunL P N kc l (K .normal) (ord.filterMap (l[·]?)) σ) : W P N (.region id l.toArray true) K σ := by
  simp only [Bool.and_eq_true, beq_iff_eq] at hc
  obtain ⟨⟨⟨h1, h2⟩, h3⟩, h4⟩ := hc
  exact W_draw ord _ hm h1 h2 h4 (by simpa using map_some_filterMap l ord h3) h

/-- In the text's order. -/
theorem W_drawT (kc : Bool) {id : Nat} {l : List Oper} {K : Exit → St → Prop} (hm : P.follows .mixedOrders = true)
    (hc : (Region.noSelect l.toArray && checkK kc l.toArray (List.range l.length) (Array.replicate l.length false)) = true) (h : RunL P N kc l (K .normal) l σ) : W P N (.region id l.toArray true) K σ := by
  simp only [Bool.and_eq_true] at hc
  refine W_draw (List.range l.length) l hm (by simp) hc.1 hc.2 ?_ h
  apply List.ext_getElem?
  intro i
  simp only [List.getElem?_map, List.getElem?_toArray]
  by_cases hi : i < l.length
  · simp [List.getElem?_range hi, List.getElem?_eq_getElem hi]
  · simp [List.getElem?_eq_none (Nat.le_of_not_lt hi), hi]

end

end Go.Tw
