/- Code against states: the rules. -/
import Derived.Test.YthajhlpbinjpgaaTw25
set_option linter.unusedSimpArgs false
set_option linter.unusedVariables false
namespace Go.Tw

/-- From a state that holds, the code ends where K holds. -/
def W (P : Program) (N : Nat) (c : Code) (K : Exit → St → Prop) (σ : St) : Prop :=
  ∀ w0 Al a w g, Rel w0 Al N σ a w g → c.wp P (Lift w0 Al N K) a w

section
variable {P : Program} {w0 w w' : World} {Al : Blks} {N : Nat} {g : Gh} {σ σ' : St} {a : Act} {ops : Array Oper} {K K' : Exit → St → Prop}

theorem Run_sound {K : St → Prop} {Q : Exit → Act → World → Prop} : ∀ (l : List Nat) (σ : St) (a : Act) (w : World) (g : Gh), Run P N ops K l σ → Rel w0 Al N σ a w g → (∀ σ' a' w' g', Rel w0 Al N σ' a' w' g' → K σ' → Q .normal a' w') → wpOps P ops Q l a w
  | [], σ, a, w, g, h, R, hQ => hQ σ a w g R h
  | i :: rest, σ, a, w, g, h, R, hQ => by
    simp only [Run] at h
    simp only [wpOps]
    cases ho : ops[i]? with
    | none =>
      simp only [ho] at h
      exact Run_sound rest σ a w g h R hQ
    | some o =>
      simp only [ho] at h ⊢
      obtain ⟨hd, h⟩ := h
      have hd' : ∀ t, o.dst = some t → t < N := by
        intro t ht
        rw [ht] at hd
        exact hd
      split at h
      · exact h.elim
      · rename_i G hG
        rw [guardOf_run R hG]
        split at h
        · split at h
          · rename_i c v hp
            obtain ⟨hc, h⟩ := h
            cases G with
            | true =>
              obtain ⟨r, hr, hv⟩ := pv_run R.mem R.slots hp (hc rfl)
              simp only [if_true]
              refine .inl ?_
              simp only [Oper.wp, hr, Oper.upon]
              exact Run_sound rest _ _ _ g h (R.put hd' (fun _ => hv) (fun e => by cases e)) hQ
            | false =>
              simp only [Bool.false_eq_true, if_false]
              exact Run_sound rest _ _ _ g h (R.put hd' (fun e => by cases e) (fun _ => rfl)) hQ
          · exact h.elim
        · split at h
          · rename_i c f vs hcal
            obtain ⟨σ1, v1, hsub, h0, h1⟩ := h
            cases G with
            | false =>
              simp only [Bool.false_eq_true, if_false]
              obtain ⟨g1, R1⟩ := hsub _ _ _ _ _ _ R
              exact Run_sound rest _ _ _ g1 (h0 rfl) (R1.put hd' (fun e => by cases e) (fun _ => rfl)) hQ
            | true =>
              simp only [if_true]
              refine .inl ?_
              obtain ⟨hc, hours, hcall⟩ := h1 rfl
              obtain ⟨us, hus, hrun⟩ := callee_run R hcal hc hours
              simp only [Oper.wp, hrun, Oper.upon]
              refine Calls.mono (hcall w0 Al N a w g us R hus) fun e w2 he => ?_
              cases e with
              | returned r =>
                obtain ⟨σ2, g2, v, R2, hv, hK, _⟩ := he
                exact Run_sound rest _ _ _ g2 hK (R2.put hd' (fun _ => hv) (fun e => by cases e)) hQ
              | panicked => exact he.elim
              | outgrown => exact he.elim
          · obtain ⟨h0, h1⟩ := h
            cases G with
            | false =>
              simp only [Bool.false_eq_true, if_false]
              exact Run_sound rest _ _ _ g (h0 rfl) (R.put hd' (fun e => by cases e) (fun _ => rfl)) hQ
            | true =>
              have h := h1 rfl
              simp only [if_true]
              refine .inl ?_
              split at h
              · rename_i c σ2 v he
                obtain ⟨hc, h⟩ := h
                obtain ⟨n, w2, g2, hr, _, R2, x, rfl, hv⟩ := eff_run R he hc
                simp only [Oper.wp, hr, Oper.upon]
                exact Run_sound rest _ _ _ g2 h ((R2.num (σ.nxt + 1)).put hd' (fun _ => hv.same rfl rfl) (fun e => by cases e)) hQ
              · rename_i c σ2 he
                obtain ⟨hc, h⟩ := h
                obtain ⟨n, w2, g2, hr, _, R2, rfl⟩ := eff_run R he hc
                simp only [Oper.wp, hr, Oper.upon]
                exact Run_sound rest _ _ _ g2 h ((R2.num (σ.nxt + 1)).put hd' (fun e => by cases e) (fun _ => rfl)) hQ
              · exact h.elim

theorem W_region {id : Nat} (h : Run P N ops (K .normal) (List.range ops.size) σ) : W P N (.region id ops false) K σ :=
  fun _ _ _ _ _ R => wp_region (Run_sound _ _ _ _ _ h R fun σ' _ _ g' R' hK => ⟨σ', g', R', hK⟩)

theorem W_skip (h : K .normal σ) : W P N .skip K σ := fun _ _ _ _ g R => wp_skip ⟨σ, g, R, h⟩
theorem W_exit {id : Nat} (h : K (.exit id) σ) : W P N (.exit id) K σ := fun _ _ _ _ g R => wp_exit ⟨σ, g, R, h⟩
theorem W_ret (h : K .ret σ) : W P N .ret K σ := fun _ _ _ _ g R => wp_ret ⟨σ, g, R, h⟩

/-- What follows, behind a normal end. -/
def Then (next : St → Prop) (K : Exit → St → Prop) : Exit → St → Prop
  | .normal, σ => next σ
  | e, σ => K e σ

theorem W_mono {c : Code} (h : W P N c K σ) (hk : ∀ e σ, K e σ → K' e σ) : W P N c K' σ :=
  fun w0 Al a w g R => wp_mono (h w0 Al a w g R) fun _ _ _ ⟨σ', g', R', q⟩ => ⟨σ', g', R', hk _ _ q⟩

theorem W_seq {x y : Code} (h : W P N x (Then (W P N y K) K) σ) : W P N (.seq x y) K σ :=
  fun w0 Al a w g R => wp_seq (wp_mono (h w0 Al a w g R) fun e a' w' ⟨σ', g', R', q⟩ => by
    cases e with
    | normal => exact q w0 Al a' w' g' R'
    | _ => exact ⟨σ', g', R', q⟩)

/-- The same, what follows under a name. -/
theorem W_seqK {x y : Code} (h : ∀ K' : St → Prop, (∀ σ', W P N y K σ' → K' σ') → W P N x (Then K' K) σ) : W P N (.seq x y) K σ := W_seq (h _ fun _ h => h)

theorem W_cond {c : Operand} {x y : Code} {b : Bool} (hc : evO σ c = some (true, .l (.t (.bool b)))) (ht : b = true → W P N x K σ) (hf : b = false → W P N y K σ) : W P N (.cond c x y) K σ :=
  fun w0 Al a w g R => wp_cond_split (t := b) (rep_bool (g := g) (σ := σ) (evO_rep R.slots hc rfl)) (fun h => ht h w0 Al a w g R) fun h => hf h w0 Al a w g R

def InBlock (id : Nat) (K : Exit → St → Prop) : Exit → St → Prop
  | .exit id', σ => if id' = id then K .normal σ else K (.exit id') σ
  | e, σ => K e σ

theorem W_block {id : Nat} {c : Code} (h : W P N c (InBlock id K) σ) : W P N (.block id c) K σ :=
  fun w0 Al a w g R => wp_block (wp_mono (h w0 Al a w g R) fun e a' w' ⟨σ', g', R', q⟩ => by
    cases e with
    | exit id' =>
      simp only [InBlock] at q
      simp only [Exit.inBlock]
      split at q
      · rename_i e; rw [if_pos e]; exact ⟨σ', g', R', q⟩
      · rename_i e; rw [if_neg e]; exact ⟨σ', g', R', q⟩
    | _ => exact ⟨σ', g', R', q⟩)

/-- A loop: J of how much is left. -/
theorem W_loop {c : Code} (J : Nat → St → Prop) (n : Nat) (h0 : J n σ) (round : ∀ n σ, J n σ → W P N c (Then (fun σ' => ∃ m, m < n ∧ J m σ') K) σ) : W P N (.loop c) K σ := by
  intro w0 Al a w g R
  -- the machine's states at the loop's head, with how much is left
  have key : ∀ n, ∀ σ a w g, Rel w0 Al N σ a w g → J n σ → ∀ (b : Frame) (k : List Item) (cs : List Frame),
      ∃ e a' w', Lift w0 Al N K e a' w' ∧ Arrives P (lone (b.at a (.code c :: .inLoop c :: k)) cs w) b k cs e a' w' := by
    intro n
    induction n using Nat.strongRecOn with
    | _ n ih =>
      intro σ a w g R hJ b k cs
      obtain ⟨e, a1, w1, ⟨σ1, g1, R1, q⟩, harr⟩ := round n σ hJ w0 Al a w g R b (.inLoop c :: k) cs
      cases e with
      | normal =>
        obtain ⟨m, hm, hJ1⟩ := q
        obtain ⟨e2, a2, w2, hq2, harr2⟩ := ih m hm σ1 a1 w1 g1 R1 hJ1 b k cs
        exact ⟨e2, a2, w2, hq2, .of_steps (Steps.trans harr (.one step_inLoop)) harr2⟩
      | exit id => exact ⟨_, a1, w1, ⟨σ1, g1, R1, q⟩, .pass (x := .inLoop c) rfl (fun _ _ => .inl (by simp)) harr⟩
      | goto l => exact ⟨_, a1, w1, ⟨σ1, g1, R1, q⟩, .pass (x := .inLoop c) rfl (fun _ _ => .inl (by simp)) harr⟩
      | ret => exact ⟨_, a1, w1, ⟨σ1, g1, R1, q⟩, .pass (x := .inLoop c) rfl (fun _ _ => .inl (by simp)) harr⟩
      | panic ch => exact ⟨_, a1, w1, ⟨σ1, g1, R1, q⟩, .pass (x := .inLoop c) rfl (fun _ _ => .inl (by simp)) harr⟩
      | outgrown => exact ⟨_, a1, w1, ⟨σ1, g1, R1, q⟩, .pass (x := .inLoop c) rfl (fun _ _ => .inl (by simp)) harr⟩
  intro b k cs
  obtain ⟨e, a', w', hq, harr⟩ := key n σ a w g R h0 b k cs
  exact ⟨e, a', w', hq, .of_steps (.one step_loop) harr⟩

theorem W_sub {c : Code} (hs : Sub σ σ') (h : W P N c K σ') : W P N c K σ := fun w0 Al a w g R => by
  obtain ⟨g', R'⟩ := hs w0 Al N a w g R
  exact h w0 Al a w g' R'

theorem Sub.refl (σ : St) : Sub σ σ := fun _ _ _ _ _ g R => ⟨g, R⟩
theorem Sub.trans {σ1 σ2 σ3 : St} (h : Sub σ1 σ2) (h' : Sub σ2 σ3) : Sub σ1 σ3 := fun w0 Al N a w g R => by
  obtain ⟨g', R'⟩ := h w0 Al N a w g R
  exact h' w0 Al N a w g' R'

end

end Go.Tw
