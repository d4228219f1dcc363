/- The machine answers as pv says. -/
import Derived.Test.YthajhlpbinjpgaaTw6
set_option linter.unusedSimpArgs false
set_option linter.unusedVariables false
namespace Go.Tw

section
variable {P : Program} {w : World} {g : Gh} {σ : St} {a : Act}

theorem ptrAdd_run {n : Nat} {v u : V} {x : Value} (h : ptrAdd n v = some u) (hx : RepV w g σ v x) : ∃ ad, x = .pointer (some ad) ∧ RepV w g σ u (.pointer (some (ad.add n))) := by
  unfold ptrAdd at h
  split at h
  · simp only [Option.some.injEq] at h
    subst h
    obtain ⟨h1, rfl⟩ := hx
    exact ⟨_, rfl, h1, by rw [Addr.add_plain rfl]⟩
  · simp only [Option.some.injEq] at h
    subst h
    obtain ⟨row, z, es, ad, m, cap, h1, h2, h3, h4, h5, rfl⟩ := hx
    exact ⟨_, rfl, row, z, es, ad, m, cap, h1, h2, h3, h4, h5, by rw [Addr.add_plain rfl]; simp [Nat.add_assoc]⟩
  · cases h

theorem caps_run (hs : Slots w g σ a) : ∀ (xs : List Operand) (c : Prop) (bs : List Nat), capsV σ xs = some (c, bs) → c →
    (∀ b ∈ bs, (get σ.box b).isSome) ∧ xs.map a.eval = bs.map fun b => Value.pointer (some ⟨g.bx b, 0, none⟩)
  | [], c, bs, h, hc => by
    simp only [capsV, Option.some.injEq, Prod.mk.injEq] at h
    obtain ⟨_, rfl⟩ := h
    exact ⟨by simp, rfl⟩
  | x :: xs, c, bs, h, hc => by
    simp only [capsV] at h
    split at h
    · rename_i c1 b hx
      simp only [Option.map_eq_some_iff, Prod.mk.injEq] at h
      obtain ⟨q, hq, rfl, rfl⟩ := h
      obtain ⟨h1, h2⟩ := caps_run hs xs q.1 q.2 hq hc.2
      obtain ⟨h3, h4⟩ := evO_rep hs hx hc.1
      exact ⟨fun b hb => (List.mem_cons.1 hb).elim (fun e => by rw [e]; exact h3) (h1 b), by simp [h4, h2]⟩
    · cases h

/-- A view of a view. -/
theorem View.sub {u v : Value} {z off len : Nat} (h : View u z off len v) {l k : Nat} (hl : off + l ≤ (match u with | .slice _ _ c => c | _ => 0)) :
    ∃ oa cap, v = .slice oa len (cap) ∧ View u z (off + l) k (.slice (if cap = l then oa else oa.map fun x => x.add (l * z)) k (cap - l)) ∧ l ≤ cap := by
  obtain ⟨oa, n, cap, oa', rfl, rfl, h3⟩ := h
  simp only at hl
  refine ⟨oa', cap - off, rfl, ⟨oa, n, cap, (if cap - off = l then oa' else oa'.map fun x => x.add (l * z)), rfl, by rw [Nat.sub_sub], ?_⟩, by omega⟩
  by_cases e : cap = off + l
  · exact Or.inl e
  · right
    rw [if_neg (by omega)]
    rcases h3 with h3 | h3
    · omega
    · rw [h3]
      cases oa with
      | none => rfl
      | some x =>
        simp only [Option.map_some, Option.some.injEq]
        unfold Addr.add
        by_cases h1 : off * z = 0
        · by_cases h2 : l * z = 0
          · have : (off + l) * z = 0 := by rw [Nat.add_mul]; omega
            simp [h1, h2, this]
          · have : (off + l) * z = l * z := by rw [Nat.add_mul]; omega
            simp [h1, this]
        · by_cases h2 : l * z = 0
          · have : (off + l) * z = off * z := by rw [Nat.add_mul]; omega
            simp [h2, this]
          · have : ¬ (off + l) * z = 0 := by rw [Nat.add_mul]; omega
            simp only [h1, h2, this, if_false, Addr.mk.injEq, and_true, true_and]
            rw [Nat.add_mul]
            omega

theorem bound_ok {x : Option Operand} {d n : Int} {c : Prop} (hs : Slots w g σ a) (h : boundV σ x d = some (c, n)) (hc : c) {y : Nat} {code : BoundsCode} {w1 : World} (h0 : 0 ≤ n) (hy : n ≤ y) :
    ∀ v, x.map a.eval = some v → (Instr.sliceBound v y code).run P w1 = .ok n.toNat w1 := by
  intro v hv
  rcases boundV_run hs h hc with ⟨rfl, _⟩ | ⟨o, k, rfl, e⟩
  · cases hv
  · simp only [Option.map_some, Option.some.injEq] at hv
    subst hv
    simp [Instr.sliceBound, e, asIntOf, h0, hy]

theorem bounds_run {lo hi : Option Operand} {l h : Int} {c1 c2 : Prop} {dh : Int} (hs : Slots w g σ a) (hl : boundV σ lo 0 = some (c1, l)) (hh : boundV σ hi dh = some (c2, h)) (h1 : c1) (h2 : c2)
    {isS : Bool} {len cap : Nat} {w1 : World} (hd : dh = len) (h0 : 0 ≤ l) (hlh : l ≤ h) (hcap : h ≤ cap) : (Instr.sliceBounds isS len cap (lo.map a.eval) (hi.map a.eval) none).run P w1 = .ok (l.toNat, h.toNat, cap) w1 := by
  have eh : (match hi.map a.eval with | some v => Instr.sliceBound v cap (if isS then BoundsCode.sliceAcap else .sliceAlen) | none => pure len : Sem Nat).run P w1 = .ok h.toNat w1 := by
    cases hx : hi.map a.eval with
    | none =>
      rcases boundV_run hs hh h2 with ⟨rfl, e⟩ | ⟨o, k, rfl, e⟩
      · subst e; subst hd; simp
      · simp at hx
    | some v => exact bound_ok hs hh h2 (by omega) hcap v hx
  have el : (match lo.map a.eval with | some v => Instr.sliceBound v h.toNat BoundsCode.sliceB | none => pure 0 : Sem Nat).run P w1 = .ok l.toNat w1 := by
    cases hx : lo.map a.eval with
    | none =>
      rcases boundV_run hs hl h1 with ⟨rfl, e⟩ | ⟨o, k, rfl, e⟩
      · subst e; simp
      · simp at hx
    | some v => exact bound_ok hs hl h1 h0 (by omega) v hx
  cases hx : hi.map a.eval <;> cases hy : lo.map a.eval <;> simp only [hx, hy] at eh el <;> simp [Instr.sliceBounds, eh, el]
  all_goals first
    | (simp at eh; simp [eh] at el ⊢; first | exact el | simp_all)
    | simp_all

end

end Go.Tw
