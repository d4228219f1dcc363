/- append, of a state. -/
import Derived.Test.YthajhlpbinjpgaaTw15
set_option linter.unusedSimpArgs false
set_option linter.unusedVariables false
namespace Go.Tw

/-- What is appended to: the rows that are taken out for it, whose own it is, the elements that are there. -/
def appT (σ : St) (z : Nat) : V → Option (Prop × List Nat × Pm × Els)
  | .l .nil => some (True, [], .own, [])
  | .l (.ref r [] z' off len) => match get σ.row r with
    | some row => match row.pm with
      | .own => some (z' = z ∧ off + len = row.es.length, [r], .own, row.es.drop off)
      | .top => some (z' = z ∧ off = 0 ∧ len = row.es.length, [r], .top, row.es)
      | .ro => none
    | none => none
  | _ => none

/-- What is appended: where it lies, and the elements. -/
def appS (σ : St) (z : Nat) : V → Option (Prop × Option (Nat × Path) × Els)
  | .l .nil => some (True, none, [])
  | .l (.ref r p z' off len) => match nodeOf σ r p with
    | some (_, es) => some (z' = z, some (r, p), (es.drop off).take len)
    | none => none
  | _ => none

def T.flat : T → Bool
  | .sl .. => false
  | _ => true

def Flat (es : Els) : Prop := ∀ x ∈ es, ∀ c ∈ x, c.flat = true

theorem Rep.flat {w : World} {o o' : Bool} {v : Value} {c : T} {F G : Blks} (h : Rep w o v c F) (hf : c.flat = true) : Rep w o' v c G := by
  cases h with
  | int => exact .int
  | bool => exact .bool
  | str => exact .str
  | hole h => exact .hole h
  | nils => cases hf
  | bare => cases hf
  | sl => cases hf

section
variable {w : World} {g : Gh} {σ : St}

/-- What is known of what is appended to. -/
structure TgtOk (w : World) (g : Gh) (σ : St) (z : Nat) (rs : List Nat) (pm : Pm) (es : Els) (oa : Option Addr) (n cap : Nat) (olds : List Value) : Prop where
  len : n = es.length
  cap_ : n ≤ cap
  holds : Holds w z oa n cap olds
  blk : ∀ a, oa = some a → cap ≠ 0 → RowsFp g σ rs a.block
  live : ∀ r ∈ rs, (get σ.row r).isSome
  own : pm = .own → ∃ f, CellsRep w true z es olds f ∧ (∀ i j b, f i j b → RowsFp g σ rs b) ∧ (∀ i j i' j' b, f i j b → f i' j' b → i = i' ∧ j = j') ∧ ∀ a, oa = some a → cap ≠ 0 → ∀ i j, ¬ f i j a.block
  top : pm = .top → CellsRep w false z es olds fun _ _ b => ¬ Owned g σ b

theorem appT_ok (m : Mem w g σ) {z : Nat} {x : V} {v : Value} {c : Prop} {rs : List Nat} {pm : Pm} {es : Els} (h : appT σ z x = some (c, rs, pm, es)) (hc : c) (hv : RepV w g σ x v) :
    pm ≠ .ro ∧ ∃ oa n cap olds, v = .slice oa n cap ∧ TgtOk w g σ z rs pm es oa n cap olds := by
  unfold appT at h
  split at h
  · simp only [Option.some.injEq, Prod.mk.injEq] at h
    obtain ⟨rfl, rfl, rfl, rfl⟩ := h
    obtain ⟨oa, rfl⟩ := hv
    refine ⟨by simp, oa, 0, 0, [], rfl, rfl, Nat.le_refl _, Or.inl ⟨rfl, rfl, rfl⟩, fun _ _ h => absurd rfl h, by simp, fun _ => ⟨fun _ _ _ => False, ⟨by simp, by simp, by simp⟩, fun _ _ _ h => h.elim, fun _ _ _ _ _ h => h.elim, fun _ _ _ _ _ h => h⟩, fun h => by cases h⟩
  · rename_i r z' off len
    split at h
    · rename_i row hrow
      obtain ⟨row', es', u, h1, h2, h3, h4, h5⟩ := hv
      rw [hrow] at h1
      cases h1
      simp only [T.at?, Option.some.injEq, T.sl.injEq, valAt] at h2 h3
      obtain ⟨hz, rfl⟩ := h2
      subst h3
      split at h
      · rename_i hpm
        simp only [Option.some.injEq, Prod.mk.injEq] at h
        obtain ⟨rfl, rfl, rfl, rfl⟩ := h
        obtain ⟨rfl, hl⟩ := hc
        have hrep := m.own r row hrow hpm
        rw [Row.t, hz] at hrep
        have hvw := hrep.view h5 h4
        have e : (row.es.drop off).take len = row.es.drop off := List.take_of_length_le (by simp; omega)
        rw [e] at hvw
        obtain ⟨oa, n, cap, oa', _, rfl, _⟩ := h5
        obtain ⟨g1, g2, vals, f, g3, g4, g5, g6, g7, g8⟩ := hvw.open
        have fps : ∀ b, g.fp r b → RowsFp g σ [r] b := fun b hb => ⟨r, row, by simp, hrow, by simp [hpm], hb⟩
        exact ⟨by simp, oa', len, cap - off, vals, rfl, g1, g2, g7 rfl, fun a ha hc => fps _ (g6 rfl a ha hc).1, by simp [hrow], fun _ => ⟨f, g3, fun i j b hb => fps b (g4 i j b hb), g5 rfl, fun a ha hc => (g6 rfl a ha hc).2⟩, fun h => by cases h⟩
      · rename_i hpm
        simp only [Option.some.injEq, Prod.mk.injEq] at h
        obtain ⟨rfl, rfl, rfl, rfl⟩ := h
        obtain ⟨rfl, rfl, rfl⟩ := hc
        have hrep := m.top r row hrow hpm
        rw [hz] at hrep
        obtain ⟨oa, n, cap, oa', hu, rfl, hoa⟩ := h5
        rw [hu] at hrep
        obtain ⟨g1, g2, vals, g3, g4, g5, g6⟩ := hrep.open
        have fps : ∀ b, g.fp r b → RowsFp g σ [r] b := fun b hb => ⟨r, row, by simp, hrow, by simp [hpm], hb⟩
        by_cases hcap : cap = 0
        · subst hcap
          have hn0 : row.es.length = 0 := by omega
          refine ⟨by simp, oa', row.es.length, 0 - 0, vals, rfl, rfl, by omega, Or.inl ⟨rfl, hn0, ?_⟩, fun _ _ h => absurd rfl h, by simp [hrow], fun h => (by cases h), fun _ => g3⟩
          exact List.eq_nil_of_length_eq_zero (by rw [g3.len, hn0]; simp)
        · have hoa' : oa' = oa := by
            rcases hoa with h | h
            · exact absurd h hcap
            · rw [h]; cases oa <;> simp [Addr.add]
          subst hoa'
          rw [g1] at g2 g5
          exact ⟨by simp, oa', row.es.length, cap - 0, vals, rfl, rfl, g2, g5, fun a ha hc => fps _ (g4 a ha hc), by simp [hrow], fun h => (by cases h), fun _ => g3⟩
      · cases h
    · cases h
  · cases h

/-- What is known of what is appended. -/
structure SrcOk (w : World) (z : Nat) (els : Els) (ob : Option Addr) (m : Nat) (news : List Value) : Prop where
  len : m = els.length
  cells : CellsRep w false z els news fun _ _ _ => True
  there : m = 0 ∨ ∃ b, ob = some b ∧ ∀ j v, news[j]? = some v → w.cell? (b.add j) = some v
  one : ∀ v ∈ news, v.oneCell' = true

theorem CellsRep.one {o : Bool} {z : Nat} {es : Els} {vals : List Value} {f : Nat → Nat → Blks} (h : CellsRep w o z es vals f) : ∀ v ∈ vals, v.oneCell' = true := by
  intro v hv
  obtain ⟨k, hk⟩ := List.getElem?_of_mem hv
  have hlt : k < es.length * z := by rw [← h.len]; exact (List.getElem?_eq_some_iff.1 hk).1
  have hz : 0 < z := by
    rcases Nat.eq_zero_or_pos z with rfl | h
    · simp at hlt
    · exact h
  have hi : k / z < es.length := Nat.div_lt_of_lt_mul (by rwa [Nat.mul_comm])
  obtain ⟨x, hx⟩ : ∃ x, es[k / z]? = some x := ⟨_, List.getElem?_eq_getElem hi⟩
  have hj : k % z < x.length := by rw [h.each x (List.mem_of_getElem? hx)]; exact Nat.mod_lt _ hz
  obtain ⟨c, hc⟩ : ∃ c, x[k % z]? = some c := ⟨_, List.getElem?_eq_getElem hj⟩
  obtain ⟨u, hu, hr⟩ := h.rep _ _ x c hx hc
  have : k / z * z + k % z = k := by rw [Nat.mul_comm]; exact Nat.div_add_mod k z
  rw [this, hk] at hu
  cases hu
  exact hr.one

theorem appS_ok (m : Mem w g σ) {z : Nat} {x : V} {v : Value} {c : Prop} {who : Option (Nat × Path)} {els : Els} (h : appS σ z x = some (c, who, els)) (hc : c) (hv : RepV w g σ x v) :
    ∃ ob k cap news, v = .slice ob k cap ∧ SrcOk w z els ob k news ∧
      ∀ r row, who = some (r, []) → get σ.row r = some row → row.pm = .own → ∃ f, CellsRep w true z els news f ∧ (∀ i j b, f i j b → RowsFp g σ [r] b) ∧ (∀ i j i' j' b, f i j b → f i' j' b → i = i' ∧ j = j') := by
  unfold appS at h
  split at h
  · simp only [Option.some.injEq, Prod.mk.injEq] at h
    obtain ⟨rfl, rfl, rfl⟩ := h
    obtain ⟨oa, rfl⟩ := hv
    exact ⟨oa, 0, 0, [], rfl, ⟨rfl, ⟨by simp, by simp, by simp⟩, Or.inl rfl, by simp⟩, fun r row h => by cases h⟩
  · rename_i r p z' off len
    split at h
    · rename_i zz es hn
      simp only [Option.some.injEq, Prod.mk.injEq] at h
      obtain ⟨rfl, rfl, rfl⟩ := h
      subst hc
      obtain ⟨row', es', u, h1, h2, h3, h4, h5⟩ := hv
      have hn' : nodeOf σ r p = some (z', es') := by simp [nodeOf, h1, h2]
      rw [hn] at hn'
      simp only [Option.some.injEq, Prod.mk.injEq] at hn'
      obtain ⟨rfl, rfl⟩ := hn'
      obtain ⟨u', hu', hru⟩ := m.at h1 h2
      rw [h3] at hu'
      cases hu'
      have hvw := hru.view h5 h4
      obtain ⟨oa, n, cap, oa', hu, rfl, hoa⟩ := id h5
      obtain ⟨g1, g2, vals, f, g3, g4, g5, g6, g7, g8⟩ := hvw.open
      refine ⟨oa', len, cap - off, vals, rfl, ⟨g1, g3.mono fun _ _ _ _ h => h.mono fun _ _ => trivial, g8, g3.one⟩, fun r2 row2 hw hrow hpm => ?_⟩
      simp only [Option.some.injEq, Prod.mk.injEq] at hw
      obtain ⟨rfl, rfl⟩ := hw
      rw [h1] at hrow
      cases hrow
      simp only [T.at?, Option.some.injEq, T.sl.injEq, valAt] at h2 h3
      obtain ⟨hz, rfl⟩ := h2
      subst h3
      have hrep := m.own r row' h1 hpm
      rw [Row.t, hz] at hrep
      have hvw2 := hrep.view h5 h4
      obtain ⟨q1, q2, vals2, f2, q3, q4, q5, q6, q7, q8⟩ := hvw2.open
      -- the same cells
      have hsame : vals2 = vals := by
        rcases g8 with h0 | ⟨a, ha, hcell⟩
        · rw [List.eq_nil_of_length_eq_zero (l := vals) (by rw [g3.len, ← g1, h0]; simp), List.eq_nil_of_length_eq_zero (l := vals2) (by rw [q3.len, ← q1, h0]; simp)]
        · rcases q8 with h0 | ⟨a2, ha2, hcell2⟩
          · rw [List.eq_nil_of_length_eq_zero (l := vals) (by rw [g3.len, ← g1, h0]; simp), List.eq_nil_of_length_eq_zero (l := vals2) (by rw [q3.len, ← q1, h0]; simp)]
          · rw [ha] at ha2
            cases ha2
            apply List.ext_getElem?
            intro j
            by_cases hj : j < vals.length
            · have hj2 : j < vals2.length := by rw [q3.len, ← g3.len]; exact hj
              have e1 := hcell j _ (List.getElem?_eq_getElem hj)
              have e2 := hcell2 j _ (List.getElem?_eq_getElem hj2)
              rw [e1] at e2
              rw [List.getElem?_eq_getElem hj, List.getElem?_eq_getElem hj2, e2]
            · have heq : vals2.length = vals.length := by rw [q3.len, g3.len]
              rw [List.getElem?_eq_none (by omega), List.getElem?_eq_none (by omega)]
      rw [hsame] at q3
      exact ⟨f2, q3, fun i j b hb => ⟨r, row', by simp, h1, by simp [hpm], q4 i j b hb⟩, q5 rfl⟩
    · cases h
  · cases h

end

end Go.Tw
