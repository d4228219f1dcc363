/- What is handed into a row: trees of leaves; whole rows that are taken out for it, or rows that are only read from then on. -/
import Derived.Test.YthajhlpbinjpgaaTw10
set_option linter.unusedSimpArgs false
set_option linter.unusedVariables false
namespace Go.Tw

theorem Rep.view {w : World} {o : Bool} {u v : Value} {z off len : Nat} {es : Els} {F : Blks} (h : Rep w o u (.sl z es) F) (hv : View u z off len v) (hl : off + len ≤ es.length) :
    Rep w o v (.sl z ((es.drop off).take len)) F := by
  obtain ⟨oa, n, cap, oa', rfl, rfl, hoa⟩ := hv
  have hcap := h.cap_ge.1
  by_cases e : cap = off
  · subst e
    have hlen : len = 0 := by omega
    subst hlen
    simp only [Nat.sub_self, List.take_zero]
    cases oa' with
    | none => exact .nils
    | some a => exact .bare
  · have hoa := hoa.resolve_left e
    cases h with
    | nils => simp at hcap; simp at hl; exact absurd hl.1.symm e
    | bare => simp at hl; exact absurd hl.1.symm e
    | @sl a _ _ _ _ cs f hlies hF hsub hd hdd hr =>
      subst hoa
      have hlen : ((es.drop off).take len).length = len := by simp; omega
      have hadd : a.add (off * z) = ⟨a.block, a.off + off * z, none⟩ := Addr.add_plain hlies.spot _
      rw [Option.map_some]
      have hres : Rep w o (.slice (some (a.add (off * z))) ((es.drop off).take len).length (cap - off)) (.sl z ((es.drop off).take len)) F := by
        rw [hadd]
        refine .sl (fun i j => f (i + off) j) (cs := cs) ⟨hlies.blk, rfl, by rw [hlen]; omega, ?_, fun x hx => hlies.each x (List.mem_of_mem_drop (List.mem_of_mem_take hx))⟩ hF (fun i j b h => hsub _ _ b h) (fun ho i j => hd ho _ _)
          (fun ho i j i' j' b h1 h2 => by have := hdd ho _ _ _ _ b h1 h2; omega) ?_
        · have := hlies.room
          have e2 : cap * z = off * z + (cap - off) * z := by rw [← Nat.add_mul]; congr 1; omega
          simp only
          omega
        · intro i j x c hx hc
          rw [List.getElem?_take] at hx
          split at hx
          · rw [List.getElem?_drop] at hx
            have := hr (off + i) j x c hx hc
            rw [Nat.add_comm i off]
            simpa [Nat.add_mul, Nat.add_assoc] using this
          · cases hx
      rw [hlen] at hres
      exact hres

/-- A leaf as a tree, and the rows that are taken out for it. -/
def takeL (σ : St) (z : Nat) : L → Option (Prop × T × List Nat)
  | .t (.int k n) => some (True, .int k n, [])
  | .t (.bool b) => some (True, .bool b, [])
  | .t (.str s) => some (True, .str s, [])
  | .nil => some (True, .sl z [], [])
  | .undef => some (True, .hole, [])
  | .ref r [] z' off len => match get σ.row r with
    | some row => if row.pm = .own then some (z' = z, .sl z ((row.es.drop off).take len), [r]) else none
    | none => none
  | _ => none

def takeLs (σ : St) : List Nat → List L → Option (Prop × List T × List Nat)
  | [], [] => some (True, [], [])
  | z :: zs, l :: ls => match takeL σ z l, takeLs σ zs ls with
    | some (c, t, rs), some (c', ts, rs') => if rs.all fun r => !rs'.contains r then some (c ∧ c', t :: ts, rs ++ rs') else none
    | _, _ => none
  | _, _ => none

/-- A leaf as a tree, and the rows that are only read from then on. -/
def shareL (σ : St) (z : Nat) : L → Option (Prop × T × List Nat)
  | .t (.int k n) => some (True, .int k n, [])
  | .t (.bool b) => some (True, .bool b, [])
  | .t (.str s) => some (True, .str s, [])
  | .nil => some (True, .sl z [], [])
  | .undef => some (True, .hole, [])
  | .ref r p z' off len => match nodeOf σ r p with
    | some (_, es) => some (z' = z, .sl z ((es.drop off).take len), [r])
    | none => none
  | _ => none

def shareLs (σ : St) : List Nat → List L → Option (Prop × List T × List Nat)
  | [], [] => some (True, [], [])
  | z :: zs, l :: ls => match shareL σ z l, shareLs σ zs ls with
    | some (c, t, rs), some (c', ts, rs') => some (c ∧ c', t :: ts, rs ++ rs')
    | _, _ => none
  | _, _ => none

section
variable {w : World} {g : Gh} {σ : St}

/-- The blocks of some rows. -/
def RowsFp (g : Gh) (σ : St) (rs : List Nat) : Blks := fun b => ∃ r row, r ∈ rs ∧ get σ.row r = some row ∧ row.pm ≠ .ro ∧ g.fp r b

theorem takeL_rep (m : Mem w g σ) {z : Nat} {l : L} {v : Value} {c : Prop} {t : T} {rs : List Nat} (h : takeL σ z l = some (c, t, rs)) (hc : c) (hv : RepL w g σ l v) :
    Rep w true v t (RowsFp g σ rs) ∧ ∀ r ∈ rs, ∃ row, get σ.row r = some row ∧ row.pm = .own := by
  unfold takeL at h
  split at h
  · simp only [Option.some.injEq, Prod.mk.injEq] at h; obtain ⟨rfl, rfl, rfl⟩ := h; rw [rep_int hv]; exact ⟨.int, by simp⟩
  · simp only [Option.some.injEq, Prod.mk.injEq] at h; obtain ⟨rfl, rfl, rfl⟩ := h; rw [rep_bool hv]; exact ⟨.bool, by simp⟩
  · simp only [Option.some.injEq, Prod.mk.injEq] at h; obtain ⟨rfl, rfl, rfl⟩ := h; rw [rep_str hv]; exact ⟨.str, by simp⟩
  · simp only [Option.some.injEq, Prod.mk.injEq] at h; obtain ⟨rfl, rfl, rfl⟩ := h
    obtain ⟨oa, rfl⟩ := hv
    cases oa with
    | none => exact ⟨.nils, by simp⟩
    | some a => exact ⟨.bare, by simp⟩
  · simp only [Option.some.injEq, Prod.mk.injEq] at h; obtain ⟨rfl, rfl, rfl⟩ := h; exact ⟨.hole hv, by simp⟩
  · rename_i r z' off len
    split at h
    · rename_i row hrow
      split at h
      · rename_i hpm
        simp only [Option.some.injEq, Prod.mk.injEq] at h
        obtain ⟨rfl, rfl, rfl⟩ := h
        subst hc
        obtain ⟨row', es, u, h1, h2, h3, h4, h5⟩ := hv
        rw [hrow] at h1
        cases h1
        simp only [T.at?, Option.some.injEq, T.sl.injEq, valAt] at h2 h3
        obtain ⟨hz, rfl⟩ := h2
        subst h3
        have := m.own r row hrow hpm
        rw [Row.t, hz] at this
        refine ⟨(this.view h5 h4).mono fun b hb => ⟨r, row, by simp, hrow, by simp [hpm], hb⟩, fun r' hr' => ?_⟩
        simp only [List.mem_singleton] at hr'
        subst hr'
        exact ⟨row, hrow, hpm⟩
      · cases h
    · cases h
  · cases h

theorem takeLs_rep (m : Mem w g σ) : ∀ {zs : List Nat} {ls : List L} {vs : List Value} {c : Prop} {ts : List T} {rs : List Nat}, takeLs σ zs ls = some (c, ts, rs) → c → RepLs w g σ ls vs →
    ts.length = ls.length ∧ (∀ r ∈ rs, ∃ row, get σ.row r = some row ∧ row.pm = .own) ∧
      ∃ f : Nat → Blks, (∀ j t v, ts[j]? = some t → vs[j]? = some v → Rep w true v t (f j)) ∧ (∀ j b, f j b → RowsFp g σ rs b) ∧ (∀ j j' b, f j b → f j' b → j = j')
  | [], [], vs, c, ts, rs, h, hc, hv => by
    simp only [takeLs, Option.some.injEq, Prod.mk.injEq] at h
    obtain ⟨_, rfl, rfl⟩ := h
    exact ⟨rfl, by simp, fun _ _ => False, by simp, fun _ _ h => h.elim, fun _ _ _ h => h.elim⟩
  | z :: zs, l :: ls, v :: vs, c, ts, rs, h, hc, hv => by
    simp only [takeLs] at h
    split at h
    · rename_i c1 t rs1 c2 ts2 rs2 h1 h2
      split at h
      · rename_i hd
        simp only [Option.some.injEq, Prod.mk.injEq] at h
        obtain ⟨rfl, rfl, rfl⟩ := h
        obtain ⟨r1, o1⟩ := takeL_rep m h1 hc.1 hv.1
        obtain ⟨len, o2, f, r2, s2, d2⟩ := takeLs_rep m h2 hc.2 hv.2
        have dis : ∀ b, RowsFp g σ rs1 b → RowsFp g σ rs2 b → False := by
          rintro b ⟨r, row, hr, hrow, hp, hb⟩ ⟨r', row', hr', hrow', hp', hb'⟩
          have := m.rr r r' row row' b hrow hrow' hp hp' hb hb'
          subst this
          have := List.all_eq_true.1 hd r hr
          simp [hr'] at this
        refine ⟨by simp [len], fun r hr => (List.mem_append.1 hr).elim (o1 r) (o2 r), fun j => match j with | 0 => RowsFp g σ rs1 | j + 1 => f j, ?_, ?_, ?_⟩
        · intro j t' v' ht hv'
          cases j with
          | zero => simp at ht hv'; subst ht; subst hv'; exact r1
          | succ j => exact r2 j t' v' (by simpa using ht) (by simpa using hv')
        · intro j b hb
          cases j with
          | zero => obtain ⟨r, row, hr, h3⟩ := hb; exact ⟨r, row, by simp [hr], h3⟩
          | succ j => obtain ⟨r, row, hr, h3⟩ := s2 j b hb; exact ⟨r, row, by simp [hr], h3⟩
        · intro j j' b hb hb'
          cases j with
          | zero =>
            cases j' with
            | zero => rfl
            | succ j' => exact (dis b hb (s2 j' b hb')).elim
          | succ j =>
            cases j' with
            | zero => exact (dis b hb' (s2 j b hb)).elim
            | succ j' => rw [d2 j j' b hb hb']
      · cases h
    · cases h
  | _ :: _, _ :: _, [], _, _, _, _, _, hv => hv.elim
  | [], _ :: _, _, _, _, _, h, _, _ => by simp [takeLs] at h
  | _ :: _, [], _, _, _, _, h, _, _ => by simp [takeLs] at h

theorem shareL_rep (m : Mem w g σ) {z : Nat} {l : L} {v : Value} {c : Prop} {t : T} {rs : List Nat} (h : shareL σ z l = some (c, t, rs)) (hc : c) (hv : RepL w g σ l v) :
    Rep w false v t fun b => RowsFp g σ rs b ∨ ¬ Owned g σ b := by
  unfold shareL at h
  split at h
  · simp only [Option.some.injEq, Prod.mk.injEq] at h; obtain ⟨rfl, rfl, rfl⟩ := h; rw [rep_int hv]; exact .int
  · simp only [Option.some.injEq, Prod.mk.injEq] at h; obtain ⟨rfl, rfl, rfl⟩ := h; rw [rep_bool hv]; exact .bool
  · simp only [Option.some.injEq, Prod.mk.injEq] at h; obtain ⟨rfl, rfl, rfl⟩ := h; rw [rep_str hv]; exact .str
  · simp only [Option.some.injEq, Prod.mk.injEq] at h; obtain ⟨rfl, rfl, rfl⟩ := h
    obtain ⟨oa, rfl⟩ := hv
    cases oa with
    | none => exact .nils
    | some a => exact .bare
  · simp only [Option.some.injEq, Prod.mk.injEq] at h; obtain ⟨rfl, rfl, rfl⟩ := h; exact .hole hv
  · rename_i r p z' off len
    split at h
    · rename_i zz es hn
      simp only [Option.some.injEq, Prod.mk.injEq] at h
      obtain ⟨rfl, rfl, rfl⟩ := h
      subst hc
      obtain ⟨row', es', u, h1, h2, h3, h4, h5⟩ := hv
      have hn' : nodeOf σ r p = some (z', es') := by simp [nodeOf, h1, h2]
      rw [hn] at hn'
      simp only [Option.some.injEq, Prod.mk.injEq] at hn'
      obtain ⟨rfl, rfl⟩ := hn'
      -- the row's own footprint, or what is read anyway
      have key : Rep w false (g.rw r) row'.t fun b => RowsFp g σ [r] b ∨ ¬ Owned g σ b := by
        cases hp : row'.pm with
        | own => exact (m.own r row' h1 hp).lent.mono fun b hb => Or.inl ⟨r, row', by simp, h1, by simp [hp], hb⟩
        | ro => exact (m.ro r row' h1 hp).mono fun b hb => Or.inr hb
        | top =>
          rcases m.top r row' h1 hp with ⟨e, oa, hv⟩ | ⟨a, cap, cs, hv, hl, hF, hc⟩
          · rw [hv, Row.t, e]
            cases oa with
            | none => exact .nils
            | some a => exact .bare
          · rw [hv]
            exact .sl (fun _ _ b => RowsFp g σ [r] b ∨ ¬ Owned g σ b) ⟨let ⟨e, fr, h, _⟩ := hl.blk; ⟨e, fr, h, fun h => by cases h⟩, hl.spot, hl.len, hl.room, hl.each⟩ (Or.inl ⟨r, row', by simp, h1, by simp [hp], hF⟩)
              (fun _ _ _ h => h) (fun h => by cases h) (fun h => by cases h) (fun i j x c hx hcc => (hc i j x c hx hcc).mono fun b hb => Or.inr hb)
      obtain ⟨u', hu', hru⟩ := key.focus_ro h2
      rw [h3] at hu'
      cases hu'
      exact hru.view h5 h4
    · cases h
  · cases h

theorem shareLs_rep (m : Mem w g σ) : ∀ {zs : List Nat} {ls : List L} {vs : List Value} {c : Prop} {ts : List T} {rs : List Nat}, shareLs σ zs ls = some (c, ts, rs) → c → RepLs w g σ ls vs →
    ts.length = ls.length ∧ ∀ (j : Nat) (t : T) (v : Value), ts[j]? = some t → vs[j]? = some v → Rep w false v t fun b => RowsFp g σ rs b ∨ ¬ Owned g σ b
  | [], [], vs, c, ts, rs, h, hc, hv => by
    simp only [shareLs, Option.some.injEq, Prod.mk.injEq] at h
    obtain ⟨_, rfl, rfl⟩ := h
    exact ⟨rfl, by simp⟩
  | z :: zs, l :: ls, v :: vs, c, ts, rs, h, hc, hv => by
    simp only [shareLs] at h
    split at h
    · rename_i c1 t rs1 c2 ts2 rs2 h1 h2
      simp only [Option.some.injEq, Prod.mk.injEq] at h
      obtain ⟨rfl, rfl, rfl⟩ := h
      obtain ⟨len, r2⟩ := shareLs_rep m h2 hc.2 hv.2
      refine ⟨by simp [len], fun j t' v' ht hv' => ?_⟩
      cases j with
      | zero =>
        simp at ht hv'; subst ht; subst hv'
        exact (shareL_rep m h1 hc.1 hv.1).mono fun b hb => hb.imp (fun ⟨r, row, hr, h3⟩ => ⟨r, row, by simp [hr], h3⟩) id
      | succ j => exact (r2 j t' v' (by simpa using ht) (by simpa using hv')).mono fun b hb => hb.imp (fun ⟨r, row, hr, h3⟩ => ⟨r, row, by simp [hr], h3⟩) id
    · cases h
  | _ :: _, _ :: _, [], _, _, _, _, _, hv => hv.elim
  | [], _ :: _, _, _, _, _, h, _, _ => by simp [shareLs] at h
  | _ :: _, [], _, _, _, _, h, _, _ => by simp [shareLs] at h

end

end Go.Tw
