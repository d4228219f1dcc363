/- Loops by a family of states; typed readings. -/
import Derived.Test.YthajhlpbinjpgaaTw37
set_option linter.unusedSimpArgs false
set_option linter.unusedVariables false
namespace Go.Tw

theorem Sub.of_to {σ σ' : St} (ts : List Nat) (n : Nat) (hn : ts.Nodup) (h : σ.to ts n = σ') : Sub σ σ' := h ▸ Sub.to ts n hn

/-- Those slots, rows, boxes alone. -/
def St.tidy (σ : St) (ts rs bs : List Nat) (n : Nat) : St :=
  { ((σ.only ts).drop ((σ.row.map (·.1)).filter fun k => !rs.contains k) ((σ.box.map (·.1)).filter fun k => !bs.contains k)) with nxt := n }

theorem Sub.of_tidy {σ σ' : St} (ts rs bs : List Nat) (n : Nat) (hn : ts.Nodup) (h : σ.tidy ts rs bs n = σ') : Sub σ σ' := by
  subst h
  exact (Sub.only ts hn).trans ((Sub.drop _ _).trans (Sub.num n))

theorem ofL_def (DR DB : List Nat) (l : L) : L.of DR DB l = ((match l.rowOf with
  | some (r, _) => DR.contains r
  | none => false) || l.boxOf.any DB.contains) := by rfl

/-- Other names for two rows. -/
theorem Sub.swp_row (a b : Nat) {σ σ' : St} (h : σ.ren (swp a b) (fun n => n) = σ') : Sub σ σ' := by
  subst h
  exact Sub.ren (swp_swp a b) fun _ => rfl

attribute [go_sem] St.tidy St.drop ofL_def St.ren renE renV renL swp killS

/-- A loop whose rounds begin in the states I x. -/
theorem W_loopI {P : Program} {N : Nat} {K : Exit → St → Prop} {c : Code} {σ : St} {α : Type} (I : α → St) (φ : α → Prop) (μ : α → Nat) (x : α) (hs : Sub σ (I x)) (h0 : φ x)
    (round : ∀ x, φ x → W P N c (Then (fun σ' => ∃ y, Sub σ' (I y) ∧ φ y ∧ μ y < μ x) K) (I x)) : W P N (.loop c) K σ :=
  W_loopS (fun n σ => ∃ x, φ x ∧ n = μ x ∧ σ = I x) hs ⟨x, h0, rfl, rfl⟩ fun n σ ⟨x, h1, h2, h3⟩ => by
    subst h2 h3
    refine W_mono (round x h1) fun e σ' h => ?_
    cases e with
    | normal =>
      obtain ⟨y, q1, q2, q3⟩ := h
      exact ⟨μ y, I y, q3, q1, y, q2, rfl, rfl⟩
    | _ => exact h

theorem fits_nil {ts : List T} (h : FitsL [] ts) : ts = [] := List.length_eq_zero_iff.1 h.len
theorem fits_cons {d : TD} {ds : List TD} {ts : List T} (h : FitsL (d :: ds) ts) : ∃ t ts', ts = t :: ts' ∧ Fits d t ∧ FitsL ds ts' := by
  match ts, h with
  | t :: ts, h => exact ⟨t, ts, rfl, h.each 0 d t rfl rfl, by simpa using h.len, fun j d t h1 h2 => h.each (j + 1) d t (by simpa using h1) (by simpa using h2)⟩
  | [], h => simpa using h.len
theorem fits_int {k : IntKind} {t : T} (h : Fits (.int k) t) : ∃ n, t = .int k n ∧ k.min ≤ n ∧ n ≤ k.max := by cases h with | int h1 h2 => exact ⟨_, rfl, h1, h2⟩
theorem fits_bool {t : T} (h : Fits .bool t) : ∃ b, t = .bool b := by cases h with | bool => exact ⟨_, rfl⟩
theorem fits_str {t : T} (h : Fits .str t) : ∃ s, t = .str s ∧ s.size ≤ 9223372036854775807 := by cases h with | str h => exact ⟨_, rfl, h⟩
theorem enc_of {α : Type} {e : α → List T} {Q : α → Prop} : ∀ {es : Els}, (∀ x ∈ es, ∃ a, x = e a ∧ Q a) → ∃ xs, es = enc e xs ∧ ∀ a ∈ xs, Q a
  | [], _ => ⟨[], rfl, by simp⟩
  | x :: es, h => by
    obtain ⟨a, rfl, ha⟩ := h x (by simp)
    obtain ⟨xs, rfl, hx⟩ := enc_of (es := es) fun y hy => h y (by simp [hy])
    exact ⟨a :: xs, rfl, by simp; exact ⟨ha, hx⟩⟩
theorem fits_sl {α : Type} {e : α → List T} {Q : α → Prop} {z : Nat} {fs : List TD} {t : T} (h : Fits (.sl z fs) t) (he : ∀ ts, FitsL fs ts → ∃ a, ts = e a ∧ Q a) :
    ∃ xs : List α, t = .sl z (enc e xs) ∧ xs.length ≤ 9223372036854775807 ∧ ∀ a ∈ xs, Q a := by
  cases h with
  | sl hl hz hx =>
    obtain ⟨xs, rfl, hq⟩ := enc_of fun x hx' => he x ⟨hz x hx', hx x hx'⟩
    exact ⟨xs, rfl, by simpa [enc_length] using hl, hq⟩
theorem fits_I {ts : List T} (h : FitsL [.int .i64] ts) : ∃ n, ts = eI n ∧ -9223372036854775808 ≤ n ∧ n ≤ 9223372036854775807 := by
  obtain ⟨t, ts', rfl, h1, h2⟩ := fits_cons h
  obtain rfl := fits_nil h2
  obtain ⟨n, rfl, h3, h4⟩ := fits_int h1
  exact ⟨n, rfl, h3, h4⟩
theorem fitsA_nil {as : List A} (h : FitsA [] as) : as = [] := by
  cases as with
  | nil => rfl
  | cons => exact h.elim
theorem fitsA_cons {d : Bool × List TD} {ds : List (Bool × List TD)} {as : List A} (h : FitsA (d :: ds) as) : ∃ ts as', as = (d.1, ts) :: as' ∧ FitsL d.2 ts ∧ FitsA ds as' := by
  match as, h with
  | x :: as, h => exact ⟨x.2, as, by rw [← h.1.1], h.1.2, h.2⟩
  | [], h => exact h.elim
end Go.Tw
