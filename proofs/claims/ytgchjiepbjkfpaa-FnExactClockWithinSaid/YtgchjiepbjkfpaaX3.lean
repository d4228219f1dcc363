import Derived.Test.YtgchjiepbjkfpaaX2
namespace Go.Tw
open Go.Proofs

def I9 (xs ys : List Int) (i : Nat) : St :=
  { env := [(0, true, .l (.ref 0 [] 1 0 xs.length)), (1, true, .l (.ref 1 [] 1 0 ys.length)), (4, true, .l (.t (.bool false))), (5, true, .l (.t (.int .i64 i)))]
    box := [], row := [(0, ⟨.ro, 1, enc eI xs⟩), (1, ⟨.ro, 1, enc eI ys⟩)], nxt := 2, sav := [] }

def J9 (xs ys : List Int) (n : Nat) (σ : St) : Prop := ∃ i, i ≤ xs.length ∧ i ≤ ys.length ∧ n = xs.length - i ∧ (∀ j, j < i → xs[j]?.getD 0 ≤ ys[j]?.getD 0) ∧ σ = I9 xs ys i

theorem pc9 (xs ys : List Int) (hx : xs.length ≤ 17592186043904) : PC Try.prog 9 [(false, [.sl 1 (enc eI xs)]), (false, [.sl 1 (enc eI ys)])] [(false, [.bool (within xs ys)])] := by
  refine PC_of (n := 32) Try.func9 rfl rfl rfl rfl (by simp) ?_
  refine W_seqK fun K1 h1 => W_reg ?_
  simp [go_sem]
  refine h1 _ ?_
  clear h1 K1
  refine W_seqK fun K1 h1 => W_seqK fun K2 h2 => W_reg ?_
  simp [go_sem]
  refine h2 _ (W_block (W_loopS (J9 xs ys) (Sub.to [0, 1, 4, 5] 2 (by decide)) ⟨0, by simp, by simp, rfl, by simp, by simp [go_sem, I9]⟩ ?_))
  rintro n _ ⟨i, hi, hi', rfl, hall, rfl⟩
  refine W_seqK fun K3 h3 => W_seqK fun K4 h4 => W_reg ?_
  simp [go_sem, I9, ty22]
  refine h4 _ (W_cond rfl (fun hb => ?_) fun hb => ?_)
  · obtain ⟨hlt, hlt'⟩ : i < xs.length ∧ i < ys.length := by simpa using hb
    refine W_skip (h3 _ ?_)
    clear h3 h4 K3 K4 hb
    refine W_seqK fun K3 h3 => W_block (W_seqK fun K4 h4 => W_drawT mixed (by decide +kernel) ?_)
    simp [go_sem, ty22, ty3, hlt, hlt']
    refine h4 _ (W_cond rfl (fun hb => ?_) fun hb => ?_)
    · refine W_seqK fun K6 h6 => W_reg ?_
      simp [go_sem]
      refine h6 _ (W_ret ?_)
      have : within xs ys = false := by
        simp [within]
        intro _
        exact ⟨i, hlt, by simp at hb; simpa [hlt, hlt'] using hb⟩
      simp [go_sem, this]
    · refine W_skip (h3 _ (W_reg ?_))
      simp [go_sem]
      refine ⟨_, _, ?_, Sub.to [0, 1, 4, 5] 2 (by decide), i + 1, hlt, hlt', rfl, ?_, ?_⟩
      · omega
      · intro j hj
        rcases Nat.lt_succ_iff_lt_or_eq.1 hj with hj | rfl
        · exact hall j hj
        · simp at hb; simpa [hlt, hlt'] using hb
      · have hw : IntKind.wrap .i64 ((i : Int) + 1) = (i : Int) + 1 := wrap_succ (by omega)
        simp [go_sem, I9, hw]
  · refine W_exit ?_
    simp [go_sem]
    refine h1 _ (W_seqK fun K5 h5 => W_reg ?_)
    simp [go_sem, ty22]
    refine h5 _ (W_ret ?_)
    have : within xs ys = decide (xs.length = ys.length) := by
      have hb' : ¬ (i < xs.length ∧ i < ys.length) := by simpa using hb
      unfold within
      by_cases hl : xs.length = ys.length
      · have : i = xs.length := by omega
        subst this
        simp [hl]
        intro j hj
        have := hall j (by omega)
        simpa using this
      · simp [hl]
    have e : ((xs.length : Int) == (ys.length : Int)) = decide (xs.length = ys.length) := by
      by_cases hl : xs.length = ys.length <;> simp [hl]
      omega
    simp [go_sem, this, e]

def J12 (xs ys : List Int) (n : Nat) (σ : St) : Prop := ∃ i, i ≤ xs.length ∧ n = xs.length - i ∧ (∀ j, j < i → xs[j]?.getD 0 = ys[j]?.getD 0) ∧ σ = I9 xs ys i

theorem pc12 (xs ys : List Int) (hx : xs.length ≤ 17592186043904) : PC Try.prog 12 [(false, [.sl 1 (enc eI xs)]), (false, [.sl 1 (enc eI ys)])] [(false, [.bool (xs == ys)])] := by
  refine PC_of (n := 26) Try.func12 rfl rfl rfl rfl (by simp) ?_
  refine W_seqK fun K1 h1 => W_reg ?_
  simp [go_sem]
  refine h1 _ ?_
  clear h1 K1
  refine W_seqK fun K1 h1 => W_seqK fun K2 h2 => W_reg ?_
  simp [go_sem, ty22]
  refine h2 _ (W_cond rfl (fun hb => ?_) fun hb => ?_)
  · refine W_seqK fun K3 h3 => W_reg ?_
    simp [go_sem]
    refine h3 _ (W_ret ?_)
    have : (xs == ys) = false := by
      simp at hb ⊢
      intro e; subst e; exact hb rfl
    simp [go_sem, this]
  · have hl : xs.length = ys.length := by simp at hb; omega
    refine W_skip (h1 _ ?_)
    clear h1 h2 K1 K2 hb
    refine W_seqK fun K1 h1 => W_seqK fun K2 h2 => W_reg ?_
    simp [go_sem]
    refine h2 _ (W_block (W_loopS (J12 xs ys) (Sub.to [0, 1, 4, 5] 2 (by decide)) ⟨0, by simp, rfl, by simp, by simp [go_sem, I9]⟩ ?_))
    rintro n _ ⟨i, hi, rfl, hall, rfl⟩
    refine W_seqK fun K3 h3 => W_seqK fun K4 h4 => W_reg ?_
    simp [go_sem, I9, ty22]
    refine h4 _ (W_cond rfl (fun hb => ?_) fun hb => ?_)
    · have hlt : i < xs.length := by simpa using hb
      have hlt' : i < ys.length := hl ▸ hlt
      refine W_skip (h3 _ ?_)
      clear h3 h4 K3 K4 hb
      refine W_seqK fun K3 h3 => W_block (W_seqK fun K4 h4 => W_drawT mixed (by decide +kernel) ?_)
      simp [go_sem, ty22, ty3, hlt, hlt']
      refine h4 _ (W_cond rfl (fun hb => ?_) fun hb => ?_)
      · refine W_seqK fun K6 h6 => W_reg ?_
        simp [go_sem]
        refine h6 _ (W_ret ?_)
        have : (xs == ys) = false := by
          simp at hb ⊢
          intro e
          subst e
          exact hb rfl
        simp [go_sem, this]
      · refine W_skip (h3 _ (W_reg ?_))
        simp [go_sem]
        refine ⟨_, _, ?_, Sub.to [0, 1, 4, 5] 2 (by decide), i + 1, hlt, rfl, ?_, ?_⟩
        · omega
        · intro j hj
          rcases Nat.lt_succ_iff_lt_or_eq.1 hj with hj | rfl
          · exact hall j hj
          · simp at hb; simpa [hlt, hlt'] using hb
        · have hw : IntKind.wrap .i64 ((i : Int) + 1) = (i : Int) + 1 := wrap_succ (by omega)
          simp [go_sem, I9, hw]
    · refine W_exit ?_
      simp [go_sem]
      refine h1 _ (W_seqK fun K5 h5 => W_reg ?_)
      simp [go_sem]
      refine h5 _ (W_ret ?_)
      have hi' : i = xs.length := by simp at hb; omega
      have : (xs == ys) = true := by
        simp
        apply List.ext_getElem hl
        intro j h1 h2
        have := hall j (by omega)
        simpa [h1, h2] using this
      simp [go_sem, this]
end Go.Tw
