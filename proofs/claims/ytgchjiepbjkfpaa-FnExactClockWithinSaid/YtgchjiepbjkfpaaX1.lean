import Derived.Test.YtgchjiepbjkfpaaTw34
import Derived.Test.YtgchjiepbjkfpaaProg
import Derived.KernelRfl
namespace Go.Tw
open Go.Proofs

theorem ty22 : tyOf Try.prog 22 = ⟨.sl 3, 1, 24, [.nil], true, [1], [.sl 1 []]⟩ := by kernel_rfl
theorem ty3 : tyOf Try.prog 3 = ⟨.int .i64, 1, 8, [.t (.int .i64 0)], true, [0], [.int .i64 0]⟩ := by kernel_rfl
theorem mixed : Try.prog.follows .mixedOrders = true := by kernel_rfl

def within (xs ys : List Int) : Bool := decide (xs.length = ys.length) && (List.range xs.length).all fun i => decide (xs.getD i 0 ≤ ys.getD i 0)

def I11 (xs ys : List Int) (i : Nat) : St :=
  { env := [(0, true, .l (.ref 0 [] 1 0 xs.length)), (1, true, .l (.ref 1 [] 1 0 ys.length)), (4, true, .l (.t (.bool false))), (12, true, .l (.t (.int .i64 xs.length))), (13, true, .l (.t (.int .i64 i)))]
    box := [], row := [(0, ⟨.ro, 1, enc eI xs⟩), (1, ⟨.ro, 1, enc eI ys⟩)], nxt := 2, sav := [] }

def J11 (xs ys : List Int) (n : Nat) (σ : St) : Prop := ∃ i, i ≤ xs.length ∧ n = xs.length - i ∧ (∀ j, j < i → xs.getD j 0 ≤ ys.getD j 0) ∧ σ = I11 xs ys i

theorem pc11 (xs ys : List Int) (hx : xs.length ≤ 17592186043904) : PC Try.prog 11 [(false, [.sl 1 (enc eI xs)]), (false, [.sl 1 (enc eI ys)])] [(false, [.bool (within xs ys)])] := by
  refine PC_of (n := 26) Try.func11 rfl rfl rfl rfl (by simp) ?_
  refine W_seqK fun K1 h1 => W_reg ?_
  simp [go_sem]
  refine h1 _ ?_
  clear h1 K1
  refine W_seqK fun K1 h1 => W_seqK fun K2 h2 => W_reg ?_
  simp [go_sem, ty22]
  refine h2 _ (W_cond rfl (fun hb => ?_) fun hb => ?_)
  · refine W_seqK fun K3 h3 => W_reg ?_
    simp [go_sem]
    refine h3 _ (W_ret ?_)
    have : xs.length ≠ ys.length := by simp at hb; omega
    simp [go_sem, within, this]
  · have hl : xs.length = ys.length := by simp at hb; omega
    refine W_skip (h1 _ ?_)
    clear h1 h2 K1 K2 hb
    refine W_seqK fun K1 h1 => W_seqK fun K2 h2 => W_reg ?_
    simp [go_sem, ty22]
    refine h2 _ (W_block (W_loopS (J11 xs ys) (Sub.only [0, 1, 4, 12, 13] (by decide)) ⟨0, by simp, rfl, by simp, by simp [go_sem, I11]⟩ ?_))
    rintro n _ ⟨i, hi, rfl, hall, rfl⟩
    refine W_seqK fun K3 h3 => W_reg ?_
    simp [go_sem, I11]
    refine h3 _ (W_seqK fun K4 h4 => W_cond rfl (fun hb => ?_) fun hb => ?_)
    · have hlt : i < xs.length := by simpa using hb
      refine W_skip (h4 _ ?_)
      clear h3 h4 K3 K4 hb
      refine W_seqK fun K3 h3 => W_block (W_seqK fun K4 h4 => W_reg ?_)
      simp [go_sem]
      refine h4 _ (W_seqK fun K5 h5 => W_drawT mixed (by decide +kernel) ?_)
      have hlt' : i < ys.length := hl ▸ hlt
      simp [go_sem, ty22, ty3, hlt, hlt']

      refine h5 _ (W_cond rfl (fun hb => ?_) fun hb => ?_)
      · refine W_seqK fun K6 h6 => W_reg ?_
        simp [go_sem]
        refine h6 _ (W_ret ?_)
        have : within xs ys = false := by
          simp [within]
          intro _
          exact ⟨i, hlt, by simp at hb; simpa [hlt, hlt'] using hb⟩
        simp [go_sem, this]
      · refine W_skip (h3 _ (W_reg ?_))
        simp [go_sem]
        refine ⟨_, _, ?_, Sub.only [0, 1, 4, 12, 13] (by decide), i + 1, hlt, rfl, ?_, ?_⟩
        · omega
        · intro j hj
          rcases Nat.lt_succ_iff_lt_or_eq.1 hj with hj | rfl
          · exact hall j hj
          · simp at hb; simpa [hlt, hlt'] using hb
        · have : IntKind.wrap .i64 ((i : Int) + 1) = (i : Int) + 1 := wrap_succ (by omega)
          simp [go_sem, I11, this]
    · refine W_exit ?_
      simp [go_sem]
      refine h1 _ ?_
      refine W_seqK fun K3 h3 => W_reg ?_
      simp [go_sem]
      refine h3 _ (W_ret ?_)
      have hi' : i = xs.length := by simp at hb; omega
      have : within xs ys = true := by
        simp [within, hl]
        intro j hj
        have := hall j (by omega)
        simpa using this
      simp [go_sem, this]
end Go.Tw
