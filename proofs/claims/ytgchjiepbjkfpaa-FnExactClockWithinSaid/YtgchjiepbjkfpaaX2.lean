import Derived.Test.YtgchjiepbjkfpaaX1
namespace Go.Tw
open Go.Proofs

theorem fill_step {α : Type} (xs : List α) (d : α) (i : Nat) (h : i < xs.length) : (xs.take i ++ List.replicate (xs.length - i) d).set i xs[i] = xs.take (i + 1) ++ List.replicate (xs.length - (i + 1)) d := by
  have e : xs.length - i = (xs.length - (i + 1)) + 1 := by omega
  have l : (xs.take i).length = i := by simp; omega
  rw [e, List.replicate_succ, List.set_append_right _ _ (by omega), l, Nat.sub_self, List.set_cons_zero, ← List.take_append_getElem h, List.append_assoc]
  rfl

def I10 (xs : List Int) (i : Nat) : St :=
  { env := [(0, true, .l (.ref 0 [] 1 0 xs.length)), (3, true, .l (.ref 1 [] 1 0 xs.length)), (4, true, .l (.t (.int .i64 i)))]
    box := [], row := [(1, ⟨.own, 1, enc eI (xs.take i ++ List.replicate (xs.length - i) 0)⟩), (0, ⟨.ro, 1, enc eI xs⟩)], nxt := 2, sav := [] }

def J10 (xs : List Int) (n : Nat) (σ : St) : Prop := ∃ i, i ≤ xs.length ∧ n = xs.length - i ∧ σ = I10 xs i

theorem pc10 (xs : List Int) (hx : xs.length ≤ 17592186043904) : PC Try.prog 10 [(false, [.sl 1 (enc eI xs)])] [(false, [.sl 1 (enc eI xs)])] := by
  refine PC_of (n := 22) Try.func10 rfl rfl rfl rfl (by simp) ?_
  refine W_seqK fun K1 h1 => W_reg ?_
  simp [go_sem]
  refine h1 _ ?_
  clear h1 K1
  refine W_seqK fun K1 h1 => W_reg ?_
  simp [go_sem, ty22, ty3]
  refine ⟨by omega, h1 _ ?_⟩
  clear h1 K1
  refine W_seqK fun K1 h1 => W_seqK fun K2 h2 => W_reg ?_
  simp [go_sem]
  refine h2 _ (W_block (W_loopS (J10 xs) (Sub.only [0, 3, 4] (by decide)) ⟨0, by simp, rfl, by simp [go_sem, I10]⟩ ?_))
  rintro n _ ⟨i, hi, rfl, rfl⟩
  refine W_seqK fun K3 h3 => W_seqK fun K4 h4 => W_reg ?_
  simp [go_sem, I10, ty22]
  refine h4 _ (W_cond rfl (fun hb => ?_) fun hb => ?_)
  · have hlt : i < xs.length := by simpa using hb
    refine W_skip (h3 _ ?_)
    clear h3 h4 K3 K4 hb
    refine W_seqK fun K3 h3 => W_block (W_reg ?_)
    simp [go_sem, ty22, ty3, hlt]
    refine h3 _ (W_reg ?_)
    simp [go_sem]
    refine ⟨_, _, ?_, Sub.to [0, 3, 4] 2 (by decide), i + 1, hlt, rfl, ?_⟩
    · omega
    · have hw : IntKind.wrap .i64 ((i : Int) + 1) = (i : Int) + 1 := wrap_succ (by omega)
      have he := fill_step xs 0 i hlt
      simp [go_sem, I10, hw, he]
  · have hi' : i = xs.length := by simp at hb; omega
    subst hi'
    refine W_exit ?_
    simp [go_sem]
    refine h1 _ (W_seqK fun K5 h5 => W_reg ?_)
    simp [go_sem]
    refine h5 _ (W_ret ?_)
    simp [go_sem]
end Go.Tw
