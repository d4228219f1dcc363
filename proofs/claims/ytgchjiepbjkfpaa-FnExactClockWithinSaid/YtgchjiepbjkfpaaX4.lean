import Derived.Test.YtgchjiepbjkfpaaX3
namespace Go.Tw
open Go.Proofs

theorem ty4 : tyOf Try.prog 4 = ⟨.bool, 1, 1, [.t (.bool false)], true, [0], [.bool false]⟩ := by kernel_rfl

theorem pc3 (xs ys : List Int) (hx : xs.length ≤ 17592186043904) (hy : ys.length ≤ 17592186043904) : PC Try.prog 3 [(false, [.sl 1 (enc eI xs)]), (false, [.sl 1 (enc eI ys)])] [(false, [.bool true])] := by
  refine PC_of (n := 40) Try.func3 rfl rfl rfl rfl (by simp) ?_
  refine W_seqK fun K1 h1 => W_reg ?_
  simp [go_sem]
  refine h1 _ ?_
  clear h1 K1
  refine W_seqK fun K1 h1 => W_seqK fun K2 h2 => W_reg ?_
  simp [go_sem, ty22]
  refine h2 _ (W_cond rfl (fun hb => ?_) fun hb => ?_)
  · refine W_seqK fun K3 h3 => W_reg ?_
    simp [go_sem]
    refine h3 _ (W_ret ?_)
    simp [go_sem]
  refine W_skip (h1 _ ?_)
  clear h1 h2 K1 K2 hb
  refine W_seqK fun K1 h1 => W_seqK fun K2 h2 => W_reg ?_
  simp [go_sem, ty22]
  refine h2 _ (W_cond rfl (fun hb => ?_) fun hb => ?_)
  · refine W_seqK fun K3 h3 => W_reg ?_
    simp [go_sem]
    refine h3 _ (W_ret ?_)
    simp [go_sem]
  refine W_skip (h1 _ ?_)
  clear h1 h2 K1 K2 hb
  refine W_seqK fun K1 h1 => W_reg ?_
  simp [go_sem]
  refine call_pc (pc10 xs hx) (by simp [go_sem]) rfl rfl ?_
  simp [go_sem]
  refine call_pc (pc10 ys hy) (by simp [go_sem]) rfl rfl ?_
  simp [go_sem]
  refine call_pc (pc9 xs ys hx) (by simp [go_sem]) rfl rfl ?_
  simp [go_sem]
  refine h1 _ ?_
  clear h1 K1
  refine W_seqK fun K1 h1 => W_reg ?_
  simp [go_sem]
  refine call_pc (pc10 xs hx) (by simp [go_sem]) rfl rfl ?_
  simp [go_sem]
  refine h1 _ ?_
  clear h1 K1
  refine W_seqK fun K1 h1 => W_reg ?_
  simp [go_sem]
  refine call_pc (pc10 ys hy) (by simp [go_sem]) rfl rfl ?_
  simp [go_sem]
  refine h1 _ ?_
  clear h1 K1
  refine W_seqK fun K1 h1 => W_reg ?_
  simp [go_sem]
  refine call_pc (pc11 xs ys hx) (by simp [go_sem]) rfl rfl ?_
  simp [go_sem]
  refine h1 _ ?_
  clear h1 K1
  refine W_seqK fun K1 h1 => W_seqK fun K2 h2 => W_reg ?_
  simp [go_sem, ty4]
  refine h2 _ (W_cond rfl (fun hb => by simp at hb) fun hb => ?_)
  refine W_skip (h1 _ ?_)
  clear h1 h2 K1 K2 hb
  refine W_seqK fun K1 h1 => W_seqK fun K2 h2 => W_reg ?_
  simp [go_sem]
  refine call_pc (pc10 xs hx) (by simp [go_sem]) rfl rfl ?_
  simp [go_sem]
  refine call_pc (pc12 xs xs hx) (by simp [go_sem]) rfl rfl ?_
  simp [go_sem]
  refine h2 _ (W_cond rfl (fun hb => by simp at hb) fun hb => ?_)
  refine W_skip (h1 _ ?_)
  clear h1 h2 K1 K2 hb
  refine W_seqK fun K1 h1 => W_seqK fun K2 h2 => W_reg ?_
  simp [go_sem]
  refine call_pc (pc10 ys hy) (by simp [go_sem]) rfl rfl ?_
  simp [go_sem]
  refine call_pc (pc12 ys ys hy) (by simp [go_sem]) rfl rfl ?_
  simp [go_sem]
  refine h2 _ (W_cond rfl (fun hb => by simp at hb) fun hb => ?_)
  refine W_skip (h1 _ ?_)
  clear h1 h2 K1 K2 hb
  refine W_seqK fun K1 h1 => W_reg ?_
  simp [go_sem]
  refine h1 _ (W_ret ?_)
  simp [go_sem]
end Go.Tw
