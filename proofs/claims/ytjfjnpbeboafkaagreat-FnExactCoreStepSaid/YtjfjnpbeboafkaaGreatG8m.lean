/- Walks of functions: impl.isSeq, impl.isPage, impl.isOf, spec.MsgOk, impl.MsgOk -/
import Derived.Test.YtjfjnpbeboafkaaGreatG8c
import Derived.Test.YtjfjnpbeboafkaaGreatBaseG
set_option linter.unusedSimpArgs false
set_option linter.unusedVariables false
set_option linter.unnecessarySimpa false
namespace Go.Tw
open Go.Proofs

set_option maxRecDepth 100000 in
set_option maxHeartbeats 4000000 in
theorem pc_impl_isSeq (x : Int)  : PC Tryz.prog 171 [(false, [.int .i64 x])] [(false, [.bool (inR x 0 100000)])] := by
  refine PC_of (n := 5) Tryz.func171 rfl rfl rfl rfl (by simp) ?_
  refine W_seqK fun K1 h1 => ?_
  refine W_reg ?_
  simp [go_sem, ty4]
  repeat refine tk ?_
  refine h1 _ ?_
  clear h1 K1
  refine W_seqK fun K2 h2 => ?_
  refine W_reg ?_
  simp [go_sem, ty3, ty4]
  refine callA (fun hG => pc_impl_from x 0 100000) (fun hG => by simp [go_sem]) rfl rfl ?_
  simp [go_sem, ty4]
  repeat refine tk ?_
  refine h2 _ ?_
  clear h2 K2
  refine W_ret ?_
  simp [go_sem]

set_option maxRecDepth 100000 in
set_option maxHeartbeats 4000000 in
theorem pc_impl_isPage (x : Int)  : PC Tryz.prog 110 [(false, [.int .i64 x])] [(false, [.bool (inR x 0 5)])] := by
  refine PC_of (n := 5) Tryz.func110 rfl rfl rfl rfl (by simp) ?_
  refine W_seqK fun K1 h1 => ?_
  refine W_reg ?_
  simp [go_sem, ty4]
  repeat refine tk ?_
  refine h1 _ ?_
  clear h1 K1
  refine W_seqK fun K2 h2 => ?_
  refine W_reg ?_
  simp [go_sem, ty3, ty4]
  refine callA (fun hG => pc_impl_from x 0 5) (fun hG => by simp [go_sem]) rfl rfl ?_
  simp [go_sem, ty4]
  repeat refine tk ?_
  refine h2 _ ?_
  clear h2 K2
  refine W_ret ?_
  simp [go_sem]

set_option maxRecDepth 100000 in
set_option maxHeartbeats 4000000 in
theorem pc_impl_isOf (x : Int) (n : Int)  : PC Tryz.prog 159 [(false, [.int .i64 x]), (false, [.int .i64 n])] [(false, [.bool (inR n 1 4 && inR x 0 (IntKind.wrap .i64 (n - 1)))])] := by
  refine PC_of (n := 13) Tryz.func159 rfl rfl rfl rfl (by simp) ?_
  refine W_seqK fun K1 h1 => ?_
  refine W_reg ?_
  simp [go_sem, ty4]
  repeat refine tk ?_
  refine h1 _ ?_
  clear h1 K1
  refine W_seqK fun K2 h2 => ?_
  refine W_reg ?_
  simp [go_sem, ty3, ty4]
  refine callA (fun hG => pc_impl_from n 1 4) (fun hG => by simp [go_sem]) rfl rfl ?_
  simp [go_sem, ty3, ty4]
  refine callA (fun hG => pc_impl_from x 0 (IntKind.wrap .i64 (n - 1))) (fun hG => by simp [go_sem]) rfl rfl ?_
  simp [go_sem, ty4]
  repeat refine tk ?_
  refine h2 _ ?_
  clear h2 K2
  refine W_ret ?_
  simp [go_sem]

set_option maxRecDepth 100000 in
set_option maxHeartbeats 4000000 in
theorem pc_spec_MsgOk (m : GMsg) (hx : m.list.length ≤ 9223372036854775806) : PC Tryz.prog 190 [(true, eMsg m)] [(false, [.bool (msgOk m)])] := by
  refine PC_of (n := 43) Tryz.func190 rfl rfl rfl rfl (by simp) ?_
  refine W_seqK fun K1 h1 => ?_
  refine W_reg ?_
  simp [go_sem, ty4, ty159]
  repeat refine tk ?_
  refine h1 _ ?_
  clear h1 K1
  refine W_seqK fun K2 h2 => ?_
  refine W_reg ?_
  simp [go_sem, ty3]
  repeat refine tk ?_
  refine h2 _ ?_
  clear h2 K2
  refine W_seqK fun K3 h3 => ?_
  refine W_seqK fun K4 h4 => ?_
  refine W_reg ?_
  simp [go_sem, ty3, ty4, ty159]
  repeat refine tk ?_
  refine h4 _ ?_
  clear h4 K4
  refine W_cond rfl (fun hb5 => ?_) fun hb5 => ?_
  · have qk : m.kind = 3 ∨ m.kind = 7 := by simp at hb5; omega
    obtain ⟨q4, hq4⟩ : ∃ n : Int, n = 4 := ⟨_, rfl⟩
    clear hb5
    refine W_reg ?_
    simp [go_sem, ty3]
    repeat refine tk ?_
    refine h3 _ ?_
    clear h3 K3
    refine W_seqK fun K6 h6 => ?_
    refine W_reg ?_
    simp [go_sem, ty3, ty4, ty159]
    repeat refine tk ?_
    refine h6 _ ?_
    clear h6 K6
    refine W_seqK fun K7 h7 => ?_
    refine W_reg ?_
    simp [go_sem, ty3, ty4, ty159]
    refine callA (fun hG => pc_spec_l1In m.kind 1 7) (fun hG => by simp [go_sem]) rfl rfl ?_
    simp [go_sem, ty3, ty4, ty159]
    refine callA (fun hG => pc_spec_l1In m.page 0 5) (fun hG => by simp [go_sem]) rfl rfl ?_
    simp [go_sem, ty3, ty4, ty22, ty159]
    refine ⟨by grind, ?_⟩
    refine callA (fun hG => pc_spec_l1Words m.list q4 (by omega)) (fun hG => by simp [go_sem, hq4]) rfl rfl ?_
    simp [go_sem, ty4]
    repeat refine tk ?_
    refine h7 _ ?_
    clear h7 K7
    refine W_ret ?_
    simp [go_sem, msgOk, msgHd, qk, hq4]
    first | done | grind
  · have qk : ¬ (m.kind = 3 ∨ m.kind = 7) := by simp at hb5; omega
    obtain ⟨q4, hq4⟩ : ∃ n : Int, n = 0 := ⟨_, rfl⟩
    clear hb5
    refine W_skip ?_
    repeat refine tk ?_
    refine h3 _ ?_
    clear h3 K3
    refine W_seqK fun K8 h8 => ?_
    refine W_reg ?_
    simp [go_sem, ty3, ty4, ty159]
    repeat refine tk ?_
    refine h8 _ ?_
    clear h8 K8
    refine W_seqK fun K9 h9 => ?_
    refine W_reg ?_
    simp [go_sem, ty3, ty4, ty159]
    refine callA (fun hG => pc_spec_l1In m.kind 1 7) (fun hG => by simp [go_sem]) rfl rfl ?_
    simp [go_sem, ty3, ty4, ty159]
    refine callA (fun hG => pc_spec_l1In m.page 0 5) (fun hG => by simp [go_sem]) rfl rfl ?_
    simp [go_sem, ty3, ty4, ty22, ty159]
    refine ⟨by grind, ?_⟩
    refine callA (fun hG => pc_spec_l1Words m.list q4 (by omega)) (fun hG => by simp [go_sem, hq4]) rfl rfl ?_
    simp [go_sem, ty4]
    repeat refine tk ?_
    refine h9 _ ?_
    clear h9 K9
    refine W_ret ?_
    simp [go_sem, msgOk, msgHd, qk, hq4]
    first | done | grind

set_option maxRecDepth 100000 in
set_option maxHeartbeats 4000000 in
theorem pc_impl_MsgOk (m : GMsg) (hx : m.list.length ≤ 9223372036854775806) : PC Tryz.prog 180 [(true, eMsg m)] [(false, [.bool (msgOk m)])] := by
  refine PC_of (n := 42) Tryz.func180 rfl rfl rfl rfl (by simp) ?_
  refine W_seqK fun K1 h1 => ?_
  refine W_reg ?_
  simp [go_sem, ty4, ty159]
  repeat refine tk ?_
  refine h1 _ ?_
  clear h1 K1
  refine W_seqK fun K2 h2 => ?_
  refine W_seqK fun K3 h3 => ?_
  refine W_reg ?_
  simp [go_sem, ty3, ty4, ty159]
  refine callA (fun hG => pc_impl_from m.kind 1 7) (fun hG => by simp [go_sem]) rfl rfl ?_
  simp [go_sem, ty3, ty4, ty159]
  refine callA (fun hG => pc_impl_isPage m.page) (fun hG => by simp [go_sem]) rfl rfl ?_
  simp [go_sem, ty3, ty4, ty159]
  repeat refine tk ?_
  refine h3 _ ?_
  clear h3 K3
  refine W_cond rfl (fun hb4 => ?_) fun hb4 => ?_
  · have q : msgOk m = false := msgOk_hd (by unfold msgHd; simp at hb4 ⊢; grind)
    clear hb4
    refine W_seqK fun K5 h5 => ?_
    refine W_reg ?_
    simp [go_sem, ty4]
    repeat refine tk ?_
    refine h5 _ ?_
    clear h5 K5
    refine W_ret ?_
    simp [go_sem, q]
  · have qh : msgHd m = true := by unfold msgHd; simp at hb4 ⊢; grind
    clear hb4
    refine W_skip ?_
    repeat refine tk ?_
    refine h2 _ ?_
    clear h2 K2
    refine W_seqK fun K6 h6 => ?_
    refine W_seqK fun K7 h7 => ?_
    refine W_reg ?_
    simp [go_sem, ty3, ty4, ty159]
    repeat refine tk ?_
    refine h7 _ ?_
    clear h7 K7
    refine W_cond rfl (fun hb8 => ?_) fun hb8 => ?_
    · have q := msgOk_four qh (by simp at hb8; omega)
      clear hb8
      refine W_seqK fun K9 h9 => ?_
      refine W_reg ?_
      simp [go_sem, ty3, ty4, ty22, ty159]
      refine callA (fun hG => pc_impl_wordsOk m.list 4 (by omega)) (fun hG => by simp [go_sem]) rfl rfl ?_
      simp [go_sem, ty4]
      repeat refine tk ?_
      refine h9 _ ?_
      clear h9 K9
      refine W_ret ?_
      simp [go_sem, q]
    · have q := msgOk_none qh (by simp at hb8; omega)
      clear hb8
      refine W_skip ?_
      repeat refine tk ?_
      refine h6 _ ?_
      clear h6 K6
      refine W_seqK fun K10 h10 => ?_
      refine W_reg ?_
      simp [go_sem, ty3, ty4, ty22, ty159]
      repeat refine tk ?_
      refine h10 _ ?_
      clear h10 K10
      refine W_ret ?_
      simp [go_sem, q]
      by_cases q2 : m.list = [] <;> simp [q2]
end Go.Tw
