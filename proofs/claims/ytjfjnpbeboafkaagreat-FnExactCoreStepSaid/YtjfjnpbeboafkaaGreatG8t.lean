/- Walks of functions: spec.Target, impl.Target -/
import Derived.Test.YtjfjnpbeboafkaaGreatG8b
import Derived.Test.YtjfjnpbeboafkaaGreatBaseG
set_option linter.unusedSimpArgs false
set_option linter.unusedVariables false
set_option linter.unnecessarySimpa false
namespace Go.Tw
open Go.Proofs

set_option maxRecDepth 100000 in
set_option maxHeartbeats 4000000 in
theorem pc_spec_Target (x : GIns) (regs : List Int)  : PC Tryz.prog 29 [(true, eIns x), (false, [.sl 1 (enc eI regs)])] [(false, [.int .i64 (target x regs)])] := by
  refine PC_of (n := 37) Tryz.func29 rfl rfl rfl rfl (by simp) ?_
  refine W_seqK fun K1 h1 => ?_
  refine W_reg ?_
  simp [go_sem, ty3, ty68]
  repeat refine tk ?_
  refine h1 _ ?_
  clear h1 K1
  refine W_seqK fun K2 h2 => ?_
  refine W_seqK fun K3 h3 => ?_
  refine W_reg ?_
  simp [go_sem, ty4, ty68]
  refine callA (fun hG => pc_spec_InsOk x) (fun hG => by simp [go_sem]) rfl rfl ?_
  simp [go_sem, ty3, ty4, ty22, ty68]
  repeat refine tk ?_
  refine h3 _ ?_
  clear h3 K3
  refine W_cond rfl (fun hb4 => ?_) fun hb4 => ?_
  · have qt : target x regs = -1 := by unfold target; rw [if_neg]; simp [aims] at hb4 ⊢; grind
    clear hb4
    refine W_seqK fun K5 h5 => ?_
    refine W_reg ?_
    simp [go_sem, ty3]
    repeat refine tk ?_
    refine h5 _ ?_
    clear h5 K5
    refine W_ret ?_
    simp [go_sem, qt]
  · obtain ⟨qi, qa, ql⟩ : insOk x = true ∧ aims x = true ∧ regs.length = 4 := by simp [aims] at hb4 ⊢; grind
    clear hb4
    obtain ⟨-, -, ⟨qa0, qa3⟩, -, -⟩ := insOk_range qi
    have qa1 : x.a < (regs.length : Int) := by omega
    have qa2 : x.a.toNat < regs.length := by omega
    have qt : target x regs = addr (IntKind.wrap .i64 (regs[x.a.toNat] + x.n)) := by unfold target; rw [if_pos ⟨qi, qa, ql⟩]; simp [qa2]
    refine W_skip ?_
    repeat refine tk ?_
    refine h2 _ ?_
    clear h2 K2
    refine W_seqK fun K6 h6 => ?_
    refine W_drawT true mixed (by decide +kernel) ?_
    simp [go_sem, ty3, ty22, ty68, qa0, qa1, qa2]
    refine callA (fun hG => pc_spec_l9Address (IntKind.wrap .i64 (regs[x.a.toNat] + x.n))) (fun hG => by simp [go_sem]) rfl rfl ?_
    simp [go_sem, ty3, qa0, qa1, qa2]
    repeat refine tk ?_
    refine h6 _ ?_
    clear h6 K6
    refine W_ret ?_
    simp [go_sem, qt]

set_option maxRecDepth 100000 in
set_option maxHeartbeats 4000000 in
theorem pc_impl_Target (x : GIns) (regs : List Int)  : PC Tryz.prog 48 [(true, eIns x), (false, [.sl 1 (enc eI regs)])] [(false, [.int .i64 (target x regs)])] := by
  refine PC_of (n := 27) Tryz.func48 rfl rfl rfl rfl (by simp) ?_
  refine W_seqK fun K1 h1 => ?_
  refine W_reg ?_
  simp [go_sem, ty3, ty68]
  repeat refine tk ?_
  refine h1 _ ?_
  clear h1 K1
  refine W_seqK fun K2 h2 => ?_
  refine W_seqK fun K3 h3 => ?_
  refine W_reg ?_
  simp [go_sem, ty4, ty68]
  refine callA (fun hG => pc_impl_InsOk x) (fun hG => by simp [go_sem]) rfl rfl ?_
  simp [go_sem, ty4, ty68]
  refine callA (fun hG => pc_impl_aims x) (fun hG => by simp [go_sem]) rfl rfl ?_
  simp [go_sem, ty3, ty4, ty22]
  repeat refine tk ?_
  refine h3 _ ?_
  clear h3 K3
  refine W_cond rfl (fun hb4 => ?_) fun hb4 => ?_
  · have qt : target x regs = -1 := by unfold target; rw [if_neg]; simp [aims] at hb4 ⊢; grind
    clear hb4
    refine W_seqK fun K5 h5 => ?_
    refine W_reg ?_
    simp [go_sem, ty3]
    repeat refine tk ?_
    refine h5 _ ?_
    clear h5 K5
    refine W_ret ?_
    simp [go_sem, qt]
  · obtain ⟨qi, qa, ql⟩ : insOk x = true ∧ aims x = true ∧ regs.length = 4 := by simp [aims] at hb4 ⊢; grind
    clear hb4
    obtain ⟨-, -, ⟨qa0, qa3⟩, -, -⟩ := insOk_range qi
    have qa1 : x.a < (regs.length : Int) := by omega
    have qa2 : x.a.toNat < regs.length := by omega
    have qt : target x regs = addr (IntKind.wrap .i64 (regs[x.a.toNat] + x.n)) := by unfold target; rw [if_pos ⟨qi, qa, ql⟩]; simp [qa2]
    refine W_skip ?_
    repeat refine tk ?_
    refine h2 _ ?_
    clear h2 K2
    refine W_seqK fun K6 h6 => ?_
    refine W_drawT true mixed (by decide +kernel) ?_
    simp [go_sem, ty3, ty22, ty68, qa0, qa1, qa2]
    refine callA (fun hG => pc_impl_address (IntKind.wrap .i64 (regs[x.a.toNat] + x.n))) (fun hG => by simp [go_sem]) rfl rfl ?_
    simp [go_sem, ty3, qa0, qa1, qa2]
    repeat refine tk ?_
    refine h6 _ ?_
    clear h6 K6
    refine W_ret ?_
    simp [go_sem, qt]
end Go.Tw
