/- Walks of functions: impl.Queue, spec.Queue, spec.FrameRead, spec.FrameWrite -/
import Derived.Test.YtjfjnpbeboafkaaGreatG8u1
set_option linter.unusedSimpArgs false
set_option linter.unusedVariables false
set_option linter.unnecessarySimpa false
namespace Go.Tw
open Go.Proofs

set_option maxRecDepth 100000 in
set_option maxHeartbeats 4000000 in
theorem pc_impl_Queue (s : GSender) (m : GMsg) (hs : s.small) (hm : m.small) : PC Tryz.prog 111 [(true, eSender s), (true, eMsg m)] [(true, eSender (queueS s m)), (false, [.bool (queueB s m)])] := by
  have hs1 := hs
  unfold GSender.small at hs1
  obtain ⟨q1, q2⟩ := hs1
  have hm1 := hm
  unfold GMsg.small at hm1
  refine PC_of (n := 40) Tryz.func111 rfl rfl rfl rfl (by simp) ?_
  refine W_seqK fun K1 h1 => ?_
  refine W_reg ?_
  simp [go_sem, ty4, ty136, ty159]
  repeat refine tk ?_
  refine h1 _ ?_
  clear h1 K1
  refine W_seqK fun K2 h2 => ?_
  refine W_reg ?_
  simp [go_sem, ty136]
  refine callA (fun hG => pc_impl_copySender s (by first | assumption | omega)) (fun hG => by simp [go_sem]) rfl rfl ?_
  simp [go_sem, ty136]
  repeat refine tk ?_
  refine h2 _ ?_
  clear h2 K2
  refine W_seqK fun K3 h3 => ?_
  refine W_seqK fun K4 h4 => ?_
  refine W_reg ?_
  simp [go_sem, ty4, ty136]
  refine callA (fun hG => pc_impl_SenderOk s (by first | assumption | omega) (by first | assumption | omega)) (fun hG => by simp [go_sem]) rfl rfl ?_
  simp [go_sem, ty4, ty159]
  refine callA (fun hG => pc_impl_MsgOk m (by first | assumption | omega)) (fun hG => by simp [go_sem]) rfl rfl ?_
  simp [go_sem, ty3, ty4, ty134, ty136, ty159]
  repeat refine tk ?_
  refine h4 _ ?_
  clear h4 K4
  refine W_cond rfl (fun hb5 => ?_) fun hb5 => ?_
  · have qk : queueB s m = false := by (rw [queueB_test]; simp at hb5 ⊢; grind)
    have q := queueS_no qk
    clear hb5
    refine W_seqK fun K6 h6 => ?_
    refine W_reg ?_
    simp [go_sem, ty4, ty136]
    repeat refine tk ?_
    refine h6 _ ?_
    clear h6 K6
    refine W_ret ?_
    simp [go_sem, ty136, q, qk]
  · have qk : queueB s m = true := by (rw [queueB_test]; simp at hb5 ⊢; grind)
    have q := queueS_yes qk
    obtain ⟨z1, z2, z3, z4⟩ := queueB_ok qk
    clear hb5
    refine W_skip ?_
    repeat refine tk ?_
    refine h3 _ ?_
    clear h3 K3
    refine W_seqK fun K7 h7 => ?_
    refine W_drawT true mixed (by decide +kernel) ?_
    simp [go_sem, ty134, ty136, ty159]
    refine callA (fun hG => pc_impl_copyMsg m (by first | assumption | omega)) (fun hG => by simp [go_sem]) rfl rfl ?_
    simp [go_sem, ty134, ty136, ty159]
    repeat refine tk ?_
    refine h7 _ ?_
    clear h7 K7
    refine W_seqK fun K8 h8 => ?_
    refine W_reg ?_
    simp [go_sem, ty4, ty136]
    repeat refine tk ?_
    refine h8 _ ?_
    clear h8 K8
    refine W_ret ?_
    simp [go_sem, ty136, q, qk]

set_option maxRecDepth 100000 in
set_option maxHeartbeats 4000000 in
theorem pc_spec_Queue (s : GSender) (m : GMsg) (hs : s.small) (hm : m.small) : PC Tryz.prog 151 [(true, eSender s), (true, eMsg m)] [(true, eSender (queueS s m)), (false, [.bool (queueB s m)])] := by
  have hs1 := hs
  unfold GSender.small at hs1
  obtain ⟨q1, q2⟩ := hs1
  have hm1 := hm
  unfold GMsg.small at hm1
  refine PC_of (n := 41) Tryz.func151 rfl rfl rfl rfl (by simp) ?_
  refine W_seqK fun K1 h1 => ?_
  refine W_reg ?_
  simp [go_sem, ty4, ty136, ty159]
  repeat refine tk ?_
  refine h1 _ ?_
  clear h1 K1
  refine W_seqK fun K2 h2 => ?_
  refine W_reg ?_
  simp [go_sem, ty136]
  refine callA (fun hG => pc_spec_l2Sender s (by first | assumption | omega)) (fun hG => by simp [go_sem]) rfl rfl ?_
  simp [go_sem, ty136]
  repeat refine tk ?_
  refine h2 _ ?_
  clear h2 K2
  refine W_seqK fun K3 h3 => ?_
  refine W_seqK fun K4 h4 => ?_
  refine W_reg ?_
  simp [go_sem, ty4, ty136]
  refine callA (fun hG => pc_spec_SenderOk s (by first | assumption | omega) (by first | assumption | omega)) (fun hG => by simp [go_sem]) rfl rfl ?_
  simp [go_sem, ty4, ty159]
  refine callA (fun hG => pc_spec_MsgOk m (by first | assumption | omega)) (fun hG => by simp [go_sem]) rfl rfl ?_
  simp [go_sem, ty3, ty4, ty134, ty136, ty159]
  repeat refine tk ?_
  refine h4 _ ?_
  clear h4 K4
  refine W_cond rfl (fun hb5 => ?_) fun hb5 => ?_
  · have qk : queueB s m = false := by (rw [queueB_test]; simp at hb5 ⊢; grind)
    have q := queueS_no qk
    clear hb5
    refine W_seqK fun K6 h6 => ?_
    refine W_reg ?_
    simp [go_sem, ty4, ty136]
    repeat refine tk ?_
    refine h6 _ ?_
    clear h6 K6
    refine W_ret ?_
    simp [go_sem, ty136, q, qk]
  · have qk : queueB s m = true := by (rw [queueB_test]; simp at hb5 ⊢; grind)
    have q := queueS_yes qk
    obtain ⟨z1, z2, z3, z4⟩ := queueB_ok qk
    clear hb5
    refine W_skip ?_
    repeat refine tk ?_
    refine h3 _ ?_
    clear h3 K3
    refine W_seqK fun K7 h7 => ?_
    refine W_drawT true mixed (by decide +kernel) ?_
    simp [go_sem, ty134, ty136, ty159]
    refine callA (fun hG => pc_spec_l1Msg m (by first | assumption | omega)) (fun hG => by simp [go_sem]) rfl rfl ?_
    simp [go_sem, ty134, ty136, ty159]
    repeat refine tk ?_
    refine h7 _ ?_
    clear h7 K7
    refine W_seqK fun K8 h8 => ?_
    refine W_reg ?_
    simp [go_sem, ty4, ty136]
    repeat refine tk ?_
    refine h8 _ ?_
    clear h8 K8
    refine W_ret ?_
    simp [go_sem, ty136, q, qk]

set_option maxRecDepth 100000 in
set_option maxHeartbeats 4000000 in
theorem pc_spec_FrameRead (f : GFrame) (i : Int) (hx : f.list.length ≤ 1048576) : PC Tryz.prog 31 [(true, eFrame f), (false, [.int .i64 i])] [(false, [.int .i64 (frV f i)]), (false, [.bool (frB f i)])] := by
  refine PC_of (n := 23) Tryz.func31 rfl rfl rfl rfl (by simp) ?_
  refine W_seqK fun K1 h1 => ?_
  refine W_reg ?_
  simp [go_sem, ty3, ty4, ty65]
  repeat refine tk ?_
  refine h1 _ ?_
  clear h1 K1
  refine W_seqK fun K2 h2 => ?_
  refine W_seqK fun K3 h3 => ?_
  refine W_reg ?_
  simp [go_sem, ty4, ty65]
  refine callA (fun hG => pc_spec_FrameOk f (by omega)) (fun hG => by simp [go_sem]) rfl rfl ?_
  simp [go_sem, ty3, ty4, ty22, ty65]
  refine callA (fun hG => pc_spec_l1In i 0 (IntKind.wrap .i64 ((f.list.length : Int) - 1))) (fun hG => by simp [go_sem]) rfl rfl ?_
  simp [go_sem, ty4]
  repeat refine tk ?_
  refine h3 _ ?_
  clear h3 K3
  refine W_cond rfl (fun hb4 => ?_) fun hb4 => ?_
  · have qk : frB f i = false := by unfold frB; simp at hb4 ⊢; grind
    have q : frV f i = 0 := if_neg (by simp [qk])
    clear hb4
    refine W_seqK fun K5 h5 => ?_
    refine W_reg ?_
    simp [go_sem, ty3, ty4]
    repeat refine tk ?_
    refine h5 _ ?_
    clear h5 K5
    refine W_ret ?_
    simp [go_sem, q, qk]
  · have qk : frB f i = true := by unfold frB; simp at hb4 ⊢; grind
    have q : frV f i = f.list.getD i.toNat 0 := if_pos qk
    have qr : 0 ≤ i ∧ i < f.list.length := by (unfold frB at qk; simp [inR] at qk; have hw : IntKind.wrap .i64 ((f.list.length : Int) - 1) = (f.list.length : Int) - 1 := wrap_ok (by omega) (by omega); omega)
    have qr0 := qr.1
    have qr1 := qr.2
    have qr2 : i.toNat < f.list.length := by omega
    clear hb4
    refine W_skip ?_
    repeat refine tk ?_
    refine h2 _ ?_
    clear h2 K2
    refine W_seqK fun K6 h6 => ?_
    refine W_reg ?_
    simp [go_sem, ty3, ty4, ty22, ty65, qr0, qr1, qr2]
    repeat refine tk ?_
    refine h6 _ ?_
    clear h6 K6
    refine W_ret ?_
    simp [go_sem, q, qk, qr2]

set_option maxRecDepth 100000 in
set_option maxHeartbeats 4000000 in
theorem pc_spec_FrameWrite (f : GFrame) (i : Int) (w : Int) (hx : f.list.length ≤ 1048576) : PC Tryz.prog 33 [(true, eFrame f), (false, [.int .i64 i]), (false, [.int .i64 w])] [(true, eFrame (fwF f i w)), (false, [.bool (fwB f i w)])] := by
  refine PC_of (n := 36) Tryz.func33 rfl rfl rfl rfl (by simp) ?_
  refine W_seqK fun K1 h1 => ?_
  refine W_reg ?_
  simp [go_sem, ty4, ty65]
  repeat refine tk ?_
  refine h1 _ ?_
  clear h1 K1
  refine W_seqK fun K2 h2 => ?_
  refine W_reg ?_
  simp [go_sem, ty65]
  refine callA (fun hG => pc_spec_l3Copy f (by omega)) (fun hG => by simp [go_sem]) rfl rfl ?_
  simp [go_sem, ty65]
  repeat refine tk ?_
  refine h2 _ ?_
  clear h2 K2
  refine W_seqK fun K3 h3 => ?_
  refine W_seqK fun K4 h4 => ?_
  refine W_reg ?_
  simp [go_sem, ty4, ty65]
  refine callA (fun hG => pc_spec_FrameOk f (by omega)) (fun hG => by simp [go_sem]) rfl rfl ?_
  simp [go_sem, ty3, ty4, ty65]
  refine callA (fun hG => pc_spec_l1In i 0 3) (fun hG => by simp [go_sem]) rfl rfl ?_
  simp [go_sem, ty3, ty4]
  refine callA (fun hG => pc_spec_l1In w 0 65535) (fun hG => by simp [go_sem]) rfl rfl ?_
  simp [go_sem, ty4]
  repeat refine tk ?_
  refine h4 _ ?_
  clear h4 K4
  refine W_cond rfl (fun hb5 => ?_) fun hb5 => ?_
  · have qk : fwB f i w = false := by unfold fwB; simp at hb5 ⊢; grind
    have q : fwF f i w = f := if_neg (by simp [qk])
    clear hb5
    refine W_seqK fun K6 h6 => ?_
    refine W_reg ?_
    simp [go_sem, ty4, ty65]
    repeat refine tk ?_
    refine h6 _ ?_
    clear h6 K6
    refine W_ret ?_
    simp [go_sem, ty65, q, qk]
  · have qk : fwB f i w = true := by unfold fwB; simp at hb5 ⊢; grind
    have q : fwF f i w = { f with list := f.list.set i.toNat w } := if_pos qk
    obtain ⟨qr0, qr3, qr1, qr2⟩ := fw_facts qk
    clear hb5
    refine W_skip ?_
    repeat refine tk ?_
    refine h3 _ ?_
    clear h3 K3
    refine W_seqK fun K7 h7 => ?_
    refine W_reg ?_
    simp [go_sem, ty3, ty22, ty65, qr0, qr1, qr2]
    repeat refine tk ?_
    refine h7 _ ?_
    clear h7 K7
    refine W_seqK fun K8 h8 => ?_
    refine W_reg ?_
    simp [go_sem, ty4, ty65, qr0, qr1, qr2]
    repeat refine tk ?_
    refine h8 _ ?_
    clear h8 K8
    refine W_ret ?_
    simp [go_sem, ty65, q, qk]
end Go.Tw
