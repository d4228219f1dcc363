/- Walks of functions: impl.copyFrame, spec.l3Copy, impl.copyHome, spec.l4Copy, impl.copySender, spec.l2Sender, impl.lacks, spec.l5Less -/
import Derived.Test.YtjfjnpbeboafkaaGreatG8r
import Derived.Test.YtjfjnpbeboafkaaGreatBaseG
set_option linter.unusedSimpArgs false
set_option linter.unusedVariables false
set_option linter.unnecessarySimpa false
namespace Go.Tw
open Go.Proofs

set_option maxRecDepth 100000 in
set_option maxHeartbeats 4000000 in
theorem pc_impl_copyFrame (f : GFrame) (hx : f.list.length ≤ 1048576) : PC Tryz.prog 107 [(true, eFrame f)] [(true, eFrame f)] := by
  refine PC_of (n := 8) Tryz.func107 rfl rfl rfl rfl (by simp) ?_
  refine W_seqK fun K1 h1 => ?_
  refine W_reg ?_
  simp [go_sem, ty65]
  repeat refine tk ?_
  refine h1 _ ?_
  clear h1 K1
  refine W_seqK fun K2 h2 => ?_
  refine W_reg ?_
  simp [go_sem, ty3, ty22, ty65]
  refine callA (fun hG => pc_slices_Clone_int_int f.list (by omega)) (fun hG => by simp [go_sem]) rfl rfl ?_
  simp [go_sem, ty3, ty22, ty65]
  repeat refine tk ?_
  refine h2 _ ?_
  clear h2 K2
  refine W_seqK fun K3 h3 => ?_
  refine W_reg ?_
  simp [go_sem, ty65]
  repeat refine tk ?_
  refine h3 _ ?_
  clear h3 K3
  refine W_ret ?_
  simp [go_sem, ty65]

set_option maxRecDepth 100000 in
set_option maxHeartbeats 4000000 in
theorem pc_spec_l3Copy (f : GFrame) (hx : f.list.length ≤ 1048576) : PC Tryz.prog 80 [(true, eFrame f)] [(true, eFrame f)] := by
  refine PC_of (n := 9) Tryz.func80 rfl rfl rfl rfl (by simp) ?_
  refine W_seqK fun K1 h1 => ?_
  refine W_reg ?_
  simp [go_sem, ty65]
  repeat refine tk ?_
  refine h1 _ ?_
  clear h1 K1
  refine W_seqK fun K2 h2 => ?_
  refine W_reg ?_
  simp [go_sem, ty3, ty22, ty65]
  repeat refine tk ?_
  refine h2 _ ?_
  clear h2 K2
  refine W_seqK fun K3 h3 => ?_
  refine W_reg ?_
  simp [go_sem, ty65]
  repeat refine tk ?_
  refine h3 _ ?_
  clear h3 K3
  refine W_ret ?_
  simp [go_sem, ty65]

set_option maxRecDepth 100000 in
set_option maxHeartbeats 4000000 in
theorem pc_impl_copyHome (h : GHome) (hs : h.small) : PC Tryz.prog 108 [(true, eHome h)] [(true, eHome h)] := by
  obtain ⟨q1, q2, q3⟩ := hs
  refine PC_of (n := 16) Tryz.func108 rfl rfl rfl rfl (by simp) ?_
  refine W_seqK fun K1 h1 => ?_
  refine W_reg ?_
  simp [go_sem, ty132]
  repeat refine tk ?_
  refine h1 _ ?_
  clear h1 K1
  refine W_seqK fun K2 h2 => ?_
  refine W_reg ?_
  simp [go_sem, ty3, ty22, ty132]
  refine callA (fun hG => pc_slices_Clone_int_int h.list (by omega)) (fun hG => by simp [go_sem]) rfl rfl ?_
  simp [go_sem, ty3, ty22, ty132]
  repeat refine tk ?_
  refine h2 _ ?_
  clear h2 K2
  refine W_seqK fun K3 h3 => ?_
  refine W_reg ?_
  simp [go_sem, ty4, ty113, ty132]
  refine callA (fun hG => pc_slices_Clone_bool_bool h.readers (by omega)) (fun hG => by simp [go_sem]) rfl rfl ?_
  simp [go_sem, ty4, ty113, ty132]
  repeat refine tk ?_
  refine h3 _ ?_
  clear h3 K3
  refine W_seqK fun K4 h4 => ?_
  refine W_reg ?_
  simp [go_sem, ty129, ty130, ty132]
  refine callA (fun hG => pc_slices_Clone_impl_Wait_impl_Wait h.queue (by omega)) (fun hG => by simp [go_sem]) rfl rfl ?_
  simp [go_sem, ty129, ty130, ty132]
  repeat refine tk ?_
  refine h4 _ ?_
  clear h4 K4
  refine W_seqK fun K5 h5 => ?_
  refine W_reg ?_
  simp [go_sem, ty132]
  repeat refine tk ?_
  refine h5 _ ?_
  clear h5 K5
  refine W_ret ?_
  simp [go_sem, ty132]

set_option maxRecDepth 100000 in
set_option maxHeartbeats 4000000 in
theorem pc_spec_l4Copy (h : GHome) (hs : h.small) : PC Tryz.prog 81 [(true, eHome h)] [(true, eHome h)] := by
  obtain ⟨q1, q2, q3⟩ := hs
  refine PC_of (n := 19) Tryz.func81 rfl rfl rfl rfl (by simp) ?_
  refine W_seqK fun K1 h1 => ?_
  refine W_reg ?_
  simp [go_sem, ty132]
  repeat refine tk ?_
  refine h1 _ ?_
  clear h1 K1
  refine W_seqK fun K2 h2 => ?_
  refine W_reg ?_
  simp [go_sem, ty3, ty22, ty132]
  repeat refine tk ?_
  refine h2 _ ?_
  clear h2 K2
  refine W_seqK fun K3 h3 => ?_
  refine W_reg ?_
  simp [go_sem, ty4, ty113, ty132]
  repeat refine tk ?_
  refine h3 _ ?_
  clear h3 K3
  refine W_seqK fun K4 h4 => ?_
  refine W_reg ?_
  simp [go_sem, ty129, ty130, ty132]
  repeat refine tk ?_
  refine h4 _ ?_
  clear h4 K4
  refine W_seqK fun K5 h5 => ?_
  refine W_reg ?_
  simp [go_sem, ty132]
  repeat refine tk ?_
  refine h5 _ ?_
  clear h5 K5
  refine W_ret ?_
  simp [go_sem, ty132]

set_option maxRecDepth 100000 in
set_option maxHeartbeats 4000000 in
theorem pc_impl_copySender (s : GSender) (hs : s.small) : PC Tryz.prog 109 [(true, eSender s)] [(true, eSender s)] := by
  have hs1 := hs
  unfold GSender.small at hs1
  obtain ⟨q1, q2⟩ := hs1
  refine PC_of (n := 25) Tryz.func109 rfl rfl rfl rfl (by simp) ?_
  refine W_seqK fun K1 h1 => ?_
  refine W_reg ?_
  simp [go_sem, ty136]
  repeat refine tk ?_
  refine h1 _ ?_
  clear h1 K1
  refine W_seqK fun K2 h2 => ?_
  refine W_reg ?_
  simp [go_sem, ty3, ty136, fw136]
  repeat refine tk ?_
  refine h2 _ ?_
  clear h2 K2
  refine W_seqK fun K3 h3 => ?_
  refine W_seqK fun K4 h4 => ?_
  refine W_reg ?_
  simp [go_sem, ty3, ty134, ty136, ty159]
  repeat refine tk ?_
  refine h4 _ ?_
  clear h4 K4
  refine W_block ?_
  refine W_loopI (α := Nat) (fun i => ({ env := [(2, true, .l (.ptr 3 0)), (3, true, .l (.ptr 4 0)), (10, true, .l (.ref 1 [] 4 0 (s.queue).length)), (11, true, .l (.t (.int .i64 ((s.queue.length : Int))))), (12, true, .l (.t (.int .i64 (i))))], box := [(3, [.t (.int .i64 0), .nil]), (4, [.t (.int .i64 s.base), .ref 44 [] 4 0 (s.queue.take i).length])], row := [(1, ⟨.ro, 4, enc eMsg s.queue⟩), (44, ⟨.own, 4, enc eMsg (s.queue.take i)⟩)], nxt := 64, sav := [] } : St)) (fun i => i ≤ s.queue.length) (fun i => s.queue.length - i) 0 ?_ ?_ ?_
  · exact (Sub.nilBox (k := 4) (j := 1) (nm := 44) (z := 4) (by rfl) (by rfl) (by rfl)).trans (Sub.of_neat [2, 3, 10, 11, 12] [1, 44] [3, 4] 64 (by decide) (by simp [go_sem, enc_nil]))
  · exact Nat.zero_le _
  rintro i hinv
  refine W_seqK fun K6 h6 => ?_
  refine W_reg ?_
  simp [go_sem, ty3]
  repeat refine tk ?_
  refine h6 _ ?_
  clear h6 K6
  refine W_seqK fun K7 h7 => ?_
  refine W_cond rfl (fun hb8 => ?_) fun hb8 => ?_
  · have hlt_i : i < s.queue.length := by simpa using hb8
    have hmin_i : min i s.queue.length = i := by omega
    have hmin2_i : min (i + 1) s.queue.length = i + 1 := by omega
    have htk_i := List.take_append_getElem hlt_i
    clear hb8
    refine W_skip ?_
    repeat refine tk ?_
    refine h7 _ ?_
    clear h7 K7
    refine W_seqK fun K9 h9 => ?_
    refine W_block ?_
    refine W_seqK fun K10 h10 => ?_
    refine W_reg ?_
    simp [go_sem, ty134, ty159, hlt_i, hmin_i]
    repeat refine tk ?_
    refine h10 _ ?_
    clear h10 K10
    refine W_drawT true mixed (by decide +kernel) ?_
    simp [go_sem, ty134, ty136, ty159, hlt_i, hmin_i]
    refine callA (fun hG => pc_impl_copyMsg s.queue[i] (by first | assumption | omega | exact q2 _ (List.getElem_mem (by assumption)))) (fun hG => by simp [go_sem, hlt_i, hmin_i]) rfl rfl ?_
    simp [go_sem, ty134, ty136, ty159, hlt_i, hmin_i]
    repeat refine tk ?_
    refine h9 _ ?_
    clear h9 K9
    refine W_reg ?_
    simp [go_sem, ty3, hlt_i, hmin_i]
    refine ⟨i + 1, ?_, ?_, ?_⟩
    · exact (Sub.swp_row 71 44 rfl).trans (Sub.of_neat [2, 3, 10, 11, 12] [1, 44] [3, 4] 64 (by decide) (by simp [go_sem, wrap_succ (show i < 9223372036854775807 by omega), hlt_i, hmin_i, hmin2_i, htk_i]))
    · exact hlt_i
    · omega
  · have hil_i : i = s.queue.length := by simp at hb8; omega
    clear hb8
    refine W_exit ?_
    simp [go_sem]
    repeat refine tk ?_
    refine h3 _ ?_
    clear h7 K7 h3 K3
    refine W_seqK fun K11 h11 => ?_
    refine W_reg ?_
    simp [go_sem, ty136, hil_i]
    repeat refine tk ?_
    refine h11 _ ?_
    clear h11 K11
    refine W_ret ?_
    simp [go_sem, ty136, hil_i]

set_option maxRecDepth 100000 in
set_option maxHeartbeats 4000000 in
theorem pc_spec_l2Sender (s : GSender) (hs : s.small) : PC Tryz.prog 82 [(true, eSender s)] [(true, eSender s)] := by
  have hs1 := hs
  unfold GSender.small at hs1
  obtain ⟨q1, q2⟩ := hs1
  refine PC_of (n := 27) Tryz.func82 rfl rfl rfl rfl (by simp) ?_
  refine W_seqK fun K1 h1 => ?_
  refine W_reg ?_
  simp [go_sem, ty136]
  repeat refine tk ?_
  refine h1 _ ?_
  clear h1 K1
  refine W_seqK fun K2 h2 => ?_
  refine W_reg ?_
  simp [go_sem, ty3, ty136, fw136]
  repeat refine tk ?_
  refine h2 _ ?_
  clear h2 K2
  refine W_seqK fun K3 h3 => ?_
  refine W_seqK fun K4 h4 => ?_
  refine W_reg ?_
  simp [go_sem, ty3]
  repeat refine tk ?_
  refine h4 _ ?_
  clear h4 K4
  refine W_block ?_
  refine W_loopI (α := Nat) (fun i => ({ env := [(1, true, .l (.ptr 2 0)), (2, true, .l (.ptr 3 0)), (3, true, .l (.ptr 4 0)), (4, true, .l (.t (.int .i64 (i))))], box := [(2, [.t (.int .i64 s.base), .ref 1 [] 4 0 (s.queue).length]), (3, [.t (.int .i64 0), .nil]), (4, [.t (.int .i64 s.base), .ref 44 [] 4 0 (s.queue.take i).length])], row := [(1, ⟨.ro, 4, enc eMsg s.queue⟩), (44, ⟨.own, 4, enc eMsg (s.queue.take i)⟩)], nxt := 64, sav := [] } : St)) (fun i => i ≤ s.queue.length) (fun i => s.queue.length - i) 0 ?_ ?_ ?_
  · exact (Sub.nilBox (k := 4) (j := 1) (nm := 44) (z := 4) (by rfl) (by rfl) (by rfl)).trans (Sub.of_neat [1, 2, 3, 4] [1, 44] [2, 3, 4] 64 (by decide) (by simp [go_sem, enc_nil]))
  · exact Nat.zero_le _
  rintro i hinv
  refine W_seqK fun K6 h6 => ?_
  refine W_seqK fun K7 h7 => ?_
  refine W_reg ?_
  simp [go_sem, ty3, ty4, ty134, ty136, ty159]
  repeat refine tk ?_
  refine h7 _ ?_
  clear h7 K7
  refine W_cond rfl (fun hb8 => ?_) fun hb8 => ?_
  · have hlt_i : i < s.queue.length := by simpa using hb8
    have hmin_i : min i s.queue.length = i := by omega
    have hmin2_i : min (i + 1) s.queue.length = i + 1 := by omega
    have htk_i := List.take_append_getElem hlt_i
    clear hb8
    refine W_skip ?_
    repeat refine tk ?_
    refine h6 _ ?_
    clear h6 K6
    refine W_seqK fun K9 h9 => ?_
    refine W_block ?_
    refine W_drawO true [0, 1, 2, 4, 3, 5, 6, 7, 8, 9, 10, 11] mixed (by decide +kernel) ?_
    simp [go_sem, ty3, ty134, ty136, ty159, hlt_i, hmin_i]
    refine callA (fun hG => pc_spec_l1Msg s.queue[i] (by first | assumption | omega | exact q2 _ (List.getElem_mem (by assumption)))) (fun hG => by simp [go_sem, hlt_i, hmin_i]) rfl rfl ?_
    simp [go_sem, ty134, ty136, ty159, hlt_i, hmin_i]
    repeat refine tk ?_
    refine h9 _ ?_
    clear h9 K9
    refine W_reg ?_
    simp [go_sem, ty3, hlt_i, hmin_i]
    refine ⟨i + 1, ?_, ?_, ?_⟩
    · exact (Sub.swp_row 69 44 rfl).trans (Sub.of_neat [1, 2, 3, 4] [1, 44] [2, 3, 4] 64 (by decide) (by simp [go_sem, wrap_succ (show i < 9223372036854775807 by omega), hlt_i, hmin_i, hmin2_i, htk_i]))
    · exact hlt_i
    · omega
  · have hil_i : i = s.queue.length := by simp at hb8; omega
    clear hb8
    refine W_exit ?_
    simp [go_sem]
    repeat refine tk ?_
    refine h3 _ ?_
    clear h6 K6 h3 K3
    refine W_seqK fun K10 h10 => ?_
    refine W_reg ?_
    simp [go_sem, ty136, hil_i]
    repeat refine tk ?_
    refine h10 _ ?_
    clear h10 K10
    refine W_ret ?_
    simp [go_sem, ty136, hil_i]

set_option maxRecDepth 100000 in
set_option maxHeartbeats 4000000 in
theorem pc_impl_lacks (f : GFrame) (own : Bool)  : PC Tryz.prog 49 [(true, eFrame f), (false, [.bool own])] [(false, [.bool (lacks f own)])] := by
  refine PC_of (n := 16) Tryz.func49 rfl rfl rfl rfl (by simp) ?_
  refine W_seqK fun K1 h1 => ?_
  refine W_reg ?_
  simp [go_sem, ty4, ty65]
  repeat refine tk ?_
  refine h1 _ ?_
  clear h1 K1
  refine W_seqK fun K2 h2 => ?_
  refine W_reg ?_
  simp [go_sem, ty3, ty4, ty65]
  repeat refine tk ?_
  refine h2 _ ?_
  clear h2 K2
  refine W_ret ?_
  simp [go_sem, lacks]
  rw [Bool.eq_iff_iff]; simp

set_option maxRecDepth 100000 in
set_option maxHeartbeats 4000000 in
theorem pc_spec_l5Less (f : GFrame) (own : Bool)  : PC Tryz.prog 30 [(true, eFrame f), (false, [.bool own])] [(false, [.bool (lessB f own)])] := by
  refine PC_of (n := 16) Tryz.func30 rfl rfl rfl rfl (by simp) ?_
  refine W_seqK fun K1 h1 => ?_
  refine W_reg ?_
  simp [go_sem, ty4, ty65]
  repeat refine tk ?_
  refine h1 _ ?_
  clear h1 K1
  refine W_seqK fun K2 h2 => ?_
  refine W_reg ?_
  simp [go_sem, ty3, ty4, ty65]
  repeat refine tk ?_
  refine h2 _ ?_
  clear h2 K2
  refine W_ret ?_
  simp [go_sem, lessB]
  rw [Bool.eq_iff_iff]; simp
end Go.Tw
