/- Walks of functions: impl.InsOk, spec.l8Has, spec.l8Field, spec.InsOk, spec.Decode, impl.Decode, spec.l9Address, impl.address, spec.l9Word, impl.wrapped, impl.aims, spec.HartOk, impl.HartOk, spec.l9Copy, impl.copyHart, impl.Ends, spec.Ends, impl.BlockOk, spec.BlockOk, impl.PageOf, spec.PageOf -/
import Derived.Test.YtjfjnpbeboafkaaGreatG8a
import Derived.Test.YtjfjnpbeboafkaaGreatBaseG
set_option linter.unusedSimpArgs false
set_option linter.unusedVariables false
set_option linter.unnecessarySimpa false
namespace Go.Tw
open Go.Proofs

set_option maxRecDepth 100000 in
set_option maxHeartbeats 4000000 in
theorem pc_impl_InsOk (x : GIns)  : PC Tryz.prog 118 [(true, eIns x)] [(false, [.bool (insOk x)])] := by
  refine PC_of (n := 59) Tryz.func118 rfl rfl rfl rfl (by simp) ?_
  refine W_seqK fun K1 h1 => ?_
  refine W_reg ?_
  simp [go_sem, ty4, ty68]
  repeat refine tk ?_
  refine h1 _ ?_
  clear h1 K1
  refine W_seqK fun K2 h2 => ?_
  refine W_reg ?_
  simp [go_sem, ty3, ty68]
  refine callA (fun hG => pc_impl_form x.op) (fun hG => by simp [go_sem]) rfl rfl ?_
  simp [go_sem, ty4, ty9]
  repeat refine tk ?_
  refine h2 _ ?_
  clear h2 K2
  refine W_seqK fun K3 h3 => ?_
  refine W_reg ?_
  simp [go_sem, ty3, ty68, fw68]
  repeat refine tk ?_
  refine h3 _ ?_
  clear h3 K3
  refine W_seqK fun K4 h4 => ?_
  refine W_seqK fun K5 h5 => ?_
  refine W_reg ?_
  simp [go_sem, ty3, ty9]
  repeat refine tk ?_
  refine h5 _ ?_
  clear h5 K5
  refine W_block ?_
  refine W_loopI (α := Nat) (fun i => ({ env := [(1, true, .l (.ptr 5 0)), (3, true, .l (.t (.str (formS x.op)))), (4, true, .l (.t (.bool (formOk x.op)))), (5, true, .l (.ptr 8 0)), (17, true, .l (.t (.int .i64 ((formS x.op).size)))), (18, true, .l (.t (.int .i64 (i))))], box := [(8, [.t (.int .i64 (restN (formS x.op) x i).op), .t (.int .i64 (restN (formS x.op) x i).r), .t (.int .i64 (restN (formS x.op) x i).a), .t (.int .i64 (restN (formS x.op) x i).b), .t (.int .i64 (restN (formS x.op) x i).n)]), (5, [.t (.int .i64 x.op), .t (.int .i64 x.r), .t (.int .i64 x.a), .t (.int .i64 x.b), .t (.int .i64 x.n)])], row := [], nxt := 9, sav := [] } : St)) (fun i => i ≤ (formS x.op).size) (fun i => (formS x.op).size - i) 0 ?_ ?_ ?_
  · exact Sub.of_neat [1, 3, 4, 5, 17, 18] [] [8, 5] 9 (by decide) (by simp [go_sem, restN])
  · exact Nat.zero_le _
  rintro i hinv
  have hr : restN (formS x.op) x (i + 1) = upd1 (restN (formS x.op) x i) x (chr (formS x.op) i) := rfl
  have hsz := formS_size x.op
  refine W_seqK fun K7 h7 => ?_
  refine W_reg ?_
  simp [go_sem, ty3, ty4]
  repeat refine tk ?_
  refine h7 _ ?_
  clear h7 K7
  refine W_seqK fun K8 h8 => ?_
  refine W_cond rfl (fun hb9 => ?_) fun hb9 => ?_
  · have hlt : i < (formS x.op).size := by simpa using hb9
    have hcd : chr (formS x.op) i = (((formS x.op).data[i]'(by simpa using hlt)).toNat : Int) := by simp [chr, hlt]
    clear hb9
    refine W_skip ?_
    repeat refine tk ?_
    refine h8 _ ?_
    clear h8 K8
    refine W_seqK fun K10 h10 => ?_
    refine W_block ?_
    refine W_seqK fun K11 h11 => ?_
    refine W_reg ?_
    simp [go_sem, ty3]
    repeat refine tk ?_
    refine h11 _ ?_
    clear h11 K11
    rcases offL_cases (chr (formS x.op) i) with ⟨hc, ho⟩ | ⟨hc, ho⟩ | ⟨hc, ho⟩ | ⟨hc, ho⟩
    · refine W_drawO false [0, 1, 2, 4, 5, 6, 3, 7, 8, 9, 10, 11] mixed (by decide +kernel) ?_
      rw [hcd] at ho
      simp [go_sem, ty3, ty5, ty9, ty68, hlt, ho]
      refine callG_true (by simp) (q_place  ?_)
      simp [go_sem, ty5, ty68, hlt, ho]
      refine callG_true (by simp) (q_place  ?_)
      simp [go_sem, ty3, hlt, ho]
      repeat refine tk ?_
      refine h10 _ ?_
      clear h10 K10
      refine W_reg ?_
      simp [go_sem, ty3]
      refine ⟨i + 1, ?_, ?_, ?_⟩
      · exact Sub.of_neat [1, 3, 4, 5, 17, 18] [] [8, 5] 9 (by decide) (by simp [go_sem, hr, upd1, hc, wrap_succ (show i < 9223372036854775807 by omega)])
      · exact hlt
      · omega
    · refine W_drawO false [0, 1, 2, 4, 5, 6, 3, 7, 8, 9, 10, 11] mixed (by decide +kernel) ?_
      rw [hcd] at ho
      simp [go_sem, ty3, ty5, ty9, ty68, hlt, ho]
      refine callG_true (by simp) (q_place  ?_)
      simp [go_sem, ty5, ty68, hlt, ho]
      refine callG_true (by simp) (q_place  ?_)
      simp [go_sem, ty3, hlt, ho]
      repeat refine tk ?_
      refine h10 _ ?_
      clear h10 K10
      refine W_reg ?_
      simp [go_sem, ty3]
      refine ⟨i + 1, ?_, ?_, ?_⟩
      · exact Sub.of_neat [1, 3, 4, 5, 17, 18] [] [8, 5] 9 (by decide) (by simp [go_sem, hr, upd1, hc, wrap_succ (show i < 9223372036854775807 by omega)])
      · exact hlt
      · omega
    · refine W_drawO false [0, 1, 2, 4, 5, 6, 3, 7, 8, 9, 10, 11] mixed (by decide +kernel) ?_
      rw [hcd] at ho
      simp [go_sem, ty3, ty5, ty9, ty68, hlt, ho]
      refine callG_true (by simp) (q_place  ?_)
      simp [go_sem, ty5, ty68, hlt, ho]
      refine callG_true (by simp) (q_place  ?_)
      simp [go_sem, ty3, hlt, ho]
      repeat refine tk ?_
      refine h10 _ ?_
      clear h10 K10
      refine W_reg ?_
      simp [go_sem, ty3]
      refine ⟨i + 1, ?_, ?_, ?_⟩
      · exact Sub.of_neat [1, 3, 4, 5, 17, 18] [] [8, 5] 9 (by decide) (by simp [go_sem, hr, upd1, hc, wrap_succ (show i < 9223372036854775807 by omega)])
      · exact hlt
      · omega
    · refine W_drawO false [0, 1, 2, 4, 5, 6, 3, 7, 8, 9, 10, 11] mixed (by decide +kernel) ?_
      rw [hcd] at ho
      simp [go_sem, ty3, ty5, ty9, ty68, hlt, ho]
      refine callG_true (by simp) (q_place  ?_)
      simp [go_sem, ty5, ty68, hlt, ho]
      refine callG_true (by simp) (q_place  ?_)
      simp [go_sem, ty3, hlt, ho]
      repeat refine tk ?_
      refine h10 _ ?_
      clear h10 K10
      refine W_reg ?_
      simp [go_sem, ty3]
      refine ⟨i + 1, ?_, ?_, ?_⟩
      · exact Sub.of_neat [1, 3, 4, 5, 17, 18] [] [8, 5] 9 (by decide) (by simp [go_sem, hr, upd1, hc, wrap_succ (show i < 9223372036854775807 by omega)])
      · exact hlt
      · omega
  · obtain rfl : i = (formS x.op).size := by simp at hb9; omega
    clear hb9
    have hfin := insOk_rest x
    refine W_exit ?_
    simp [go_sem]
    repeat refine tk ?_
    refine h4 _ ?_
    clear h8 K8 h4 K4
    refine W_seqK fun K12 h12 => ?_
    refine W_reg ?_
    simp (config := {maxSteps := 10000000}) [go_sem, ty3, ty4, ty68, fk68]
    refine callA (fun hG => pc_impl_from x.r 0 3) (fun hG => by simp [go_sem]) rfl rfl ?_
    simp (config := {maxSteps := 10000000}) [go_sem, ty3, ty4, ty68, fk68]
    refine callA (fun hG => pc_impl_from x.a 0 3) (fun hG => by simp [go_sem]) rfl rfl ?_
    simp (config := {maxSteps := 10000000}) [go_sem, ty3, ty4, ty68, fk68]
    refine callA (fun hG => pc_impl_from x.b 0 3) (fun hG => by simp [go_sem]) rfl rfl ?_
    simp (config := {maxSteps := 10000000}) [go_sem, ty3, ty4, ty68, fk68]
    refine callA (fun hG => pc_impl_from x.n 0 63) (fun hG => by simp [go_sem]) rfl rfl ?_
    simp (config := {maxSteps := 10000000}) [go_sem, ty4, fk68]
    repeat refine tk ?_
    refine h12 _ ?_
    clear h12 K12
    refine W_ret ?_
    simp [go_sem]
    rw [← hfin, Bool.eq_iff_iff]
    simp [GIns.ext_iff]

set_option maxRecDepth 100000 in
set_option maxHeartbeats 4000000 in
theorem pc_spec_l8Has (op : Int)  : PC Tryz.prog 152 [(false, [.int .i64 op])] [(false, [.int .i64 (hasBits op)])] := by
  refine PC_of (n := 10) Tryz.func152 rfl rfl rfl rfl (by simp) ?_
  refine W_seqK fun K1 h1 => ?_
  refine W_reg ?_
  simp [go_sem, ty3]
  repeat refine tk ?_
  refine h1 _ ?_
  clear h1 K1
  refine W_seqK fun K2 h2 => ?_
  refine W_seqK fun K3 h3 => ?_
  refine W_reg ?_
  simp [go_sem, ty3, ty4]
  refine callA (fun hG => pc_spec_l1In op 1 10) (fun hG => by simp [go_sem]) rfl rfl ?_
  simp [go_sem, ty4]
  repeat refine tk ?_
  refine h3 _ ?_
  clear h3 K3
  refine W_cond rfl (fun hb4 => ?_) fun hb4 => ?_
  · have q0 : hasBits op = 0 := by simp [inR] at hb4; unfold hasBits; repeat rw [if_neg (by omega)]
    refine W_seqK fun K5 h5 => ?_
    refine W_reg ?_
    simp [go_sem, ty3]
    repeat refine tk ?_
    refine h5 _ ?_
    clear h5 K5
    refine W_ret ?_
    simp [go_sem, q0]
  · have q10 : op = 1 ∨ op = 2 ∨ op = 3 ∨ op = 4 ∨ op = 5 ∨ op = 6 ∨ op = 7 ∨ op = 8 ∨ op = 9 ∨ op = 10 := by simp [inR] at hb4; omega
    clear hb4
    refine W_skip ?_
    repeat refine tk ?_
    refine h2 _ ?_
    clear h2 K2
    refine W_seqK fun K6 h6 => ?_
    rcases q10 with rfl | rfl | rfl | rfl | rfl | rfl | rfl | rfl | rfl | rfl
    · refine W_reg ?_
      simp [go_sem, ty3, ty22]
      repeat refine tk ?_
      refine h6 _ ?_
      clear h6 K6
      refine W_ret ?_
      simp [go_sem, hasBits]
    · refine W_reg ?_
      simp [go_sem, ty3, ty22]
      repeat refine tk ?_
      refine h6 _ ?_
      clear h6 K6
      refine W_ret ?_
      simp [go_sem, hasBits]
    · refine W_reg ?_
      simp [go_sem, ty3, ty22]
      repeat refine tk ?_
      refine h6 _ ?_
      clear h6 K6
      refine W_ret ?_
      simp [go_sem, hasBits]
    · refine W_reg ?_
      simp [go_sem, ty3, ty22]
      repeat refine tk ?_
      refine h6 _ ?_
      clear h6 K6
      refine W_ret ?_
      simp [go_sem, hasBits]
    · refine W_reg ?_
      simp [go_sem, ty3, ty22]
      repeat refine tk ?_
      refine h6 _ ?_
      clear h6 K6
      refine W_ret ?_
      simp [go_sem, hasBits]
    · refine W_reg ?_
      simp [go_sem, ty3, ty22]
      repeat refine tk ?_
      refine h6 _ ?_
      clear h6 K6
      refine W_ret ?_
      simp [go_sem, hasBits]
    · refine W_reg ?_
      simp [go_sem, ty3, ty22]
      repeat refine tk ?_
      refine h6 _ ?_
      clear h6 K6
      refine W_ret ?_
      simp [go_sem, hasBits]
    · refine W_reg ?_
      simp [go_sem, ty3, ty22]
      repeat refine tk ?_
      refine h6 _ ?_
      clear h6 K6
      refine W_ret ?_
      simp [go_sem, hasBits]
    · refine W_reg ?_
      simp [go_sem, ty3, ty22]
      repeat refine tk ?_
      refine h6 _ ?_
      clear h6 K6
      refine W_ret ?_
      simp [go_sem, hasBits]
    · refine W_reg ?_
      simp [go_sem, ty3, ty22]
      repeat refine tk ?_
      refine h6 _ ?_
      clear h6 K6
      refine W_ret ?_
      simp [go_sem, hasBits]

set_option maxRecDepth 100000 in
set_option maxHeartbeats 4000000 in
theorem pc_spec_l8Field (v : Int) (most : Int) (has : Bool)  : PC Tryz.prog 153 [(false, [.int .i64 v]), (false, [.int .i64 most]), (false, [.bool has])] [(false, [.bool (fld v most has)])] := by
  refine PC_of (n := 17) Tryz.func153 rfl rfl rfl rfl (by simp) ?_
  refine W_seqK fun K1 h1 => ?_
  refine W_reg ?_
  simp [go_sem, ty4]
  repeat refine tk ?_
  refine h1 _ ?_
  clear h1 K1
  refine W_seqK fun K2 h2 => ?_
  refine W_reg ?_
  simp [go_sem, ty3, ty4]
  refine callA (fun hG => pc_spec_l1In v 0 most) (fun hG => by simp [go_sem]) rfl rfl ?_
  simp [go_sem, ty3, ty4]
  repeat refine tk ?_
  refine h2 _ ?_
  clear h2 K2
  refine W_ret ?_
  simp [go_sem, fld]
  first | done | (rw [Bool.eq_iff_iff]; simp) | grind

set_option maxRecDepth 100000 in
set_option maxHeartbeats 4000000 in
theorem pc_spec_InsOk (x : GIns)  : PC Tryz.prog 90 [(true, eIns x)] [(false, [.bool (insOk x)])] := by
  refine PC_of (n := 42) Tryz.func90 rfl rfl rfl rfl (by simp) ?_
  refine W_seqK fun K1 h1 => ?_
  refine W_reg ?_
  simp [go_sem, ty4, ty68]
  repeat refine tk ?_
  refine h1 _ ?_
  clear h1 K1
  refine W_seqK fun K2 h2 => ?_
  refine W_reg ?_
  simp [go_sem, ty3, ty68]
  refine callA (fun hG => pc_spec_l8Has x.op) (fun hG => by simp [go_sem]) rfl rfl ?_
  simp [go_sem, ty3]
  repeat refine tk ?_
  refine h2 _ ?_
  clear h2 K2
  refine W_seqK fun K3 h3 => ?_
  refine W_reg ?_
  simp (config := {maxSteps := 10000000}) [go_sem, ty3, ty4, ty68]
  refine callA (fun hG => pc_spec_l1In x.op 1 10) (fun hG => by simp [go_sem]) rfl rfl ?_
  simp (config := {maxSteps := 10000000}) [go_sem, ty3, ty4, ty68]
  refine callA (fun hG => pc_spec_l8Field x.r 3 (bitN (hasBits x.op) 1)) (fun hG => by simp [go_sem]; exact bit1 _) rfl rfl ?_
  simp (config := {maxSteps := 10000000}) [go_sem, ty3, ty4, ty68]
  refine callA (fun hG => pc_spec_l8Field x.a 3 (bitN (hasBits x.op) 2)) (fun hG => by simp [go_sem]; exact bit2 _) rfl rfl ?_
  simp (config := {maxSteps := 10000000}) [go_sem, ty3, ty4, ty68]
  refine callA (fun hG => pc_spec_l8Field x.b 3 (bitN (hasBits x.op) 4)) (fun hG => by simp [go_sem]; exact bit4 _) rfl rfl ?_
  simp (config := {maxSteps := 10000000}) [go_sem, ty3, ty4, ty68]
  refine callA (fun hG => pc_spec_l8Field x.n 63 (bitN (hasBits x.op) 8)) (fun hG => by simp [go_sem]; exact bit8 _) rfl rfl ?_
  simp (config := {maxSteps := 10000000}) [go_sem, ty4]
  repeat refine tk ?_
  refine h3 _ ?_
  clear h3 K3
  refine W_ret ?_
  rw [← insOk_bits]
  simp [go_sem]

set_option maxRecDepth 100000 in
set_option maxHeartbeats 4000000 in
theorem pc_spec_Decode (w : Int)  : PC Tryz.prog 88 [(false, [.int .i64 w])] [(true, eIns (decode w)), (false, [.bool (decOk w)])] := by
  refine PC_of (n := 28) Tryz.func88 rfl rfl rfl rfl (by simp) ?_
  refine W_seqK fun K1 h1 => ?_
  refine W_reg ?_
  simp [go_sem, ty4, ty68]
  repeat refine tk ?_
  refine h1 _ ?_
  clear h1 K1
  refine W_seqK fun K2 h2 => ?_
  refine W_seqK fun K3 h3 => ?_
  refine W_reg ?_
  simp [go_sem, ty3, ty4]
  refine callA (fun hG => pc_spec_l1In w 0 65535) (fun hG => by simp [go_sem]) rfl rfl ?_
  simp [go_sem, ty4]
  repeat refine tk ?_
  refine h3 _ ?_
  clear h3 K3
  refine W_cond rfl (fun hb4 => ?_) fun hb4 => ?_
  · have q : isW w = false := by simpa [isW] using hb4
    have qo : decOk w = false := by unfold decOk; rw [q]; rfl
    have qd : decode w = ⟨0, 0, 0, 0, 0⟩ := by unfold decode; rw [if_neg (by simp [qo])]
    clear hb4
    refine W_seqK fun K5 h5 => ?_
    refine W_reg ?_
    simp [go_sem, ty4, ty68, fw68]
    repeat refine tk ?_
    refine h5 _ ?_
    clear h5 K5
    refine W_ret ?_
    simp [go_sem, ty68, qo, qd, decIns]
  · have q0 : 0 ≤ w ∧ w ≤ 65535 := by simpa [inR] using hb4
    have qw : isW w = true := by simpa [isW] using hb4
    clear hb4
    have f1 : w.tmod 16 = w % 16 := tmod_pos q0.1
    have f2 : IntKind.wrap .i64 (w.tdiv 16) = w / 16 := by rw [tdiv_pos q0.1, wrap_ok (by omega) (by omega)]
    have f3 : IntKind.wrap .i64 (w.tdiv 64) = w / 64 := by rw [tdiv_pos q0.1, wrap_ok (by omega) (by omega)]
    have f4 : IntKind.wrap .i64 (w.tdiv 256) = w / 256 := by rw [tdiv_pos q0.1, wrap_ok (by omega) (by omega)]
    have f5 : IntKind.wrap .i64 (w.tdiv 1024) = w / 1024 := by rw [tdiv_pos q0.1, wrap_ok (by omega) (by omega)]
    have g2 : (w / 16).tmod 4 = w / 16 % 4 := tmod_pos (by omega)
    have g3 : (w / 64).tmod 4 = w / 64 % 4 := tmod_pos (by omega)
    have g4 : (w / 256).tmod 4 = w / 256 % 4 := tmod_pos (by omega)
    refine W_skip ?_
    repeat refine tk ?_
    refine h2 _ ?_
    clear h2 K2
    refine W_seqK fun K6 h6 => ?_
    refine W_reg ?_
    simp [go_sem, ty3, ty68, fw68, f1, f2, f3, f4, f5, g2, g3, g4]
    repeat refine tk ?_
    refine h6 _ ?_
    clear h6 K6
    refine W_seqK fun K7 h7 => ?_
    refine W_seqK fun K8 h8 => ?_
    refine W_reg ?_
    simp [go_sem, ty4, ty68]
    refine callA (fun hG => pc_spec_InsOk (decIns w)) (fun hG => by simp [go_sem, decIns]) rfl rfl ?_
    simp [go_sem, ty4]
    repeat refine tk ?_
    refine h8 _ ?_
    clear h8 K8
    refine W_cond rfl (fun hb9 => ?_) fun hb9 => ?_
    · have qo : decOk w = false := by unfold decOk; rw [qw]; simpa using hb9
      have qd : decode w = ⟨0, 0, 0, 0, 0⟩ := by unfold decode; rw [if_neg (by simp [qo])]
      clear hb9
      refine W_seqK fun K10 h10 => ?_
      refine W_reg ?_
      simp [go_sem, ty4, ty68, fw68]
      repeat refine tk ?_
      refine h10 _ ?_
      clear h10 K10
      refine W_ret ?_
      simp [go_sem, ty68, qo, qd, decIns]
    · have qo : decOk w = true := by unfold decOk; rw [qw]; simpa using hb9
      have qd : decode w = decIns w := by unfold decode; rw [if_pos qo]
      clear hb9
      refine W_skip ?_
      repeat refine tk ?_
      refine h7 _ ?_
      clear h7 K7
      refine W_seqK fun K11 h11 => ?_
      refine W_reg ?_
      simp [go_sem, ty4, ty68]
      repeat refine tk ?_
      refine h11 _ ?_
      clear h11 K11
      refine W_ret ?_
      simp [go_sem, ty68, qo, qd, decIns]

set_option maxRecDepth 100000 in
set_option maxHeartbeats 4000000 in
theorem pc_impl_Decode (w : Int)  : PC Tryz.prog 116 [(false, [.int .i64 w])] [(true, eIns (decode w)), (false, [.bool (decOk w)])] := by
  refine PC_of (n := 28) Tryz.func116 rfl rfl rfl rfl (by simp) ?_
  refine W_seqK fun K1 h1 => ?_
  refine W_reg ?_
  simp [go_sem, ty4, ty68]
  repeat refine tk ?_
  refine h1 _ ?_
  clear h1 K1
  refine W_seqK fun K2 h2 => ?_
  refine W_seqK fun K3 h3 => ?_
  refine W_reg ?_
  simp [go_sem, ty3, ty4]
  refine callA (fun hG => pc_impl_isWord w) (fun hG => by simp [go_sem]) rfl rfl ?_
  simp [go_sem, ty4]
  repeat refine tk ?_
  refine h3 _ ?_
  clear h3 K3
  refine W_cond rfl (fun hb4 => ?_) fun hb4 => ?_
  · have q : isW w = false := by simpa [isW] using hb4
    have qo : decOk w = false := by unfold decOk; rw [q]; rfl
    have qd : decode w = ⟨0, 0, 0, 0, 0⟩ := by unfold decode; rw [if_neg (by simp [qo])]
    clear hb4
    refine W_seqK fun K5 h5 => ?_
    refine W_reg ?_
    simp [go_sem, ty4, ty68, fw68]
    repeat refine tk ?_
    refine h5 _ ?_
    clear h5 K5
    refine W_ret ?_
    simp [go_sem, ty68, qo, qd, decIns]
  · have q0 : 0 ≤ w ∧ w ≤ 65535 := by simpa [inR] using hb4
    have qw : isW w = true := by simpa [isW] using hb4
    clear hb4
    have f1 : w.tmod 16 = w % 16 := tmod_pos q0.1
    have f2 : IntKind.wrap .i64 (w.tdiv 16) = w / 16 := by rw [tdiv_pos q0.1, wrap_ok (by omega) (by omega)]
    have f3 : IntKind.wrap .i64 (w.tdiv 64) = w / 64 := by rw [tdiv_pos q0.1, wrap_ok (by omega) (by omega)]
    have f4 : IntKind.wrap .i64 (w.tdiv 256) = w / 256 := by rw [tdiv_pos q0.1, wrap_ok (by omega) (by omega)]
    have f5 : IntKind.wrap .i64 (w.tdiv 1024) = w / 1024 := by rw [tdiv_pos q0.1, wrap_ok (by omega) (by omega)]
    have g2 : (w / 16).tmod 4 = w / 16 % 4 := tmod_pos (by omega)
    have g3 : (w / 64).tmod 4 = w / 64 % 4 := tmod_pos (by omega)
    have g4 : (w / 256).tmod 4 = w / 256 % 4 := tmod_pos (by omega)
    refine W_skip ?_
    repeat refine tk ?_
    refine h2 _ ?_
    clear h2 K2
    refine W_seqK fun K6 h6 => ?_
    refine W_reg ?_
    simp [go_sem, ty3, ty68, fw68, f1, f2, f3, f4, f5, g2, g3, g4]
    repeat refine tk ?_
    refine h6 _ ?_
    clear h6 K6
    refine W_seqK fun K7 h7 => ?_
    refine W_seqK fun K8 h8 => ?_
    refine W_reg ?_
    simp [go_sem, ty4, ty68]
    refine callA (fun hG => pc_impl_InsOk (decIns w)) (fun hG => by simp [go_sem, decIns]) rfl rfl ?_
    simp [go_sem, ty4]
    repeat refine tk ?_
    refine h8 _ ?_
    clear h8 K8
    refine W_cond rfl (fun hb9 => ?_) fun hb9 => ?_
    · have qo : decOk w = false := by unfold decOk; rw [qw]; simpa using hb9
      have qd : decode w = ⟨0, 0, 0, 0, 0⟩ := by unfold decode; rw [if_neg (by simp [qo])]
      clear hb9
      refine W_seqK fun K10 h10 => ?_
      refine W_reg ?_
      simp [go_sem, ty4, ty68, fw68]
      repeat refine tk ?_
      refine h10 _ ?_
      clear h10 K10
      refine W_ret ?_
      simp [go_sem, ty68, qo, qd, decIns]
    · have qo : decOk w = true := by unfold decOk; rw [qw]; simpa using hb9
      have qd : decode w = decIns w := by unfold decode; rw [if_pos qo]
      clear hb9
      refine W_skip ?_
      repeat refine tk ?_
      refine h7 _ ?_
      clear h7 K7
      refine W_seqK fun K11 h11 => ?_
      refine W_reg ?_
      simp [go_sem, ty4, ty68]
      repeat refine tk ?_
      refine h11 _ ?_
      clear h11 K11
      refine W_ret ?_
      simp [go_sem, ty68, qo, qd, decIns]

set_option maxRecDepth 100000 in
set_option maxHeartbeats 4000000 in
theorem pc_spec_l9Address (n : Int)  : PC Tryz.prog 91 [(false, [.int .i64 n])] [(false, [.int .i64 (addr n)])] := by
  refine PC_of (n := 11) Tryz.func91 rfl rfl rfl rfl (by simp) ?_
  refine W_seqK fun K1 h1 => ?_
  refine W_reg ?_
  simp [go_sem, ty3]
  repeat refine tk ?_
  refine h1 _ ?_
  clear h1 K1
  refine W_seqK fun K2 h2 => ?_
  refine W_reg ?_
  simp [go_sem, ty3]
  repeat refine tk ?_
  refine h2 _ ?_
  clear h2 K2
  refine W_seqK fun K3 h3 => ?_
  refine W_seqK fun K4 h4 => ?_
  refine W_reg ?_
  simp [go_sem, ty3, ty4]
  repeat refine tk ?_
  refine h4 _ ?_
  clear h4 K4
  refine W_cond rfl (fun hb5 => ?_) fun hb5 => ?_
  · have q := addr_spec_neg (n := n) (by simpa using hb5)
    refine W_seqK fun K6 h6 => ?_
    refine W_reg ?_
    simp [go_sem, ty3]
    repeat refine tk ?_
    refine h6 _ ?_
    clear h6 K6
    refine W_ret ?_
    simp [go_sem, q]
  · have q := addr_spec_pos (n := n) (by simpa using hb5)
    refine W_skip ?_
    repeat refine tk ?_
    refine h3 _ ?_
    clear h3 K3
    refine W_seqK fun K7 h7 => ?_
    refine W_reg ?_
    simp [go_sem, ty3]
    repeat refine tk ?_
    refine h7 _ ?_
    clear h7 K7
    refine W_ret ?_
    simp [go_sem, q]

set_option maxRecDepth 100000 in
set_option maxHeartbeats 4000000 in
theorem pc_impl_address (n : Int)  : PC Tryz.prog 120 [(false, [.int .i64 n])] [(false, [.int .i64 (addr n)])] := by
  refine PC_of (n := 7) Tryz.func120 rfl rfl rfl rfl (by simp) ?_
  refine W_seqK fun K1 h1 => ?_
  refine W_reg ?_
  simp [go_sem, ty3]
  repeat refine tk ?_
  refine h1 _ ?_
  clear h1 K1
  refine W_seqK fun K2 h2 => ?_
  refine W_reg ?_
  simp [go_sem, ty3]
  repeat refine tk ?_
  refine h2 _ ?_
  clear h2 K2
  refine W_ret ?_
  simp [go_sem, addr_impl]

set_option maxRecDepth 100000 in
set_option maxHeartbeats 4000000 in
theorem pc_spec_l9Word (n : Int)  : PC Tryz.prog 93 [(false, [.int .i64 n])] [(false, [.int .i64 (word n)])] := by
  refine PC_of (n := 5) Tryz.func93 rfl rfl rfl rfl (by simp) ?_
  refine W_seqK fun K1 h1 => ?_
  refine W_reg ?_
  simp [go_sem, ty3]
  repeat refine tk ?_
  refine h1 _ ?_
  clear h1 K1
  refine W_seqK fun K2 h2 => ?_
  refine W_reg ?_
  simp [go_sem, ty3]
  repeat refine tk ?_
  refine h2 _ ?_
  clear h2 K2
  refine W_ret ?_
  simp [go_sem]
  exact word_spec2 n

set_option maxRecDepth 100000 in
set_option maxHeartbeats 4000000 in
theorem pc_impl_wrapped (n : Int)  : PC Tryz.prog 122 [(false, [.int .i64 n])] [(false, [.int .i64 (word n)])] := by
  refine PC_of (n := 8) Tryz.func122 rfl rfl rfl rfl (by simp) ?_
  refine W_seqK fun K1 h1 => ?_
  refine W_reg ?_
  simp [go_sem, ty3]
  repeat refine tk ?_
  refine h1 _ ?_
  clear h1 K1
  refine W_seqK fun K2 h2 => ?_
  refine W_reg ?_
  simp [go_sem, ty3]
  repeat refine tk ?_
  refine h2 _ ?_
  clear h2 K2
  refine W_ret ?_
  simp [go_sem, word_impl]

set_option maxRecDepth 100000 in
set_option maxHeartbeats 4000000 in
theorem pc_impl_aims (x : GIns)  : PC Tryz.prog 119 [(true, eIns x)] [(false, [.bool (aims x)])] := by
  refine PC_of (n := 16) Tryz.func119 rfl rfl rfl rfl (by simp) ?_
  refine W_seqK fun K1 h1 => ?_
  refine W_reg ?_
  simp [go_sem, ty4, ty68]
  repeat refine tk ?_
  refine h1 _ ?_
  clear h1 K1
  refine W_seqK fun K2 h2 => ?_
  refine W_reg ?_
  simp [go_sem, ty3, ty4, ty68]
  repeat refine tk ?_
  refine h2 _ ?_
  clear h2 K2
  refine W_ret ?_
  simp [go_sem, aims]
  first | done | (rw [Bool.eq_iff_iff]; simp [or_assoc]) | grind

set_option maxRecDepth 100000 in
set_option maxHeartbeats 4000000 in
theorem pc_spec_HartOk (h : GHart) (hx : h.regs.length ≤ 9223372036854775806) : PC Tryz.prog 76 [(true, eHart h)] [(false, [.bool (hartOk h)])] := by
  refine PC_of (n := 16) Tryz.func76 rfl rfl rfl rfl (by simp) ?_
  refine W_seqK fun K1 h1 => ?_
  refine W_reg ?_
  simp [go_sem, ty4, ty36]
  repeat refine tk ?_
  refine h1 _ ?_
  clear h1 K1
  refine W_seqK fun K2 h2 => ?_
  refine W_reg ?_
  simp [go_sem, ty3, ty4, ty22, ty36]
  refine callA (fun hG => pc_spec_l1Words h.regs 4 (by omega)) (fun hG => by simp [go_sem]) rfl rfl ?_
  simp [go_sem, ty3, ty4, ty36]
  refine callA (fun hG => pc_spec_l1In h.pc 0 23) (fun hG => by simp [go_sem]) rfl rfl ?_
  simp [go_sem, ty3, ty4, ty36]
  refine callA (fun hG => pc_spec_l1In h.state 0 2) (fun hG => by simp [go_sem]) rfl rfl ?_
  simp [go_sem, ty4]
  repeat refine tk ?_
  refine h2 _ ?_
  clear h2 K2
  refine W_ret ?_
  simp [go_sem, hartOk]

set_option maxRecDepth 100000 in
set_option maxHeartbeats 4000000 in
theorem pc_impl_HartOk (h : GHart) (hx : h.regs.length ≤ 9223372036854775806) : PC Tryz.prog 102 [(true, eHart h)] [(false, [.bool (hartOk h)])] := by
  refine PC_of (n := 16) Tryz.func102 rfl rfl rfl rfl (by simp) ?_
  refine W_seqK fun K1 h1 => ?_
  refine W_reg ?_
  simp [go_sem, ty4, ty36]
  repeat refine tk ?_
  refine h1 _ ?_
  clear h1 K1
  refine W_seqK fun K2 h2 => ?_
  refine W_reg ?_
  simp [go_sem, ty3, ty4, ty22, ty36]
  refine callA (fun hG => pc_impl_wordsOk h.regs 4 (by omega)) (fun hG => by simp [go_sem]) rfl rfl ?_
  simp [go_sem, ty3, ty4, ty36]
  refine callA (fun hG => pc_impl_isCell h.pc) (fun hG => by simp [go_sem]) rfl rfl ?_
  simp [go_sem, ty3, ty4, ty36]
  refine callA (fun hG => pc_impl_from h.state 0 2) (fun hG => by simp [go_sem]) rfl rfl ?_
  simp [go_sem, ty4]
  repeat refine tk ?_
  refine h2 _ ?_
  clear h2 K2
  refine W_ret ?_
  simp [go_sem, hartOk]

set_option maxRecDepth 100000 in
set_option maxHeartbeats 4000000 in
theorem pc_spec_l9Copy (h : GHart) (hx : h.regs.length ≤ 1048576) : PC Tryz.prog 78 [(true, eHart h)] [(true, eHart h)] := by
  refine PC_of (n := 9) Tryz.func78 rfl rfl rfl rfl (by simp) ?_
  refine W_seqK fun K1 h1 => ?_
  refine W_reg ?_
  simp [go_sem, ty36]
  repeat refine tk ?_
  refine h1 _ ?_
  clear h1 K1
  refine W_seqK fun K2 h2 => ?_
  refine W_reg ?_
  simp [go_sem, ty3, ty22, ty36]
  repeat refine tk ?_
  refine h2 _ ?_
  clear h2 K2
  refine W_seqK fun K3 h3 => ?_
  refine W_reg ?_
  simp [go_sem, ty36]
  repeat refine tk ?_
  refine h3 _ ?_
  clear h3 K3
  refine W_ret ?_
  simp [go_sem, ty36]

set_option maxRecDepth 100000 in
set_option maxHeartbeats 4000000 in
theorem pc_impl_copyHart (h : GHart) (hx : h.regs.length ≤ 1048576) : PC Tryz.prog 104 [(true, eHart h)] [(true, eHart h)] := by
  refine PC_of (n := 8) Tryz.func104 rfl rfl rfl rfl (by simp) ?_
  refine W_seqK fun K1 h1 => ?_
  refine W_reg ?_
  simp [go_sem, ty36]
  repeat refine tk ?_
  refine h1 _ ?_
  clear h1 K1
  refine W_seqK fun K2 h2 => ?_
  refine W_reg ?_
  simp [go_sem, ty3, ty22, ty36]
  refine callA (fun hG => pc_slices_Clone_int_int h.regs (by omega)) (fun hG => by simp [go_sem]) rfl rfl ?_
  simp [go_sem, ty3, ty22, ty36]
  repeat refine tk ?_
  refine h2 _ ?_
  clear h2 K2
  refine W_seqK fun K3 h3 => ?_
  refine W_reg ?_
  simp [go_sem, ty36]
  repeat refine tk ?_
  refine h3 _ ?_
  clear h3 K3
  refine W_ret ?_
  simp [go_sem, ty36]

set_option maxRecDepth 100000 in
set_option maxHeartbeats 4000000 in
theorem pc_impl_Ends (x : GIns)  : PC Tryz.prog 117 [(true, eIns x)] [(false, [.bool (ends x)])] := by
  refine PC_of (n := 21) Tryz.func117 rfl rfl rfl rfl (by simp) ?_
  refine W_seqK fun K1 h1 => ?_
  refine W_reg ?_
  simp [go_sem, ty4, ty68]
  repeat refine tk ?_
  refine h1 _ ?_
  clear h1 K1
  refine W_seqK fun K2 h2 => ?_
  refine W_reg ?_
  simp [go_sem, ty4, ty68]
  refine callA (fun hG => pc_impl_InsOk x) (fun hG => by simp [go_sem]) rfl rfl ?_
  simp [go_sem, ty3, ty4, ty68]
  repeat refine tk ?_
  refine h2 _ ?_
  clear h2 K2
  refine W_ret ?_
  simp [go_sem, ends]
  first | done | grind

set_option maxRecDepth 100000 in
set_option maxHeartbeats 4000000 in
theorem pc_spec_Ends (x : GIns)  : PC Tryz.prog 89 [(true, eIns x)] [(false, [.bool (ends x)])] := by
  refine PC_of (n := 21) Tryz.func89 rfl rfl rfl rfl (by simp) ?_
  refine W_seqK fun K1 h1 => ?_
  refine W_reg ?_
  simp [go_sem, ty4, ty68]
  repeat refine tk ?_
  refine h1 _ ?_
  clear h1 K1
  refine W_seqK fun K2 h2 => ?_
  refine W_reg ?_
  simp [go_sem, ty4, ty68]
  refine callA (fun hG => pc_spec_InsOk x) (fun hG => by simp [go_sem]) rfl rfl ?_
  simp [go_sem, ty3, ty4, ty68]
  repeat refine tk ?_
  refine h2 _ ?_
  clear h2 K2
  refine W_ret ?_
  simp [go_sem, ends]
  first | done | grind

set_option maxRecDepth 100000 in
set_option maxHeartbeats 4000000 in
theorem pc_impl_BlockOk (b : GBlock) (hx : b.list.length ≤ 1048576) : PC Tryz.prog 113 [(true, eBlock b)] [(false, [.bool (blockOk b)])] := by
  refine PC_of (n := 50) Tryz.func113 rfl rfl rfl rfl (by simp) ?_
  refine W_seqK fun K1 h1 => ?_
  refine W_reg ?_
  simp [go_sem, ty4, ty74]
  repeat refine tk ?_
  refine h1 _ ?_
  clear h1 K1
  refine W_seqK fun K2 h2 => ?_
  refine W_seqK fun K3 h3 => ?_
  refine W_reg ?_
  simp [go_sem, ty3, ty4, ty74]
  refine callA (fun hG => pc_impl_isCell b.start) (fun hG => by simp [go_sem]) rfl rfl ?_
  simp [go_sem, ty3, ty4, ty68, ty72, ty74]
  refine callA (fun hG => pc_impl_from (b.list.length : Int) 1 (4 - b.start % 4)) (fun hG => by simp [go_sem]; have q0 : 0 ≤ b.start ∧ b.start ≤ 23 := (by simpa [inR] using hG); rw [tmod_pos q0.1, wrap_ok (by omega) (by omega)]; split <;> omega) rfl rfl ?_
  simp [go_sem, ty4]
  repeat refine tk ?_
  refine h3 _ ?_
  clear h3 K3
  refine W_cond rfl (fun hb4 => ?_) fun hb4 => ?_
  · have q : blockOk b = false := blockOk_hd (by unfold blockHd; simp at hb4 ⊢; grind)
    clear hb4
    refine W_seqK fun K5 h5 => ?_
    refine W_reg ?_
    simp [go_sem, ty4]
    repeat refine tk ?_
    refine h5 _ ?_
    clear h5 K5
    refine W_ret ?_
    simp [go_sem, q]
  · have qh : blockHd b = true := by unfold blockHd; simp at hb4 ⊢; grind
    clear hb4
    have qs : 0 ≤ b.start ∧ b.start ≤ 23 := by unfold blockHd at qh; rw [Bool.and_eq_true] at qh; exact (inR_iff _ _ _).1 qh.1
    have qn : b.list.length ≤ 4 := by unfold blockHd at qh; simp [inR] at qh; omega
    refine W_skip ?_
    repeat refine tk ?_
    refine h2 _ ?_
    clear h2 K2
    refine W_seqK fun K6 h6 => ?_
    refine W_seqK fun K7 h7 => ?_
    refine W_reg ?_
    simp [go_sem, ty3, ty68, ty72, ty74]
    repeat refine tk ?_
    refine h7 _ ?_
    clear h7 K7
    refine W_block ?_
    refine W_loopI (α := Nat) (fun i => ({ env := [(1, true, .l (.ptr 2 0)), (22, true, .l (.ref 1 [] 5 0 (b.list.length))), (23, true, .l (.t (.int .i64 (b.list.length)))), (24, true, .l (.t (.int .i64 (i))))], box := [(2, [.t (.int .i64 b.start), .ref 1 [] 5 0 b.list.length])], row := [(1, ⟨.ro, 5, enc eIns b.list⟩)], nxt := 9, sav := [] } : St)) (fun i => i ≤ b.list.length ∧ ∀ j, (hj : j < b.list.length) → j < i → badIns b.list.length j b.list[j] = false) (fun i => b.list.length - i) 0 ?_ ?_ ?_
    · exact Sub.of_neat [1, 22, 23, 24] [1] [2] 9 (by decide) (by simp [go_sem])
    · simp
    rintro i hinv
    obtain ⟨hi, hall⟩ := hinv
    refine W_seqK fun K9 h9 => ?_
    refine W_reg ?_
    simp [go_sem, ty3]
    repeat refine tk ?_
    refine h9 _ ?_
    clear h9 K9
    refine W_seqK fun K10 h10 => ?_
    refine W_cond rfl (fun hb11 => ?_) fun hb11 => ?_
    · have hlt : i < b.list.length := by simpa using hb11
      clear hb11
      refine W_skip ?_
      repeat refine tk ?_
      refine h10 _ ?_
      clear h10 K10
      refine W_seqK fun K12 h12 => ?_
      refine W_block ?_
      refine W_seqK fun K13 h13 => ?_
      refine W_reg ?_
      simp [go_sem, ty3, ty68, ty72, hlt]
      repeat refine tk ?_
      refine h13 _ ?_
      clear h13 K13
      refine W_seqK fun K14 h14 => ?_
      refine W_reg ?_
      simp [go_sem, ty4, ty68, fk68, fw68, wrap_succ (show i < 9223372036854775807 by omega), hlt]
      refine callA (fun hG => pc_impl_InsOk b.list[i]) (fun hG => by simp [go_sem, hlt]) rfl rfl ?_
      simp [go_sem, ty4, ty68, fk68, fw68, wrap_succ (show i < 9223372036854775807 by omega), hlt]
      refine callA (fun hG => pc_impl_Ends b.list[i]) (fun hG => by simp [go_sem, hlt]) rfl rfl ?_
      simp [go_sem, ty3, ty4, ty68, ty72, ty74, fk68, fw68, wrap_succ (show i < 9223372036854775807 by omega), hlt]
      repeat refine tk ?_
      refine h14 _ ?_
      clear h14 K14
      refine W_cond rfl (fun hb15 => ?_) fun hb15 => ?_
      · have q : blockOk b = false := blockOk_bad hlt (by unfold badIns; simp [GIns.ext_iff] at hb15 ⊢; grind)
        refine W_seqK fun K16 h16 => ?_
        refine W_reg ?_
        simp [go_sem, ty4, hlt]
        repeat refine tk ?_
        refine h16 _ ?_
        clear h16 K16
        refine W_ret ?_
        simp [go_sem, q]
      · have hok : badIns b.list.length i b.list[i] = false := by unfold badIns; simp [GIns.ext_iff] at hb15 ⊢; grind
        clear hb15
        refine W_skip ?_
        repeat refine tk ?_
        refine h12 _ ?_
        clear h12 K12
        refine W_reg ?_
        simp [go_sem, ty3, hlt]
        refine ⟨i + 1, ?_, ?_, ?_⟩
        · exact Sub.of_neat [1, 22, 23, 24] [1] [2] 9 (by decide) (by simp [go_sem, wrap_succ (show i < 9223372036854775807 by omega)])
        · exact ⟨hlt, fun j hj hji => by rcases Nat.lt_succ_iff_lt_or_eq.1 hji with h | rfl; exact hall j hj h; exact hok⟩
        · omega
    · obtain rfl : i = b.list.length := by simp at hb11; omega
      have q : blockOk b = true := blockOk_good qh fun j hj => hall j hj hj
      clear hb11
      refine W_exit ?_
      simp [go_sem]
      repeat refine tk ?_
      refine h6 _ ?_
      clear h10 K10 h6 K6
      refine W_seqK fun K17 h17 => ?_
      refine W_reg ?_
      simp [go_sem, ty4]
      repeat refine tk ?_
      refine h17 _ ?_
      clear h17 K17
      refine W_ret ?_
      simp [go_sem, q]

set_option maxRecDepth 100000 in
set_option maxHeartbeats 4000000 in
theorem pc_spec_BlockOk (b : GBlock) (hx : b.list.length ≤ 1048576) : PC Tryz.prog 85 [(true, eBlock b)] [(false, [.bool (blockOk b)])] := by
  refine PC_of (n := 52) Tryz.func85 rfl rfl rfl rfl (by simp) ?_
  refine W_seqK fun K1 h1 => ?_
  refine W_reg ?_
  simp [go_sem, ty4, ty74]
  repeat refine tk ?_
  refine h1 _ ?_
  clear h1 K1
  refine W_seqK fun K2 h2 => ?_
  refine W_seqK fun K3 h3 => ?_
  refine W_reg ?_
  simp [go_sem, ty3, ty4, ty74]
  refine callA (fun hG => pc_spec_l1In b.start 0 23) (fun hG => by simp [go_sem]) rfl rfl ?_
  simp [go_sem, ty3, ty4, ty68, ty72, ty74]
  refine callA (fun hG => pc_spec_l1In (b.list.length : Int) 1 (4 - b.start % 4)) (fun hG => by simp [go_sem]; have q0 : 0 ≤ b.start ∧ b.start ≤ 23 := (by simpa [inR] using hG); rw [tmod_pos q0.1, wrap_ok (by omega) (by omega)]) rfl rfl ?_
  simp [go_sem, ty4]
  repeat refine tk ?_
  refine h3 _ ?_
  clear h3 K3
  refine W_cond rfl (fun hb4 => ?_) fun hb4 => ?_
  · have q : blockOk b = false := blockOk_hd (by unfold blockHd; simp at hb4 ⊢; grind)
    clear hb4
    refine W_seqK fun K5 h5 => ?_
    refine W_reg ?_
    simp [go_sem, ty4]
    repeat refine tk ?_
    refine h5 _ ?_
    clear h5 K5
    refine W_ret ?_
    simp [go_sem, q]
  · have qh : blockHd b = true := by unfold blockHd; simp at hb4 ⊢; grind
    clear hb4
    have qs : 0 ≤ b.start ∧ b.start ≤ 23 := by unfold blockHd at qh; rw [Bool.and_eq_true] at qh; exact (inR_iff _ _ _).1 qh.1
    have qn : b.list.length ≤ 4 := by unfold blockHd at qh; simp [inR] at qh; omega
    have wl : IntKind.wrap .i64 ((b.list.length : Int) - 1) = b.list.length - 1 := wrap_ok (by omega) (by omega)
    refine W_skip ?_
    repeat refine tk ?_
    refine h2 _ ?_
    clear h2 K2
    refine W_seqK fun K6 h6 => ?_
    refine W_seqK fun K7 h7 => ?_
    refine W_reg ?_
    simp [go_sem, ty3]
    repeat refine tk ?_
    refine h7 _ ?_
    clear h7 K7
    refine W_block ?_
    refine W_loopI (α := Nat) (fun i => ({ env := [(1, true, .l (.ptr 2 0)), (3, true, .l (.t (.int .i64 (i))))], box := [(2, [.t (.int .i64 b.start), .ref 1 [] 5 0 b.list.length])], row := [(1, ⟨.ro, 5, enc eIns b.list⟩)], nxt := 9, sav := [] } : St)) (fun i => i ≤ b.list.length ∧ ∀ j, (hj : j < b.list.length) → j < i → badIns b.list.length j b.list[j] = false) (fun i => b.list.length - i) 0 ?_ ?_ ?_
    · exact Sub.of_neat [1, 3] [1] [2] 9 (by decide) (by simp [go_sem])
    · simp
    rintro i hinv
    obtain ⟨hi, hall⟩ := hinv
    refine W_seqK fun K9 h9 => ?_
    refine W_seqK fun K10 h10 => ?_
    refine W_reg ?_
    simp [go_sem, ty3, ty4, ty68, ty72, ty74]
    repeat refine tk ?_
    refine h10 _ ?_
    clear h10 K10
    refine W_cond rfl (fun hb11 => ?_) fun hb11 => ?_
    · have hlt : i < b.list.length := by simpa using hb11
      clear hb11
      refine W_skip ?_
      repeat refine tk ?_
      refine h9 _ ?_
      clear h9 K9
      refine W_seqK fun K12 h12 => ?_
      refine W_block ?_
      refine W_seqK fun K13 h13 => ?_
      refine W_reg ?_
      simp [go_sem, ty3, ty68, ty72, ty74, hlt]
      repeat refine tk ?_
      refine h13 _ ?_
      clear h13 K13
      refine W_seqK fun K14 h14 => ?_
      refine W_reg ?_
      simp [go_sem, ty4, ty68, wl, hlt]
      refine callA (fun hG => pc_spec_InsOk b.list[i]) (fun hG => by simp [go_sem, hlt]) rfl rfl ?_
      simp [go_sem, ty3, ty4, ty68, ty72, ty74, fk68, fw68, wl, hlt]
      refine callA (fun hG => pc_spec_Ends b.list[i]) (fun hG => by simp [go_sem, hlt]) rfl rfl ?_
      simp [go_sem, ty4, fk68, fw68, wl, hlt]
      repeat refine tk ?_
      refine h14 _ ?_
      clear h14 K14
      refine W_cond rfl (fun hb15 => ?_) fun hb15 => ?_
      · have q : blockOk b = false := blockOk_bad hlt (by unfold badIns; simp [GIns.ext_iff] at hb15 ⊢; grind)
        refine W_seqK fun K16 h16 => ?_
        refine W_reg ?_
        simp [go_sem, ty4, hlt]
        repeat refine tk ?_
        refine h16 _ ?_
        clear h16 K16
        refine W_ret ?_
        simp [go_sem, q]
      · have hok : badIns b.list.length i b.list[i] = false := by unfold badIns; simp [GIns.ext_iff] at hb15 ⊢; grind
        clear hb15
        refine W_skip ?_
        repeat refine tk ?_
        refine h12 _ ?_
        clear h12 K12
        refine W_reg ?_
        simp [go_sem, ty3, hlt]
        refine ⟨i + 1, ?_, ?_, ?_⟩
        · exact Sub.of_neat [1, 3] [1] [2] 9 (by decide) (by simp [go_sem, wrap_succ (show i < 9223372036854775807 by omega)])
        · exact ⟨hlt, fun j hj hji => by rcases Nat.lt_succ_iff_lt_or_eq.1 hji with h | rfl; exact hall j hj h; exact hok⟩
        · omega
    · obtain rfl : i = b.list.length := by simp at hb11; omega
      have q : blockOk b = true := blockOk_good qh fun j hj => hall j hj hj
      clear hb11
      refine W_exit ?_
      simp [go_sem]
      repeat refine tk ?_
      refine h6 _ ?_
      clear h9 K9 h6 K6
      refine W_seqK fun K17 h17 => ?_
      refine W_reg ?_
      simp [go_sem, ty4]
      repeat refine tk ?_
      refine h17 _ ?_
      clear h17 K17
      refine W_ret ?_
      simp [go_sem, q]

set_option maxRecDepth 100000 in
set_option maxHeartbeats 4000000 in
theorem pc_impl_PageOf (b : GBlock) (hx : b.list.length ≤ 1048576) : PC Tryz.prog 125 [(true, eBlock b)] [(false, [.int .i64 (pageOf b)])] := by
  refine PC_of (n := 9) Tryz.func125 rfl rfl rfl rfl (by simp) ?_
  refine W_seqK fun K1 h1 => ?_
  refine W_reg ?_
  simp [go_sem, ty3, ty74]
  repeat refine tk ?_
  refine h1 _ ?_
  clear h1 K1
  refine W_seqK fun K2 h2 => ?_
  refine W_seqK fun K3 h3 => ?_
  refine W_reg ?_
  simp [go_sem, ty4, ty74]
  refine callA (fun hG => pc_impl_BlockOk b (by omega)) (fun hG => by simp [go_sem]) rfl rfl ?_
  simp [go_sem, ty4]
  repeat refine tk ?_
  refine h3 _ ?_
  clear h3 K3
  refine W_cond rfl (fun hb4 => ?_) fun hb4 => ?_
  · have q : pageOf b = -1 := by unfold pageOf; rw [if_neg (by simpa using hb4)]
    refine W_seqK fun K5 h5 => ?_
    refine W_reg ?_
    simp [go_sem, ty3]
    repeat refine tk ?_
    refine h5 _ ?_
    clear h5 K5
    refine W_ret ?_
    simp [go_sem, q]
  · have qb : blockOk b = true := by simpa using hb4
    have qs := blockOk_start qb
    have q : pageOf b = IntKind.wrap .i64 (b.start.tdiv 4) := by unfold pageOf; rw [if_pos qb, tdiv_pos qs.1, wrap_ok (by omega) (by omega)]
    refine W_skip ?_
    repeat refine tk ?_
    refine h2 _ ?_
    clear h2 K2
    refine W_seqK fun K6 h6 => ?_
    refine W_reg ?_
    simp [go_sem, ty3, ty74]
    repeat refine tk ?_
    refine h6 _ ?_
    clear h6 K6
    refine W_ret ?_
    simp [go_sem, q]

set_option maxRecDepth 100000 in
set_option maxHeartbeats 4000000 in
theorem pc_spec_PageOf (b : GBlock) (hx : b.list.length ≤ 1048576) : PC Tryz.prog 94 [(true, eBlock b)] [(false, [.int .i64 (pageOf b)])] := by
  refine PC_of (n := 9) Tryz.func94 rfl rfl rfl rfl (by simp) ?_
  refine W_seqK fun K1 h1 => ?_
  refine W_reg ?_
  simp [go_sem, ty3, ty74]
  repeat refine tk ?_
  refine h1 _ ?_
  clear h1 K1
  refine W_seqK fun K2 h2 => ?_
  refine W_seqK fun K3 h3 => ?_
  refine W_reg ?_
  simp [go_sem, ty4, ty74]
  refine callA (fun hG => pc_spec_BlockOk b (by omega)) (fun hG => by simp [go_sem]) rfl rfl ?_
  simp [go_sem, ty4]
  repeat refine tk ?_
  refine h3 _ ?_
  clear h3 K3
  refine W_cond rfl (fun hb4 => ?_) fun hb4 => ?_
  · have q : pageOf b = -1 := by unfold pageOf; rw [if_neg (by simpa using hb4)]
    refine W_seqK fun K5 h5 => ?_
    refine W_reg ?_
    simp [go_sem, ty3]
    repeat refine tk ?_
    refine h5 _ ?_
    clear h5 K5
    refine W_ret ?_
    simp [go_sem, q]
  · have qb : blockOk b = true := by simpa using hb4
    have qs := blockOk_start qb
    have q : pageOf b = IntKind.wrap .i64 (b.start.tdiv 4) := by unfold pageOf; rw [if_pos qb, tdiv_pos qs.1, wrap_ok (by omega) (by omega)]
    refine W_skip ?_
    repeat refine tk ?_
    refine h2 _ ?_
    clear h2 K2
    refine W_seqK fun K6 h6 => ?_
    refine W_reg ?_
    simp [go_sem, ty3, ty74]
    repeat refine tk ?_
    refine h6 _ ?_
    clear h6 K6
    refine W_ret ?_
    simp [go_sem, q]
end Go.Tw
