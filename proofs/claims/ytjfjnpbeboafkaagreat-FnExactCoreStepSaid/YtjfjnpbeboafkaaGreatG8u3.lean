/- Walks of functions: spec.l5Copy -/
import Derived.Test.YtjfjnpbeboafkaaGreatG8u1
import Derived.Test.YtjfjnpbeboafkaaGreatBaseG
set_option linter.unusedSimpArgs false
set_option linter.unusedVariables false
set_option linter.unnecessarySimpa false
namespace Go.Tw
open Go.Proofs

set_option maxRecDepth 100000 in
set_option maxHeartbeats 4000000 in
theorem pc_spec_l5Copy (n : GNode) (hs : n.small) : PC Tryz.prog 24 [(true, eNode n)] [(true, eNode n)] := by
  have hs1 := hs
  unfold GNode.small at hs1
  obtain ⟨q1, q2, q3, q4, q5, q6, q7⟩ := hs1
  refine PC_of (n := 69) Tryz.func24 rfl rfl rfl rfl (by simp) ?_
  refine W_seqK fun K1 h1 => ?_
  refine W_reg ?_
  simp [go_sem, ty45]
  repeat refine tk ?_
  refine h1 _ ?_
  clear h1 K1
  refine W_seqJK (α := Unit) (fun _u => ({ env := [(1, true, .l (.ptr 5 0)), (2, true, .l (.ptr 6 0)), (3, true, .l (.ptr 50 0))], box := [(5, [.t (.int .i64 n.id), .ref 1 [] 3 0 (n.frames).length, .ref 2 [] 8 0 (n.homes).length, .ref 3 [] 2 0 (n.out).length, .ref 4 [] 1 0 (n.in_).length]), (6, [.t (.int .i64 0), .nil, .nil, .nil, .nil]), (50, [.t (.int .i64 n.id), .nil, .nil, .nil, .ref 40 [] 1 0 (n.in_).length])], row := [(1, ⟨.ro, 3, enc eFrame n.frames⟩), (2, ⟨.ro, 8, enc eHome n.homes⟩), (3, ⟨.ro, 2, enc eSender n.out⟩), (4, ⟨.ro, 1, enc eReceiver n.in_⟩), (40, ⟨.own, 1, enc eReceiver n.in_⟩)], nxt := 60, sav := [] } : St)) (fun _u => True) (fun J2 hJ2 => ?_) ?_
  · refine W_drawI true (.op 0 (.op 3 (.op 4 (.fork3 1 (.fork 2 (.fork 5 (.op 6 (.op 7 (.op 8 .nil))) 7 (.op 5 (.op 6 (.op 8 .nil)))) 7 (.op 2 (.op 5 (.op 6 (.op 8 .nil))))) 2 (.fork3 1 (.fork 5 (.op 6 (.op 7 (.op 8 .nil))) 7 (.op 5 (.op 6 (.op 8 .nil)))) 5 (.op 1 (.op 6 (.op 7 (.op 8 .nil)))) 7 (.fork 1 (.op 5 (.op 6 (.op 8 .nil))) 5 (.op 1 (.op 6 (.op 8 .nil))))) 7 (.fork 1 (.op 2 (.op 5 (.op 6 (.op 8 .nil)))) 2 (.fork 1 (.op 5 (.op 6 (.op 8 .nil))) 5 (.op 1 (.op 6 (.op 8 .nil))))))))) mixed (by decide +kernel) ?_
    repeat' first | (refine StepI_go rfl rfl fun K h => ?_; simp [go_sem, ty3, ty43, ty45, ty153, fw45]; first | refine h _ ?_ | refine ⟨by omega, h _ ?_⟩) | refine RunI_f2 ?_ ?_ | refine RunI_f3 ?_ ?_ ?_
    · refine RunI_end ?_
      (repeat refine tk ?_); refine hJ2 _ ⟨(), trivial, ?_⟩
      exact (Sub.swp_box 9 50 rfl).trans ((Sub.swp_row 8 40 rfl).trans (Sub.of_neat [1, 2, 3] [1, 2, 3, 4, 40] [5, 6, 50] 60 (by decide) (by simp [go_sem])))
    · refine RunI_end ?_
      (repeat refine tk ?_); refine hJ2 _ ⟨(), trivial, ?_⟩
      exact (Sub.swp_box 8 50 rfl).trans ((Sub.swp_row 9 40 rfl).trans (Sub.of_neat [1, 2, 3] [1, 2, 3, 4, 40] [5, 6, 50] 60 (by decide) (by simp [go_sem])))
    · refine RunI_end ?_
      (repeat refine tk ?_); refine hJ2 _ ⟨(), trivial, ?_⟩
      exact (Sub.swp_box 7 50 rfl).trans ((Sub.swp_row 9 40 rfl).trans (Sub.of_neat [1, 2, 3] [1, 2, 3, 4, 40] [5, 6, 50] 60 (by decide) (by simp [go_sem])))
    · refine RunI_end ?_
      (repeat refine tk ?_); refine hJ2 _ ⟨(), trivial, ?_⟩
      exact (Sub.swp_box 9 50 rfl).trans ((Sub.swp_row 8 40 rfl).trans (Sub.of_neat [1, 2, 3] [1, 2, 3, 4, 40] [5, 6, 50] 60 (by decide) (by simp [go_sem])))
    · refine RunI_end ?_
      (repeat refine tk ?_); refine hJ2 _ ⟨(), trivial, ?_⟩
      exact (Sub.swp_box 8 50 rfl).trans ((Sub.swp_row 9 40 rfl).trans (Sub.of_neat [1, 2, 3] [1, 2, 3, 4, 40] [5, 6, 50] 60 (by decide) (by simp [go_sem])))
    · refine RunI_end ?_
      (repeat refine tk ?_); refine hJ2 _ ⟨(), trivial, ?_⟩
      exact (Sub.swp_box 9 50 rfl).trans ((Sub.swp_row 8 40 rfl).trans (Sub.of_neat [1, 2, 3] [1, 2, 3, 4, 40] [5, 6, 50] 60 (by decide) (by simp [go_sem])))
    · refine RunI_end ?_
      (repeat refine tk ?_); refine hJ2 _ ⟨(), trivial, ?_⟩
      exact (Sub.swp_box 8 50 rfl).trans ((Sub.swp_row 9 40 rfl).trans (Sub.of_neat [1, 2, 3] [1, 2, 3, 4, 40] [5, 6, 50] 60 (by decide) (by simp [go_sem])))
    · refine RunI_end ?_
      (repeat refine tk ?_); refine hJ2 _ ⟨(), trivial, ?_⟩
      exact (Sub.swp_box 8 50 rfl).trans ((Sub.swp_row 9 40 rfl).trans (Sub.of_neat [1, 2, 3] [1, 2, 3, 4, 40] [5, 6, 50] 60 (by decide) (by simp [go_sem])))
    · refine RunI_end ?_
      (repeat refine tk ?_); refine hJ2 _ ⟨(), trivial, ?_⟩
      exact (Sub.swp_box 7 50 rfl).trans ((Sub.swp_row 9 40 rfl).trans (Sub.of_neat [1, 2, 3] [1, 2, 3, 4, 40] [5, 6, 50] 60 (by decide) (by simp [go_sem])))
    · refine RunI_end ?_
      (repeat refine tk ?_); refine hJ2 _ ⟨(), trivial, ?_⟩
      exact (Sub.swp_box 7 50 rfl).trans ((Sub.swp_row 9 40 rfl).trans (Sub.of_neat [1, 2, 3] [1, 2, 3, 4, 40] [5, 6, 50] 60 (by decide) (by simp [go_sem])))
    · refine RunI_end ?_
      (repeat refine tk ?_); refine hJ2 _ ⟨(), trivial, ?_⟩
      exact (Sub.swp_box 7 50 rfl).trans ((Sub.swp_row 9 40 rfl).trans (Sub.of_neat [1, 2, 3] [1, 2, 3, 4, 40] [5, 6, 50] 60 (by decide) (by simp [go_sem])))
  · rintro _ hinv
    refine W_seqK fun K3 h3 => ?_
    refine W_seqK fun K4 h4 => ?_
    refine W_reg ?_
    simp [go_sem, ty3]
    repeat refine tk ?_
    refine h4 _ ?_
    clear h4 K4
    refine W_block ?_
    refine W_loopI (α := Nat) (fun i => ({ env := [(1, true, .l (.ptr 5 0)), (2, true, .l (.ptr 6 0)), (3, true, .l (.ptr 50 0)), (4, true, .l (.t (.int .i64 (i))))], box := [(5, [.t (.int .i64 n.id), .ref 1 [] 3 0 (n.frames).length, .ref 2 [] 8 0 (n.homes).length, .ref 3 [] 2 0 (n.out).length, .ref 4 [] 1 0 (n.in_).length]), (6, [.t (.int .i64 0), .nil, .nil, .nil, .nil]), (50, [.t (.int .i64 n.id), .ref 44 [] 3 0 (n.frames.take i).length, .nil, .nil, .ref 40 [] 1 0 (n.in_).length])], row := [(1, ⟨.ro, 3, enc eFrame n.frames⟩), (2, ⟨.ro, 8, enc eHome n.homes⟩), (3, ⟨.ro, 2, enc eSender n.out⟩), (4, ⟨.ro, 1, enc eReceiver n.in_⟩), (40, ⟨.own, 1, enc eReceiver n.in_⟩), (44, ⟨.own, 3, enc eFrame (n.frames.take i)⟩)], nxt := 64, sav := [] } : St)) (fun i => i ≤ n.frames.length) (fun i => n.frames.length - i) 0 ?_ ?_ ?_
    · exact (Sub.nilBox (k := 50) (j := 1) (nm := 44) (z := 3) (by rfl) (by rfl) (by rfl)).trans (Sub.of_neat [1, 2, 3, 4] [1, 2, 3, 4, 40, 44] [5, 6, 50] 64 (by decide) (by simp [go_sem, enc_nil]))
    · exact Nat.zero_le _
    rintro i hinv
    refine W_seqK fun K6 h6 => ?_
    refine W_seqK fun K7 h7 => ?_
    refine W_reg ?_
    simp [go_sem, ty3, ty4, ty40, ty45, ty65]
    repeat refine tk ?_
    refine h7 _ ?_
    clear h7 K7
    refine W_cond rfl (fun hb8 => ?_) fun hb8 => ?_
    · have hlt_i : i < n.frames.length := by simpa using hb8
      have hmin_i : min i n.frames.length = i := by omega
      have hmin2_i : min (i + 1) n.frames.length = i + 1 := by omega
      have htk_i := List.take_append_getElem hlt_i
      clear hb8
      refine W_skip ?_
      repeat refine tk ?_
      refine h6 _ ?_
      clear h6 K6
      refine W_seqK fun K9 h9 => ?_
      refine W_block ?_
      refine W_drawO true [0, 1, 2, 4, 3, 5, 6, 7, 8, 9, 10, 11] mixed (by decide +kernel) ?_
      simp [go_sem, ty3, ty40, ty45, ty65, hlt_i, hmin_i]
      refine callA (fun hG => pc_spec_l3Copy n.frames[i] (by first | assumption | omega | exact q2 _ (List.getElem_mem (by assumption)) | exact q4 _ (List.getElem_mem (by assumption)) | exact q6 _ (List.getElem_mem (by assumption)))) (fun hG => by simp [go_sem, hlt_i, hmin_i]) rfl rfl ?_
      simp [go_sem, ty40, ty45, ty65, hlt_i, hmin_i]
      repeat refine tk ?_
      refine h9 _ ?_
      clear h9 K9
      refine W_reg ?_
      simp [go_sem, ty3, hlt_i, hmin_i]
      refine ⟨i + 1, ?_, ?_, ?_⟩
      · exact (Sub.swp_row 68 44 rfl).trans (Sub.of_neat [1, 2, 3, 4] [1, 2, 3, 4, 40, 44] [5, 6, 50] 64 (by decide) (by simp [go_sem, wrap_succ (show i < 9223372036854775807 by omega), hlt_i, hmin_i, hmin2_i, htk_i]))
      · exact hlt_i
      · omega
    · have hil_i : i = n.frames.length := by simp at hb8; omega
      clear hb8
      refine W_exit ?_
      simp [go_sem]
      repeat refine tk ?_
      refine h3 _ ?_
      clear h6 K6 h3 K3
      refine W_seqK fun K10 h10 => ?_
      refine W_seqK fun K11 h11 => ?_
      refine W_reg ?_
      simp [go_sem, ty3, hil_i]
      repeat refine tk ?_
      refine h11 _ ?_
      clear h11 K11
      refine W_block ?_
      refine W_loopI (α := Nat) (fun j => ({ env := [(1, true, .l (.ptr 5 0)), (2, true, .l (.ptr 6 0)), (3, true, .l (.ptr 50 0)), (5, true, .l (.t (.int .i64 (j))))], box := [(5, [.t (.int .i64 n.id), .ref 1 [] 3 0 (n.frames).length, .ref 2 [] 8 0 (n.homes).length, .ref 3 [] 2 0 (n.out).length, .ref 4 [] 1 0 (n.in_).length]), (6, [.t (.int .i64 0), .nil, .nil, .nil, .nil]), (50, [.t (.int .i64 n.id), .ref 44 [] 3 0 (n.frames.take i).length, .ref 45 [] 8 0 (n.homes.take j).length, .nil, .ref 40 [] 1 0 (n.in_).length])], row := [(1, ⟨.ro, 3, enc eFrame n.frames⟩), (2, ⟨.ro, 8, enc eHome n.homes⟩), (3, ⟨.ro, 2, enc eSender n.out⟩), (4, ⟨.ro, 1, enc eReceiver n.in_⟩), (40, ⟨.own, 1, enc eReceiver n.in_⟩), (44, ⟨.own, 3, enc eFrame (n.frames.take i)⟩), (45, ⟨.own, 8, enc eHome (n.homes.take j)⟩)], nxt := 65, sav := [] } : St)) (fun j => j ≤ n.homes.length) (fun j => n.homes.length - j) 0 ?_ ?_ ?_
      · exact (Sub.nilBox (k := 50) (j := 2) (nm := 45) (z := 8) (by rfl) (by rfl) (by rfl)).trans (Sub.of_neat [1, 2, 3, 5] [1, 2, 3, 4, 40, 44, 45] [5, 6, 50] 65 (by decide) (by simp [go_sem, enc_nil, hil_i]))
      · exact Nat.zero_le _
      rintro j hinv
      refine W_seqK fun K13 h13 => ?_
      refine W_seqK fun K14 h14 => ?_
      refine W_reg ?_
      simp [go_sem, ty3, ty4, ty41, ty45, ty132, hil_i]
      repeat refine tk ?_
      refine h14 _ ?_
      clear h14 K14
      refine W_cond rfl (fun hb15 => ?_) fun hb15 => ?_
      · have hlt_j : j < n.homes.length := by simpa using hb15
        have hmin_j : min j n.homes.length = j := by omega
        have hmin2_j : min (j + 1) n.homes.length = j + 1 := by omega
        have htk_j := List.take_append_getElem hlt_j
        clear hb15
        refine W_skip ?_
        repeat refine tk ?_
        refine h13 _ ?_
        clear h13 K13
        refine W_seqK fun K16 h16 => ?_
        refine W_block ?_
        refine W_drawO true [0, 1, 2, 4, 3, 5, 6, 7, 8, 9, 10, 11] mixed (by decide +kernel) ?_
        simp [go_sem, ty3, ty41, ty45, ty132, hil_i, hlt_j, hmin_j]
        refine callA (fun hG => pc_spec_l4Copy n.homes[j] (by first | assumption | omega | exact q2 _ (List.getElem_mem (by assumption)) | exact q4 _ (List.getElem_mem (by assumption)) | exact q6 _ (List.getElem_mem (by assumption)))) (fun hG => by simp [go_sem, hil_i, hlt_j, hmin_j]) rfl rfl ?_
        simp [go_sem, ty41, ty45, ty132, hil_i, hlt_j, hmin_j]
        repeat refine tk ?_
        refine h16 _ ?_
        clear h16 K16
        refine W_reg ?_
        simp [go_sem, ty3, hil_i, hlt_j, hmin_j]
        refine ⟨j + 1, ?_, ?_, ?_⟩
        · exact (Sub.swp_row 74 45 rfl).trans (Sub.of_neat [1, 2, 3, 5] [1, 2, 3, 4, 40, 44, 45] [5, 6, 50] 65 (by decide) (by simp [go_sem, wrap_succ (show j < 9223372036854775807 by omega), hlt_j, hmin_j, hmin2_j, htk_j, hil_i]))
        · exact hlt_j
        · omega
      · have hil_j : j = n.homes.length := by simp at hb15; omega
        clear hb15
        refine W_exit ?_
        simp [go_sem]
        repeat refine tk ?_
        refine h10 _ ?_
        clear h13 K13 h10 K10
        refine W_seqK fun K17 h17 => ?_
        refine W_seqK fun K18 h18 => ?_
        refine W_reg ?_
        simp [go_sem, ty3, hil_i, hil_j]
        repeat refine tk ?_
        refine h18 _ ?_
        clear h18 K18
        refine W_block ?_
        refine W_loopI (α := Nat) (fun k => ({ env := [(1, true, .l (.ptr 5 0)), (2, true, .l (.ptr 6 0)), (3, true, .l (.ptr 50 0)), (6, true, .l (.t (.int .i64 (k))))], box := [(5, [.t (.int .i64 n.id), .ref 1 [] 3 0 (n.frames).length, .ref 2 [] 8 0 (n.homes).length, .ref 3 [] 2 0 (n.out).length, .ref 4 [] 1 0 (n.in_).length]), (6, [.t (.int .i64 0), .nil, .nil, .nil, .nil]), (50, [.t (.int .i64 n.id), .ref 44 [] 3 0 (n.frames.take i).length, .ref 45 [] 8 0 (n.homes.take j).length, .ref 46 [] 2 0 (n.out.take k).length, .ref 40 [] 1 0 (n.in_).length])], row := [(1, ⟨.ro, 3, enc eFrame n.frames⟩), (2, ⟨.ro, 8, enc eHome n.homes⟩), (3, ⟨.ro, 2, enc eSender n.out⟩), (4, ⟨.ro, 1, enc eReceiver n.in_⟩), (40, ⟨.own, 1, enc eReceiver n.in_⟩), (44, ⟨.own, 3, enc eFrame (n.frames.take i)⟩), (45, ⟨.own, 8, enc eHome (n.homes.take j)⟩), (46, ⟨.own, 2, enc eSender (n.out.take k)⟩)], nxt := 66, sav := [] } : St)) (fun k => k ≤ n.out.length) (fun k => n.out.length - k) 0 ?_ ?_ ?_
        · exact (Sub.nilBox (k := 50) (j := 3) (nm := 46) (z := 2) (by rfl) (by rfl) (by rfl)).trans (Sub.of_neat [1, 2, 3, 6] [1, 2, 3, 4, 40, 44, 45, 46] [5, 6, 50] 66 (by decide) (by simp [go_sem, enc_nil, hil_i, hil_j]))
        · exact Nat.zero_le _
        rintro k hinv
        refine W_seqK fun K20 h20 => ?_
        refine W_seqK fun K21 h21 => ?_
        refine W_reg ?_
        simp [go_sem, ty3, ty4, ty42, ty45, ty136, hil_i, hil_j]
        repeat refine tk ?_
        refine h21 _ ?_
        clear h21 K21
        refine W_cond rfl (fun hb22 => ?_) fun hb22 => ?_
        · have hlt_k : k < n.out.length := by simpa using hb22
          have hmin_k : min k n.out.length = k := by omega
          have hmin2_k : min (k + 1) n.out.length = k + 1 := by omega
          have htk_k := List.take_append_getElem hlt_k
          clear hb22
          refine W_skip ?_
          repeat refine tk ?_
          refine h20 _ ?_
          clear h20 K20
          refine W_seqK fun K23 h23 => ?_
          refine W_block ?_
          refine W_drawO true [0, 1, 2, 4, 3, 5, 6, 7, 8, 9, 10, 11] mixed (by decide +kernel) ?_
          simp [go_sem, ty3, ty42, ty45, ty136, hil_i, hil_j, hlt_k, hmin_k]
          refine callA (fun hG => pc_spec_l2Sender n.out[k] (by first | assumption | omega | exact q2 _ (List.getElem_mem (by assumption)) | exact q4 _ (List.getElem_mem (by assumption)) | exact q6 _ (List.getElem_mem (by assumption)))) (fun hG => by simp [go_sem, hil_i, hil_j, hlt_k, hmin_k]) rfl rfl ?_
          simp [go_sem, ty42, ty45, ty136, hil_i, hil_j, hlt_k, hmin_k]
          repeat refine tk ?_
          refine h23 _ ?_
          clear h23 K23
          refine W_reg ?_
          simp [go_sem, ty3, hil_i, hil_j, hlt_k, hmin_k]
          refine ⟨k + 1, ?_, ?_, ?_⟩
          · exact (Sub.swp_row 69 46 rfl).trans (Sub.of_neat [1, 2, 3, 6] [1, 2, 3, 4, 40, 44, 45, 46] [5, 6, 50] 66 (by decide) (by simp [go_sem, wrap_succ (show k < 9223372036854775807 by omega), hlt_k, hmin_k, hmin2_k, htk_k, hil_i, hil_j]))
          · exact hlt_k
          · omega
        · have hil_k : k = n.out.length := by simp at hb22; omega
          clear hb22
          refine W_exit ?_
          simp [go_sem]
          repeat refine tk ?_
          refine h17 _ ?_
          clear h20 K20 h17 K17
          refine W_seqK fun K24 h24 => ?_
          refine W_reg ?_
          simp [go_sem, ty45, hil_i, hil_j, hil_k]
          repeat refine tk ?_
          refine h24 _ ?_
          clear h24 K24
          refine W_ret ?_
          simp [go_sem, ty45, hil_i, hil_j, hil_k]
end Go.Tw
