/- Walks of functions: laws.FnExactCoreStep -/
import Derived.Test.YtjfjnpbeboafkaaGreatG8u7
import Derived.Test.YtjfjnpbeboafkaaGreatG8u9
import Derived.Test.YtjfjnpbeboafkaaGreatG8h3
import Derived.Test.YtjfjnpbeboafkaaGreatG8mc
import Derived.Test.YtjfjnpbeboafkaaGreatBaseG
set_option linter.unusedSimpArgs false
set_option linter.unusedVariables false
set_option linter.unnecessarySimpa false
namespace Go.Tw
open Go.Proofs

set_option maxRecDepth 100000 in
set_option maxHeartbeats 4000000 in
theorem pc_laws_FnExactCoreStep (c : GCore) (n : GNode) (nodes : Int) (ok_c : c.ok) (ok_n : n.ok) : PC Tryz.prog 3 [(true, eCore c), (true, eNode n), (false, [.int .i64 nodes])] [(false, [.bool true])] := by
  refine PC_of (n := 161) Tryz.func3 rfl rfl rfl rfl (by simp) ?_
  refine W_seqK fun K1 h1 => ?_
  refine W_reg ?_
  simp [go_sem, ty4, ty27, ty33, markE_add, mvCore, nvCore, mvHart, nvHart, mvNode, nvNode, ← Nat.add_assoc]
  repeat refine tk ?_
  refine h1 _ ?_
  clear h1 K1
  refine W_seqK fun K2 h2 => ?_
  refine W_reg ?_
  simp [go_sem, ty3, markE_add, mvCore, nvCore, mvHart, nvHart, mvNode, nvNode, ← Nat.add_assoc]
  repeat refine tk ?_
  refine h2 _ ?_
  clear h2 K2
  refine W_seqK fun K3 h3 => ?_
  refine W_reg ?_
  simp [go_sem, ty3, ty27, markE_add, mvCore, nvCore, mvHart, nvHart, mvNode, nvNode, ← Nat.add_assoc]
  refine callA (fun hG => pc_laws_szCore c 1048576 (by first | assumption | omega) (by first | assumption | omega) (by first | assumption | omega)) (fun hG => by simp [go_sem, markE_add, mvCore, nvCore, mvHart, nvHart, mvNode, nvNode, ← Nat.add_assoc]) rfl rfl ?_
  simp [go_sem, ty3, markE_add, mvCore, nvCore, mvHart, nvHart, mvNode, nvNode, ← Nat.add_assoc]
  repeat refine tk ?_
  refine h3 _ ?_
  clear h3 K3
  refine W_seqK fun K4 h4 => ?_
  refine W_seqK fun K5 h5 => ?_
  refine W_reg ?_
  simp [go_sem, ty3, ty4, markE_add, mvCore, nvCore, mvHart, nvHart, mvNode, nvNode, ← Nat.add_assoc]
  repeat refine tk ?_
  refine h5 _ ?_
  clear h5 K5
  refine W_cond rfl (fun hb6 => ?_) fun hb6 => ?_
  · skip
    refine W_seqK fun K7 h7 => ?_
    refine W_reg ?_
    simp [go_sem, ty4, markE_add, mvCore, nvCore, mvHart, nvHart, mvNode, nvNode, ← Nat.add_assoc]
    repeat refine tk ?_
    refine h7 _ ?_
    clear h7 K7
    refine W_ret ?_
    simp [go_sem]
  · have hz_c := szL_pos hb6
    have hq_c := c.small_of (by omega)
    clear hb6
    have hn_c := nvCore_le c
    simp only [nvCore] at hn_c
    refine W_skip ?_
    repeat refine tk ?_
    refine h4 _ ?_
    clear h4 K4
    refine W_seqK fun K8 h8 => ?_
    refine W_reg ?_
    simp [go_sem, ty3, ty33, markE_add, mvCore, nvCore, mvHart, nvHart, mvNode, nvNode, ← Nat.add_assoc]
    refine callA (fun hG => pc_laws_szNode n (szL 1048576 c.tot) (by first | assumption | omega) (by first | assumption | omega) (by first | assumption | omega)) (fun hG => by simp [go_sem, markE_add, mvCore, nvCore, mvHart, nvHart, mvNode, nvNode, ← Nat.add_assoc]) rfl rfl ?_
    simp [go_sem, ty3, markE_add, mvCore, nvCore, mvHart, nvHart, mvNode, nvNode, ← Nat.add_assoc]
    repeat refine tk ?_
    refine h8 _ ?_
    clear h8 K8
    refine W_seqK fun K9 h9 => ?_
    refine W_seqK fun K10 h10 => ?_
    refine W_reg ?_
    simp [go_sem, ty3, ty4, markE_add, mvCore, nvCore, mvHart, nvHart, mvNode, nvNode, ← Nat.add_assoc]
    repeat refine tk ?_
    refine h10 _ ?_
    clear h10 K10
    refine W_cond rfl (fun hb11 => ?_) fun hb11 => ?_
    · skip
      refine W_seqK fun K12 h12 => ?_
      refine W_reg ?_
      simp [go_sem, ty4, markE_add, mvCore, nvCore, mvHart, nvHart, mvNode, nvNode, ← Nat.add_assoc]
      repeat refine tk ?_
      refine h12 _ ?_
      clear h12 K12
      refine W_ret ?_
      simp [go_sem]
    · have hz_n := szL_pos hb11
      have hq_n := n.small_of (by omega)
      clear hb11
      have hn_n := nvNode_le n
      simp only [nvNode] at hn_n
      obtain ⟨hcs, hns⟩ := coreStep_small (nodes := nodes) hq_c hq_n
      obtain ⟨hv1, hv2⟩ := coreStep_nv (c := c) (nodes := nodes) hq_n
      simp only [nvCore, nvNode] at hv1 hv2
      have hcs2 := hcs
      unfold GCore.small GHart.small at hcs2
      obtain ⟨w0, w1, w2⟩ := hcs2
      have hqc2 := hq_c
      unfold GCore.small GHart.small at hqc2
      obtain ⟨w3, w4, w5⟩ := hqc2
      have hns2 := hns
      unfold GNode.small at hns2
      obtain ⟨y1, y2, y3, y4, y5, y6, y7⟩ := hns2
      have hqn2 := hq_n
      unfold GNode.small at hqn2
      obtain ⟨z1, z2, z3, z4, z5, z6, z7⟩ := hqn2
      refine W_skip ?_
      repeat refine tk ?_
      refine h9 _ ?_
      clear h9 K9
      refine W_seqJK (α := Unit) (fun _u => ({ env := [(2, true, .l (.t (.int .i64 (nodes)))), (3, true, .l (.ptr 10 0)), (4, true, .l (.ptr 11 0)), (8, true, .l (.ptr 70 0)), (9, true, .l (.ptr 71 0)), (10, true, .l (.t (.int .i64 ((coreStep c n nodes).2.2))))], box := [(10, [.ref 0 [] 1 0 (c.hart.regs).length, .t (.int .i64 c.hart.pc), .t (.int .i64 c.hart.state), .ref 3 [] 2 0 (c.cache).length]), (11, [.t (.int .i64 n.id), .ref 5 [] 3 0 (n.frames).length, .ref 6 [] 8 0 (n.homes).length, .ref 7 [] 2 0 (n.out).length, .ref 8 [] 1 0 (n.in_).length]), (70, [.ref 60 [] 1 0 ((((coreStep c n nodes).1).hart).regs).length, .t (.int .i64 ((((coreStep c n nodes).1).hart).pc)), .t (.int .i64 ((((coreStep c n nodes).1).hart).state)), .ref 63 [] 2 0 (((coreStep c n nodes).1).cache).length]), (71, [.t (.int .i64 (((coreStep c n nodes).2.1).id)), .ref 65 [] 3 0 (((coreStep c n nodes).2.1).frames).length, .ref 66 [] 8 0 (((coreStep c n nodes).2.1).homes).length, .ref 67 [] 2 0 (((coreStep c n nodes).2.1).out).length, .ref 68 [] 1 0 (((coreStep c n nodes).2.1).in_).length])], row := [(0, ⟨.ro, 1, enc eI c.hart.regs⟩), (3, ⟨.ro, 2, enc eBlock c.cache⟩), (5, ⟨.ro, 3, enc eFrame n.frames⟩), (6, ⟨.ro, 8, enc eHome n.homes⟩), (7, ⟨.ro, 2, enc eSender n.out⟩), (8, ⟨.ro, 1, enc eReceiver n.in_⟩), (60, ⟨.own, 1, enc eI ((((coreStep c n nodes).1).hart).regs)⟩), (63, ⟨.own, 2, enc eBlock (((coreStep c n nodes).1).cache)⟩), (65, ⟨.own, 3, enc eFrame (((coreStep c n nodes).2.1).frames)⟩), (66, ⟨.own, 8, enc eHome (((coreStep c n nodes).2.1).homes)⟩), (67, ⟨.own, 2, enc eSender (((coreStep c n nodes).2.1).out)⟩), (68, ⟨.own, 1, enc eReceiver (((coreStep c n nodes).2.1).in_)⟩)], nxt := 88, sav := [] } : St)) (fun _u => True) (fun J13 hJ13 => ?_) ?_
      · refine W_drawI true (.op 0 (.op 2 (.op 4 (.fork3 1 (.fork3 3 (.fork3 5 (.op 6 (.op 7 (.op 8 (.op 9 (.fork 10 (.op 11 (.op 12 (.op 13 (.op 14 .nil)))) 11 (.op 10 (.op 12 (.op 13 (.op 14 .nil))))))))) 10 (.fork 5 (.op 6 (.op 7 (.op 8 (.op 9 (.op 11 (.op 12 (.op 13 (.op 14 .nil)))))))) 11 (.op 5 (.op 6 (.op 7 (.op 8 (.op 9 (.op 12 (.op 13 (.op 14 .nil))))))))) 11 (.fork 5 (.op 6 (.op 7 (.op 8 (.op 9 (.op 10 (.op 12 (.op 13 (.op 14 .nil)))))))) 10 (.op 5 (.op 6 (.op 7 (.op 8 (.op 9 (.op 12 (.op 13 (.op 14 .nil)))))))))) 10 (.fork 3 (.fork 5 (.op 6 (.op 7 (.op 8 (.op 9 (.op 11 (.op 12 (.op 13 (.op 14 .nil)))))))) 11 (.op 5 (.op 6 (.op 7 (.op 8 (.op 9 (.op 12 (.op 13 (.op 14 .nil))))))))) 11 (.op 3 (.op 5 (.op 6 (.op 7 (.op 8 (.op 9 (.op 12 (.op 13 (.op 14 .nil)))))))))) 11 (.fork 3 (.fork 5 (.op 6 (.op 7 (.op 8 (.op 9 (.op 10 (.op 12 (.op 13 (.op 14 .nil)))))))) 10 (.op 5 (.op 6 (.op 7 (.op 8 (.op 9 (.op 12 (.op 13 (.op 14 .nil))))))))) 10 (.op 3 (.op 5 (.op 6 (.op 7 (.op 8 (.op 9 (.op 12 (.op 13 (.op 14 .nil))))))))))) 10 (.fork 1 (.fork 3 (.fork 5 (.op 6 (.op 7 (.op 8 (.op 9 (.op 11 (.op 12 (.op 13 (.op 14 .nil)))))))) 11 (.op 5 (.op 6 (.op 7 (.op 8 (.op 9 (.op 12 (.op 13 (.op 14 .nil))))))))) 11 (.op 3 (.op 5 (.op 6 (.op 7 (.op 8 (.op 9 (.op 12 (.op 13 (.op 14 .nil)))))))))) 11 (.op 1 (.op 3 (.op 5 (.op 6 (.op 7 (.op 8 (.op 9 (.op 12 (.op 13 (.op 14 .nil))))))))))) 11 (.fork 1 (.fork 3 (.fork 5 (.op 6 (.op 7 (.op 8 (.op 9 (.op 10 (.op 12 (.op 13 (.op 14 .nil)))))))) 10 (.op 5 (.op 6 (.op 7 (.op 8 (.op 9 (.op 12 (.op 13 (.op 14 .nil))))))))) 10 (.op 3 (.op 5 (.op 6 (.op 7 (.op 8 (.op 9 (.op 12 (.op 13 (.op 14 .nil)))))))))) 10 (.op 1 (.op 3 (.op 5 (.op 6 (.op 7 (.op 8 (.op 9 (.op 12 (.op 13 (.op 14 .nil))))))))))))))) mixed (by decide +kernel) ?_
        repeat' first | (refine StepI_go rfl rfl fun K h => ?_; simp [go_sem, ty2, ty3, ty27, ty33, ty39, ty45, markE_add, mvCore, nvCore, mvHart, nvHart, mvNode, nvNode, ← Nat.add_assoc]; first | refine h _ ?_ | refine ⟨by omega, h _ ?_⟩ | (refine callA (fun hG => pc_laws_toCore c (by first | assumption | omega)) (fun hG => by simp [go_sem, markE_add, mvCore, nvCore, mvHart, nvHart, mvNode, nvNode, ← Nat.add_assoc]) rfl rfl ?_; try simp [go_sem, ty2, ty3, ty27, ty33, ty39, ty45, markE_add, mvCore, nvCore, mvHart, nvHart, mvNode, nvNode, ← Nat.add_assoc]; refine h _ ?_) | (refine callA (fun hG => pc_laws_toNode n (by first | assumption | omega)) (fun hG => by simp [go_sem, markE_add, mvCore, nvCore, mvHart, nvHart, mvNode, nvNode, ← Nat.add_assoc]) rfl rfl ?_; try simp [go_sem, ty2, ty3, ty27, ty33, ty39, ty45, markE_add, mvCore, nvCore, mvHart, nvHart, mvNode, nvNode, ← Nat.add_assoc]; refine h _ ?_) | (refine callA (fun hG => pc_spec_CoreStep c n nodes (by first | assumption | omega) (by first | assumption | omega)) (fun hG => by simp [go_sem, markE_add, mvCore, nvCore, mvHart, nvHart, mvNode, nvNode, ← Nat.add_assoc]) rfl rfl ?_; try simp [go_sem, ty2, ty3, ty27, ty33, ty39, ty45, markE_add, mvCore, nvCore, mvHart, nvHart, mvNode, nvNode, ← Nat.add_assoc]; refine h _ ?_)) | refine RunI_f2 ?_ ?_ | refine RunI_f3 ?_ ?_ ?_
        · refine RunI_end ?_
          (repeat refine tk ?_); refine hJ13 _ ⟨(), trivial, ?_⟩
          exact (Sub.swp_box 33 70 rfl).trans ((Sub.swp_row 23 60 rfl).trans ((Sub.swp_row 26 63 rfl).trans ((Sub.swp_box 34 71 rfl).trans ((Sub.swp_row 28 65 rfl).trans ((Sub.swp_row 29 66 rfl).trans ((Sub.swp_row 30 67 rfl).trans ((Sub.swp_row 31 68 rfl).trans (Sub.of_neat [2, 3, 4, 8, 9, 10] [0, 3, 5, 6, 7, 8, 60, 63, 65, 66, 67, 68] [10, 11, 70, 71] 88 (by decide) (by simp [go_sem])))))))))
        · refine RunI_end ?_
          (repeat refine tk ?_); refine hJ13 _ ⟨(), trivial, ?_⟩
          exact (Sub.swp_box 34 70 rfl).trans ((Sub.swp_row 23 60 rfl).trans ((Sub.swp_row 26 63 rfl).trans ((Sub.swp_box 33 71 rfl).trans ((Sub.swp_row 28 65 rfl).trans ((Sub.swp_row 29 66 rfl).trans ((Sub.swp_row 30 67 rfl).trans ((Sub.swp_row 31 68 rfl).trans (Sub.of_neat [2, 3, 4, 8, 9, 10] [0, 3, 5, 6, 7, 8, 60, 63, 65, 66, 67, 68] [10, 11, 70, 71] 88 (by decide) (by simp [go_sem])))))))))
        · refine RunI_end ?_
          (repeat refine tk ?_); refine hJ13 _ ⟨(), trivial, ?_⟩
          exact (Sub.swp_box 23 70 rfl).trans ((Sub.swp_row 24 60 rfl).trans ((Sub.swp_row 27 63 rfl).trans ((Sub.swp_box 34 71 rfl).trans ((Sub.swp_row 29 65 rfl).trans ((Sub.swp_row 30 66 rfl).trans ((Sub.swp_row 31 67 rfl).trans ((Sub.swp_row 32 68 rfl).trans (Sub.of_neat [2, 3, 4, 8, 9, 10] [0, 3, 5, 6, 7, 8, 60, 63, 65, 66, 67, 68] [10, 11, 70, 71] 88 (by decide) (by simp [go_sem])))))))))
        · refine RunI_end ?_
          (repeat refine tk ?_); refine hJ13 _ ⟨(), trivial, ?_⟩
          exact (Sub.swp_box 23 70 rfl).trans ((Sub.swp_row 25 60 rfl).trans ((Sub.swp_row 28 63 rfl).trans ((Sub.swp_box 24 71 rfl).trans ((Sub.swp_row 30 65 rfl).trans ((Sub.swp_row 31 66 rfl).trans ((Sub.swp_row 32 67 rfl).trans ((Sub.swp_row 33 68 rfl).trans (Sub.of_neat [2, 3, 4, 8, 9, 10] [0, 3, 5, 6, 7, 8, 60, 63, 65, 66, 67, 68] [10, 11, 70, 71] 88 (by decide) (by simp [go_sem])))))))))
        · refine RunI_end ?_
          (repeat refine tk ?_); refine hJ13 _ ⟨(), trivial, ?_⟩
          exact (Sub.swp_box 34 70 rfl).trans ((Sub.swp_row 24 60 rfl).trans ((Sub.swp_row 27 63 rfl).trans ((Sub.swp_box 23 71 rfl).trans ((Sub.swp_row 29 65 rfl).trans ((Sub.swp_row 30 66 rfl).trans ((Sub.swp_row 31 67 rfl).trans ((Sub.swp_row 32 68 rfl).trans (Sub.of_neat [2, 3, 4, 8, 9, 10] [0, 3, 5, 6, 7, 8, 60, 63, 65, 66, 67, 68] [10, 11, 70, 71] 88 (by decide) (by simp [go_sem])))))))))
        · refine RunI_end ?_
          (repeat refine tk ?_); refine hJ13 _ ⟨(), trivial, ?_⟩
          exact (Sub.swp_box 24 70 rfl).trans ((Sub.swp_row 25 60 rfl).trans ((Sub.swp_row 28 63 rfl).trans ((Sub.swp_box 23 71 rfl).trans ((Sub.swp_row 30 65 rfl).trans ((Sub.swp_row 31 66 rfl).trans ((Sub.swp_row 32 67 rfl).trans ((Sub.swp_row 33 68 rfl).trans (Sub.of_neat [2, 3, 4, 8, 9, 10] [0, 3, 5, 6, 7, 8, 60, 63, 65, 66, 67, 68] [10, 11, 70, 71] 88 (by decide) (by simp [go_sem])))))))))
        · refine RunI_end ?_
          (repeat refine tk ?_); refine hJ13 _ ⟨(), trivial, ?_⟩
          exact (Sub.swp_box 18 70 rfl).trans ((Sub.swp_row 24 60 rfl).trans ((Sub.swp_row 27 63 rfl).trans ((Sub.swp_box 34 71 rfl).trans ((Sub.swp_row 29 65 rfl).trans ((Sub.swp_row 30 66 rfl).trans ((Sub.swp_row 31 67 rfl).trans ((Sub.swp_row 32 68 rfl).trans (Sub.of_neat [2, 3, 4, 8, 9, 10] [0, 3, 5, 6, 7, 8, 60, 63, 65, 66, 67, 68] [10, 11, 70, 71] 88 (by decide) (by simp [go_sem])))))))))
        · refine RunI_end ?_
          (repeat refine tk ?_); refine hJ13 _ ⟨(), trivial, ?_⟩
          exact (Sub.swp_box 18 70 rfl).trans ((Sub.swp_row 25 60 rfl).trans ((Sub.swp_row 28 63 rfl).trans ((Sub.swp_box 24 71 rfl).trans ((Sub.swp_row 30 65 rfl).trans ((Sub.swp_row 31 66 rfl).trans ((Sub.swp_row 32 67 rfl).trans ((Sub.swp_row 33 68 rfl).trans (Sub.of_neat [2, 3, 4, 8, 9, 10] [0, 3, 5, 6, 7, 8, 60, 63, 65, 66, 67, 68] [10, 11, 70, 71] 88 (by decide) (by simp [go_sem])))))))))
        · refine RunI_end ?_
          (repeat refine tk ?_); refine hJ13 _ ⟨(), trivial, ?_⟩
          exact (Sub.swp_box 18 70 rfl).trans ((Sub.swp_row 25 60 rfl).trans ((Sub.swp_row 28 63 rfl).trans ((Sub.swp_box 19 71 rfl).trans ((Sub.swp_row 30 65 rfl).trans ((Sub.swp_row 31 66 rfl).trans ((Sub.swp_row 32 67 rfl).trans ((Sub.swp_row 33 68 rfl).trans (Sub.of_neat [2, 3, 4, 8, 9, 10] [0, 3, 5, 6, 7, 8, 60, 63, 65, 66, 67, 68] [10, 11, 70, 71] 88 (by decide) (by simp [go_sem])))))))))
        · refine RunI_end ?_
          (repeat refine tk ?_); refine hJ13 _ ⟨(), trivial, ?_⟩
          exact (Sub.swp_box 34 70 rfl).trans ((Sub.swp_row 24 60 rfl).trans ((Sub.swp_row 27 63 rfl).trans ((Sub.swp_box 18 71 rfl).trans ((Sub.swp_row 29 65 rfl).trans ((Sub.swp_row 30 66 rfl).trans ((Sub.swp_row 31 67 rfl).trans ((Sub.swp_row 32 68 rfl).trans (Sub.of_neat [2, 3, 4, 8, 9, 10] [0, 3, 5, 6, 7, 8, 60, 63, 65, 66, 67, 68] [10, 11, 70, 71] 88 (by decide) (by simp [go_sem])))))))))
        · refine RunI_end ?_
          (repeat refine tk ?_); refine hJ13 _ ⟨(), trivial, ?_⟩
          exact (Sub.swp_box 24 70 rfl).trans ((Sub.swp_row 25 60 rfl).trans ((Sub.swp_row 28 63 rfl).trans ((Sub.swp_box 18 71 rfl).trans ((Sub.swp_row 30 65 rfl).trans ((Sub.swp_row 31 66 rfl).trans ((Sub.swp_row 32 67 rfl).trans ((Sub.swp_row 33 68 rfl).trans (Sub.of_neat [2, 3, 4, 8, 9, 10] [0, 3, 5, 6, 7, 8, 60, 63, 65, 66, 67, 68] [10, 11, 70, 71] 88 (by decide) (by simp [go_sem])))))))))
        · refine RunI_end ?_
          (repeat refine tk ?_); refine hJ13 _ ⟨(), trivial, ?_⟩
          exact (Sub.swp_box 19 70 rfl).trans ((Sub.swp_row 25 60 rfl).trans ((Sub.swp_row 28 63 rfl).trans ((Sub.swp_box 18 71 rfl).trans ((Sub.swp_row 30 65 rfl).trans ((Sub.swp_row 31 66 rfl).trans ((Sub.swp_row 32 67 rfl).trans ((Sub.swp_row 33 68 rfl).trans (Sub.of_neat [2, 3, 4, 8, 9, 10] [0, 3, 5, 6, 7, 8, 60, 63, 65, 66, 67, 68] [10, 11, 70, 71] 88 (by decide) (by simp [go_sem])))))))))
        · refine RunI_end ?_
          (repeat refine tk ?_); refine hJ13 _ ⟨(), trivial, ?_⟩
          exact (Sub.swp_box 14 70 rfl).trans ((Sub.swp_row 24 60 rfl).trans ((Sub.swp_row 27 63 rfl).trans ((Sub.swp_box 34 71 rfl).trans ((Sub.swp_row 29 65 rfl).trans ((Sub.swp_row 30 66 rfl).trans ((Sub.swp_row 31 67 rfl).trans ((Sub.swp_row 32 68 rfl).trans (Sub.of_neat [2, 3, 4, 8, 9, 10] [0, 3, 5, 6, 7, 8, 60, 63, 65, 66, 67, 68] [10, 11, 70, 71] 88 (by decide) (by simp [go_sem])))))))))
        · refine RunI_end ?_
          (repeat refine tk ?_); refine hJ13 _ ⟨(), trivial, ?_⟩
          exact (Sub.swp_box 14 70 rfl).trans ((Sub.swp_row 25 60 rfl).trans ((Sub.swp_row 28 63 rfl).trans ((Sub.swp_box 24 71 rfl).trans ((Sub.swp_row 30 65 rfl).trans ((Sub.swp_row 31 66 rfl).trans ((Sub.swp_row 32 67 rfl).trans ((Sub.swp_row 33 68 rfl).trans (Sub.of_neat [2, 3, 4, 8, 9, 10] [0, 3, 5, 6, 7, 8, 60, 63, 65, 66, 67, 68] [10, 11, 70, 71] 88 (by decide) (by simp [go_sem])))))))))
        · refine RunI_end ?_
          (repeat refine tk ?_); refine hJ13 _ ⟨(), trivial, ?_⟩
          exact (Sub.swp_box 14 70 rfl).trans ((Sub.swp_row 25 60 rfl).trans ((Sub.swp_row 28 63 rfl).trans ((Sub.swp_box 19 71 rfl).trans ((Sub.swp_row 30 65 rfl).trans ((Sub.swp_row 31 66 rfl).trans ((Sub.swp_row 32 67 rfl).trans ((Sub.swp_row 33 68 rfl).trans (Sub.of_neat [2, 3, 4, 8, 9, 10] [0, 3, 5, 6, 7, 8, 60, 63, 65, 66, 67, 68] [10, 11, 70, 71] 88 (by decide) (by simp [go_sem])))))))))
        · refine RunI_end ?_
          (repeat refine tk ?_); refine hJ13 _ ⟨(), trivial, ?_⟩
          exact (Sub.swp_box 14 70 rfl).trans ((Sub.swp_row 25 60 rfl).trans ((Sub.swp_row 28 63 rfl).trans ((Sub.swp_box 15 71 rfl).trans ((Sub.swp_row 30 65 rfl).trans ((Sub.swp_row 31 66 rfl).trans ((Sub.swp_row 32 67 rfl).trans ((Sub.swp_row 33 68 rfl).trans (Sub.of_neat [2, 3, 4, 8, 9, 10] [0, 3, 5, 6, 7, 8, 60, 63, 65, 66, 67, 68] [10, 11, 70, 71] 88 (by decide) (by simp [go_sem])))))))))
        · refine RunI_end ?_
          (repeat refine tk ?_); refine hJ13 _ ⟨(), trivial, ?_⟩
          exact (Sub.swp_box 34 70 rfl).trans ((Sub.swp_row 24 60 rfl).trans ((Sub.swp_row 27 63 rfl).trans ((Sub.swp_box 14 71 rfl).trans ((Sub.swp_row 29 65 rfl).trans ((Sub.swp_row 30 66 rfl).trans ((Sub.swp_row 31 67 rfl).trans ((Sub.swp_row 32 68 rfl).trans (Sub.of_neat [2, 3, 4, 8, 9, 10] [0, 3, 5, 6, 7, 8, 60, 63, 65, 66, 67, 68] [10, 11, 70, 71] 88 (by decide) (by simp [go_sem])))))))))
        · refine RunI_end ?_
          (repeat refine tk ?_); refine hJ13 _ ⟨(), trivial, ?_⟩
          exact (Sub.swp_box 24 70 rfl).trans ((Sub.swp_row 25 60 rfl).trans ((Sub.swp_row 28 63 rfl).trans ((Sub.swp_box 14 71 rfl).trans ((Sub.swp_row 30 65 rfl).trans ((Sub.swp_row 31 66 rfl).trans ((Sub.swp_row 32 67 rfl).trans ((Sub.swp_row 33 68 rfl).trans (Sub.of_neat [2, 3, 4, 8, 9, 10] [0, 3, 5, 6, 7, 8, 60, 63, 65, 66, 67, 68] [10, 11, 70, 71] 88 (by decide) (by simp [go_sem])))))))))
        · refine RunI_end ?_
          (repeat refine tk ?_); refine hJ13 _ ⟨(), trivial, ?_⟩
          exact (Sub.swp_box 19 70 rfl).trans ((Sub.swp_row 25 60 rfl).trans ((Sub.swp_row 28 63 rfl).trans ((Sub.swp_box 14 71 rfl).trans ((Sub.swp_row 30 65 rfl).trans ((Sub.swp_row 31 66 rfl).trans ((Sub.swp_row 32 67 rfl).trans ((Sub.swp_row 33 68 rfl).trans (Sub.of_neat [2, 3, 4, 8, 9, 10] [0, 3, 5, 6, 7, 8, 60, 63, 65, 66, 67, 68] [10, 11, 70, 71] 88 (by decide) (by simp [go_sem])))))))))
        · refine RunI_end ?_
          (repeat refine tk ?_); refine hJ13 _ ⟨(), trivial, ?_⟩
          exact (Sub.swp_box 15 70 rfl).trans ((Sub.swp_row 25 60 rfl).trans ((Sub.swp_row 28 63 rfl).trans ((Sub.swp_box 14 71 rfl).trans ((Sub.swp_row 30 65 rfl).trans ((Sub.swp_row 31 66 rfl).trans ((Sub.swp_row 32 67 rfl).trans ((Sub.swp_row 33 68 rfl).trans (Sub.of_neat [2, 3, 4, 8, 9, 10] [0, 3, 5, 6, 7, 8, 60, 63, 65, 66, 67, 68] [10, 11, 70, 71] 88 (by decide) (by simp [go_sem])))))))))
      · rintro _ hinv
        refine W_seqK fun K14 h14 => ?_
        refine W_reg ?_
        simp [go_sem, ty27, ty39, markE_add, mvCore, nvCore, mvHart, nvHart, mvNode, nvNode, ← Nat.add_assoc]
        refine callA (fun hG => pc_laws_toCore c (by first | assumption | omega)) (fun hG => by simp [go_sem, markE_add, mvCore, nvCore, mvHart, nvHart, mvNode, nvNode, ← Nat.add_assoc]) rfl rfl ?_
        simp [go_sem, ty39, markE_add, mvCore, nvCore, mvHart, nvHart, mvNode, nvNode, ← Nat.add_assoc]
        repeat refine tk ?_
        refine h14 _ ?_
        clear h14 K14
        refine W_seqK fun K15 h15 => ?_
        refine W_reg ?_
        simp [go_sem, ty33, ty45, markE_add, mvCore, nvCore, mvHart, nvHart, mvNode, nvNode, ← Nat.add_assoc]
        refine callA (fun hG => pc_laws_toNode n (by first | assumption | omega)) (fun hG => by simp [go_sem, markE_add, mvCore, nvCore, mvHart, nvHart, mvNode, nvNode, ← Nat.add_assoc]) rfl rfl ?_
        simp [go_sem, ty45, markE_add, mvCore, nvCore, mvHart, nvHart, mvNode, nvNode, ← Nat.add_assoc]
        repeat refine tk ?_
        refine h15 _ ?_
        clear h15 K15
        refine W_seqK fun K16 h16 => ?_
        refine W_reg ?_
        simp [go_sem, ty3, ty39, ty45, markE_add, mvCore, nvCore, mvHart, nvHart, mvNode, nvNode, ← Nat.add_assoc]
        refine callA (fun hG => pc_impl_CoreStep c n nodes (by first | assumption | omega) (by first | assumption | omega)) (fun hG => by simp [go_sem, markE_add, mvCore, nvCore, mvHart, nvHart, mvNode, nvNode, ← Nat.add_assoc]) rfl rfl ?_
        simp [go_sem, ty2, ty3, ty39, ty45, markE_add, mvCore, nvCore, mvHart, nvHart, mvNode, nvNode, ← Nat.add_assoc]
        repeat refine tk ?_
        refine h16 _ ?_
        clear h16 K16
        refine W_seqK fun K17 h17 => ?_
        refine W_seqK fun K18 h18 => ?_
        refine W_reg ?_
        simp [go_sem, ty4, ty39, markE_add, mvCore, nvCore, mvHart, nvHart, mvNode, nvNode, ← Nat.add_assoc]
        refine callA (fun hG => pc_laws_eqCore ((coreStep c n nodes).1) ((coreStep c n nodes).1) (by first | assumption | omega)) (fun hG => by simp [go_sem, markE_add, mvCore, nvCore, mvHart, nvHart, mvNode, nvNode, ← Nat.add_assoc]) rfl rfl ?_
        simp [go_sem, ty4, ty45, markE_add, mvCore, nvCore, mvHart, nvHart, mvNode, nvNode, ← Nat.add_assoc]
        refine callA (fun hG => pc_laws_eqNode ((coreStep c n nodes).2.1) ((coreStep c n nodes).2.1) (by first | assumption | omega)) (fun hG => by simp [go_sem, markE_add, mvCore, nvCore, mvHart, nvHart, mvNode, nvNode, ← Nat.add_assoc]) rfl rfl ?_
        simp [go_sem, ty3, ty4, markE_add, mvCore, nvCore, mvHart, nvHart, mvNode, nvNode, ← Nat.add_assoc]
        repeat refine tk ?_
        refine h18 _ ?_
        clear h18 K18
        refine W_cond rfl (fun hb19 => by first | (simp at hb19; done) | (simp at hb19; omega) | (simp at hb19; exact absurd hb19 (Int.not_lt.2 (markE_nn _ (by omega))))) fun hb19 => ?_
        clear hb19
        refine W_skip ?_
        repeat refine tk ?_
        refine h17 _ ?_
        clear h17 K17
        refine W_seqK fun K20 h20 => ?_
        refine W_seqK fun K21 h21 => ?_
        refine W_drawT true mixed (by decide +kernel) ?_
        simp [go_sem, ty27, ty39, markE_add, mvCore, nvCore, mvHart, nvHart, mvNode, nvNode, ← Nat.add_assoc]
        refine callA (fun hG => pc_laws_toCore c (by first | assumption | omega)) (fun hG => by simp [go_sem, markE_add, mvCore, nvCore, mvHart, nvHart, mvNode, nvNode, ← Nat.add_assoc]) rfl rfl ?_
        simp [go_sem, ty4, ty39, markE_add, mvCore, nvCore, mvHart, nvHart, mvNode, nvNode, ← Nat.add_assoc]
        refine callA (fun hG => pc_laws_eqCore c c (by first | assumption | omega)) (fun hG => by simp [go_sem, markE_add, mvCore, nvCore, mvHart, nvHart, mvNode, nvNode, ← Nat.add_assoc]) rfl rfl ?_
        simp [go_sem, ty4, markE_add, mvCore, nvCore, mvHart, nvHart, mvNode, nvNode, ← Nat.add_assoc]
        repeat refine tk ?_
        refine h21 _ ?_
        clear h21 K21
        refine W_cond rfl (fun hb22 => by first | (simp at hb22; done) | (simp at hb22; omega) | (simp at hb22; exact absurd hb22 (Int.not_lt.2 (markE_nn _ (by omega))))) fun hb22 => ?_
        clear hb22
        refine W_skip ?_
        repeat refine tk ?_
        refine h20 _ ?_
        clear h20 K20
        refine W_seqK fun K23 h23 => ?_
        refine W_seqK fun K24 h24 => ?_
        refine W_drawT true mixed (by decide +kernel) ?_
        simp [go_sem, ty33, ty45, markE_add, mvCore, nvCore, mvHart, nvHart, mvNode, nvNode, ← Nat.add_assoc]
        refine callA (fun hG => pc_laws_toNode n (by first | assumption | omega)) (fun hG => by simp [go_sem, markE_add, mvCore, nvCore, mvHart, nvHart, mvNode, nvNode, ← Nat.add_assoc]) rfl rfl ?_
        simp [go_sem, ty4, ty45, markE_add, mvCore, nvCore, mvHart, nvHart, mvNode, nvNode, ← Nat.add_assoc]
        refine callA (fun hG => pc_laws_eqNode n n (by first | assumption | omega)) (fun hG => by simp [go_sem, markE_add, mvCore, nvCore, mvHart, nvHart, mvNode, nvNode, ← Nat.add_assoc]) rfl rfl ?_
        simp [go_sem, ty4, markE_add, mvCore, nvCore, mvHart, nvHart, mvNode, nvNode, ← Nat.add_assoc]
        repeat refine tk ?_
        refine h24 _ ?_
        clear h24 K24
        refine W_cond rfl (fun hb25 => by first | (simp at hb25; done) | (simp at hb25; omega) | (simp at hb25; exact absurd hb25 (Int.not_lt.2 (markE_nn _ (by omega))))) fun hb25 => ?_
        clear hb25
        refine W_skip ?_
        repeat refine tk ?_
        refine h23 _ ?_
        clear h23 K23
        refine W_seqK fun K26 h26 => ?_
        refine W_reg ?_
        simp [go_sem, ty3, markE_add, mvCore, nvCore, mvHart, nvHart, mvNode, nvNode, ← Nat.add_assoc]
        repeat refine tk ?_
        refine h26 _ ?_
        clear h26 K26
        refine W_seqK fun K27 h27 => ?_
        refine W_reg ?_
        simp [go_sem, ty3, ty39, markE_add, mvCore, nvCore, mvHart, nvHart, mvNode, nvNode, ← Nat.add_assoc]
        refine callG_true (by simp) ((CallW_inline (n := 14) Tryz.func12 rfl rfl rfl rfl (by simp) fun a_ => ?_))
        refine W_seqK fun K28 h28 => ?_
        refine W_reg ?_
        simp [go_sem, ty3, ty39, markE_add, mvCore, nvCore, mvHart, nvHart, mvNode, nvNode, ← Nat.add_assoc]
        repeat refine tk ?_
        refine h28 _ ?_
        clear h28 K28
        refine W_seqK fun K29 h29 => ?_
        refine W_reg ?_
        simp [go_sem, ty3, ty36, ty39, markE_add, mvCore, nvCore, mvHart, nvHart, mvNode, nvNode, ← Nat.add_assoc]
        refine callG_true (by simp) ((CallW_inline (n := 10) Tryz.func58 rfl rfl rfl rfl (by simp) fun a_ => ?_))
        refine W_seqK fun K30 h30 => ?_
        refine W_reg ?_
        simp [go_sem, ty3, ty36, markE_add, mvCore, nvCore, mvHart, nvHart, mvNode, nvNode, ← Nat.add_assoc]
        repeat refine tk ?_
        refine h30 _ ?_
        clear h30 K30
        refine W_seqK fun K31 h31 => ?_
        refine W_reg ?_
        simp [go_sem, ty3, ty22, ty36, markE_add, mvCore, nvCore, mvHart, nvHart, mvNode, nvNode, ← Nat.add_assoc]
        refine callG_true (by simp) (CallW_mut (mc_laws_markIntS c.hart.regs 1 (by first | assumption | omega)) rfl rfl rfl (by simp [go_sem, markE_add, mvCore, nvCore, mvHart, nvHart, mvNode, nvNode, ← Nat.add_assoc]) rfl ?_)
        simp [go_sem, ty3, markE_add, mvCore, nvCore, mvHart, nvHart, mvNode, nvNode, ← Nat.add_assoc]
        repeat refine tk ?_
        refine h31 _ ?_
        clear h31 K31
        refine W_seqK fun K32 h32 => ?_
        refine W_reg ?_
        simp [go_sem, ty3, markE_add, mvCore, nvCore, mvHart, nvHart, mvNode, nvNode, ← Nat.add_assoc]
        repeat refine tk ?_
        refine h32 _ ?_
        clear h32 K32
        refine W_ret ?_
        simp [go_sem]
        refine ⟨_, _, ⟨rfl, rfl⟩, ?_⟩
        simp [go_sem, ty3, markE_add, mvCore, nvCore, mvHart, nvHart, mvNode, nvNode, ← Nat.add_assoc]
        repeat refine tk ?_
        refine h29 _ ?_
        clear h29 K29
        refine W_seqK fun K33 h33 => ?_
        refine W_reg ?_
        simp [go_sem, ty3, ty37, ty39, ty74, markE_add, mvCore, nvCore, mvHart, nvHart, mvNode, nvNode, ← Nat.add_assoc]
        refine callG_true (by simp) (CallW_mut (mc_laws_markBlockS c.cache (markE 1 (c.hart.regs.length)) (by first | assumption | omega) (by first | assumption | omega)) rfl rfl rfl (by simp [go_sem, markE_add, mvCore, nvCore, mvHart, nvHart, mvNode, nvNode, ← Nat.add_assoc]) rfl ?_)
        simp [go_sem, ty3, markE_add, mvCore, nvCore, mvHart, nvHart, mvNode, nvNode, ← Nat.add_assoc]
        repeat refine tk ?_
        refine h33 _ ?_
        clear h33 K33
        refine W_seqK fun K34 h34 => ?_
        refine W_reg ?_
        simp [go_sem, ty3, markE_add, mvCore, nvCore, mvHart, nvHart, mvNode, nvNode, ← Nat.add_assoc]
        repeat refine tk ?_
        refine h34 _ ?_
        clear h34 K34
        refine W_ret ?_
        simp [go_sem]
        refine ⟨_, _, ⟨rfl, rfl⟩, ?_⟩
        simp [go_sem, ty3, markE_add, mvCore, nvCore, mvHart, nvHart, mvNode, nvNode, ← Nat.add_assoc]
        repeat refine tk ?_
        refine h27 _ ?_
        clear h27 K27
        refine W_seqK fun K35 h35 => ?_
        refine W_reg ?_
        simp [go_sem, ty3, ty45, markE_add, mvCore, nvCore, mvHart, nvHart, mvNode, nvNode, ← Nat.add_assoc]
        refine callG_true (by simp) ((CallW_inline (n := 22) Tryz.func13 rfl rfl rfl rfl (by simp) fun a_ => ?_))
        refine W_seqK fun K36 h36 => ?_
        refine W_reg ?_
        simp [go_sem, ty3, ty45, markE_add, mvCore, nvCore, mvHart, nvHart, mvNode, nvNode, ← Nat.add_assoc]
        repeat refine tk ?_
        refine h36 _ ?_
        clear h36 K36
        refine W_seqK fun K37 h37 => ?_
        refine W_reg ?_
        simp [go_sem, ty3, ty40, ty45, ty65, markE_add, mvCore, nvCore, mvHart, nvHart, mvNode, nvNode, ← Nat.add_assoc]
        refine callG_true (by simp) (CallW_mut (mc_laws_markFrameS n.frames (markE 1 (c.hart.regs.length + (c.cache.map nBlock).sum)) (by first | assumption | omega) (by first | assumption | omega)) rfl rfl rfl (by simp [go_sem, markE_add, mvCore, nvCore, mvHart, nvHart, mvNode, nvNode, ← Nat.add_assoc]) rfl ?_)
        simp [go_sem, ty3, markE_add, mvCore, nvCore, mvHart, nvHart, mvNode, nvNode, ← Nat.add_assoc]
        repeat refine tk ?_
        refine h37 _ ?_
        clear h37 K37
        refine W_seqK fun K38 h38 => ?_
        refine W_reg ?_
        simp [go_sem, ty3, ty41, ty45, ty132, markE_add, mvCore, nvCore, mvHart, nvHart, mvNode, nvNode, ← Nat.add_assoc]
        refine callG_true (by simp) (CallW_mut (mc_laws_markHomeS n.homes (markE 1 (c.hart.regs.length + (c.cache.map nBlock).sum + (n.frames.map nFrame).sum)) (by first | assumption | omega) (by first | assumption | omega)) rfl rfl rfl (by simp [go_sem, markE_add, mvCore, nvCore, mvHart, nvHart, mvNode, nvNode, ← Nat.add_assoc]) rfl ?_)
        simp [go_sem, ty3, markE_add, mvCore, nvCore, mvHart, nvHart, mvNode, nvNode, ← Nat.add_assoc]
        repeat refine tk ?_
        refine h38 _ ?_
        clear h38 K38
        refine W_seqK fun K39 h39 => ?_
        refine W_reg ?_
        simp [go_sem, ty3, ty42, ty45, ty136, markE_add, mvCore, nvCore, mvHart, nvHart, mvNode, nvNode, ← Nat.add_assoc]
        refine callG_true (by simp) (CallW_mut (mc_laws_markSenderS n.out (markE 1 (c.hart.regs.length + (c.cache.map nBlock).sum + (n.frames.map nFrame).sum + (n.homes.map nHome).sum)) (by first | assumption | omega) (by first | assumption | omega)) rfl rfl rfl (by simp [go_sem, markE_add, mvCore, nvCore, mvHart, nvHart, mvNode, nvNode, ← Nat.add_assoc]) rfl ?_)
        simp [go_sem, ty3, markE_add, mvCore, nvCore, mvHart, nvHart, mvNode, nvNode, ← Nat.add_assoc]
        repeat refine tk ?_
        refine h39 _ ?_
        clear h39 K39
        refine W_seqK fun K40 h40 => ?_
        refine W_reg ?_
        simp [go_sem, ty3, ty43, ty45, ty153, markE_add, mvCore, nvCore, mvHart, nvHart, mvNode, nvNode, ← Nat.add_assoc]
        refine callG_true (by simp) (CallW_mut (mc_laws_markReceiverS n.in_ (markE 1 (c.hart.regs.length + (c.cache.map nBlock).sum + (n.frames.map nFrame).sum + (n.homes.map nHome).sum + (n.out.map nSender).sum)) (by first | assumption | omega)) rfl rfl rfl (by simp [go_sem, markE_add, mvCore, nvCore, mvHart, nvHart, mvNode, nvNode, ← Nat.add_assoc]) rfl ?_)
        simp [go_sem, ty3, markE_add, mvCore, nvCore, mvHart, nvHart, mvNode, nvNode, ← Nat.add_assoc]
        repeat refine tk ?_
        refine h40 _ ?_
        clear h40 K40
        refine W_seqK fun K41 h41 => ?_
        refine W_reg ?_
        simp [go_sem, ty3, markE_add, mvCore, nvCore, mvHart, nvHart, mvNode, nvNode, ← Nat.add_assoc]
        repeat refine tk ?_
        refine h41 _ ?_
        clear h41 K41
        refine W_ret ?_
        simp [go_sem]
        refine ⟨_, _, ⟨rfl, rfl⟩, ?_⟩
        simp [go_sem, ty3, markE_add, mvCore, nvCore, mvHart, nvHart, mvNode, nvNode, ← Nat.add_assoc]
        repeat refine tk ?_
        refine h35 _ ?_
        clear h35 K35
        refine W_seqK fun K42 h42 => ?_
        refine W_seqK fun K43 h43 => ?_
        refine W_reg ?_
        simp [go_sem, ty3, ty4, ty39, markE_add, mvCore, nvCore, mvHart, nvHart, mvNode, nvNode, ← Nat.add_assoc]
        refine callA (fun hG => pc_laws_eqCore ((coreStep c n nodes).1) ((coreStep c n nodes).1) (by first | assumption | omega)) (fun hG => by simp [go_sem, markE_add, mvCore, nvCore, mvHart, nvHart, mvNode, nvNode, ← Nat.add_assoc]) rfl rfl ?_
        simp [go_sem, ty4, ty45, markE_add, mvCore, nvCore, mvHart, nvHart, mvNode, nvNode, ← Nat.add_assoc]
        refine callA (fun hG => pc_laws_eqNode ((coreStep c n nodes).2.1) ((coreStep c n nodes).2.1) (by first | assumption | omega)) (fun hG => by simp [go_sem, markE_add, mvCore, nvCore, mvHart, nvHart, mvNode, nvNode, ← Nat.add_assoc]) rfl rfl ?_
        simp [go_sem, ty3, ty4, markE_add, mvCore, nvCore, mvHart, nvHart, mvNode, nvNode, ← Nat.add_assoc]
        repeat refine tk ?_
        refine h43 _ ?_
        clear h43 K43
        refine W_cond rfl (fun hb44 => by first | (simp at hb44; done) | (simp at hb44; omega) | (simp at hb44; exact absurd hb44 (Int.not_lt.2 (markE_nn _ (by omega))))) fun hb44 => ?_
        clear hb44
        refine W_skip ?_
        repeat refine tk ?_
        refine h42 _ ?_
        clear h42 K42
        refine W_seqK fun K45 h45 => ?_
        refine W_reg ?_
        simp [go_sem, ty3, markE_add, mvCore, nvCore, mvHart, nvHart, mvNode, nvNode, ← Nat.add_assoc]
        repeat refine tk ?_
        refine h45 _ ?_
        clear h45 K45
        refine W_seqK fun K46 h46 => ?_
        refine W_reg ?_
        simp [go_sem, ty3, ty39, markE_add, mvCore, nvCore, mvHart, nvHart, mvNode, nvNode, ← Nat.add_assoc]
        refine callG_true (by simp) ((CallW_inline (n := 14) Tryz.func12 rfl rfl rfl rfl (by simp) fun a_ => ?_))
        refine W_seqK fun K47 h47 => ?_
        refine W_reg ?_
        simp [go_sem, ty3, ty39, markE_add, mvCore, nvCore, mvHart, nvHart, mvNode, nvNode, ← Nat.add_assoc]
        repeat refine tk ?_
        refine h47 _ ?_
        clear h47 K47
        refine W_seqK fun K48 h48 => ?_
        refine W_reg ?_
        simp [go_sem, ty3, ty36, ty39, markE_add, mvCore, nvCore, mvHart, nvHart, mvNode, nvNode, ← Nat.add_assoc]
        refine callG_true (by simp) ((CallW_inline (n := 10) Tryz.func58 rfl rfl rfl rfl (by simp) fun a_ => ?_))
        refine W_seqK fun K49 h49 => ?_
        refine W_reg ?_
        simp [go_sem, ty3, ty36, markE_add, mvCore, nvCore, mvHart, nvHart, mvNode, nvNode, ← Nat.add_assoc]
        repeat refine tk ?_
        refine h49 _ ?_
        clear h49 K49
        refine W_seqK fun K50 h50 => ?_
        refine W_reg ?_
        simp [go_sem, ty3, ty22, ty36, markE_add, mvCore, nvCore, mvHart, nvHart, mvNode, nvNode, ← Nat.add_assoc]
        refine callG_true (by simp) (CallW_mut (mc_laws_markIntS ((((coreStep c n nodes).1).hart).regs) 1 (by first | assumption | omega)) rfl rfl rfl (by simp [go_sem, markE_add, mvCore, nvCore, mvHart, nvHart, mvNode, nvNode, ← Nat.add_assoc]) rfl ?_)
        simp [go_sem, ty3, markE_add, mvCore, nvCore, mvHart, nvHart, mvNode, nvNode, ← Nat.add_assoc]
        repeat refine tk ?_
        refine h50 _ ?_
        clear h50 K50
        refine W_seqK fun K51 h51 => ?_
        refine W_reg ?_
        simp [go_sem, ty3, markE_add, mvCore, nvCore, mvHart, nvHart, mvNode, nvNode, ← Nat.add_assoc]
        repeat refine tk ?_
        refine h51 _ ?_
        clear h51 K51
        refine W_ret ?_
        simp [go_sem]
        refine ⟨_, _, ⟨rfl, rfl⟩, ?_⟩
        simp [go_sem, ty3, markE_add, mvCore, nvCore, mvHart, nvHart, mvNode, nvNode, ← Nat.add_assoc]
        repeat refine tk ?_
        refine h48 _ ?_
        clear h48 K48
        refine W_seqK fun K52 h52 => ?_
        refine W_reg ?_
        simp [go_sem, ty3, ty37, ty39, ty74, markE_add, mvCore, nvCore, mvHart, nvHart, mvNode, nvNode, ← Nat.add_assoc]
        refine callG_true (by simp) (CallW_mut (mc_laws_markBlockS (((coreStep c n nodes).1).cache) (markE 1 (((((coreStep c n nodes).1).hart).regs).length)) (by first | assumption | omega) (by first | assumption | omega)) rfl rfl rfl (by simp [go_sem, markE_add, mvCore, nvCore, mvHart, nvHart, mvNode, nvNode, ← Nat.add_assoc]) rfl ?_)
        simp [go_sem, ty3, markE_add, mvCore, nvCore, mvHart, nvHart, mvNode, nvNode, ← Nat.add_assoc]
        repeat refine tk ?_
        refine h52 _ ?_
        clear h52 K52
        refine W_seqK fun K53 h53 => ?_
        refine W_reg ?_
        simp [go_sem, ty3, markE_add, mvCore, nvCore, mvHart, nvHart, mvNode, nvNode, ← Nat.add_assoc]
        repeat refine tk ?_
        refine h53 _ ?_
        clear h53 K53
        refine W_ret ?_
        simp [go_sem]
        refine ⟨_, _, ⟨rfl, rfl⟩, ?_⟩
        simp [go_sem, ty3, markE_add, mvCore, nvCore, mvHart, nvHart, mvNode, nvNode, ← Nat.add_assoc]
        repeat refine tk ?_
        refine h46 _ ?_
        clear h46 K46
        refine W_seqK fun K54 h54 => ?_
        refine W_reg ?_
        simp [go_sem, ty3, ty45, markE_add, mvCore, nvCore, mvHart, nvHart, mvNode, nvNode, ← Nat.add_assoc]
        refine callG_true (by simp) ((CallW_inline (n := 22) Tryz.func13 rfl rfl rfl rfl (by simp) fun a_ => ?_))
        refine W_seqK fun K55 h55 => ?_
        refine W_reg ?_
        simp [go_sem, ty3, ty45, markE_add, mvCore, nvCore, mvHart, nvHart, mvNode, nvNode, ← Nat.add_assoc]
        repeat refine tk ?_
        refine h55 _ ?_
        clear h55 K55
        refine W_seqK fun K56 h56 => ?_
        refine W_reg ?_
        simp [go_sem, ty3, ty40, ty45, ty65, markE_add, mvCore, nvCore, mvHart, nvHart, mvNode, nvNode, ← Nat.add_assoc]
        refine callG_true (by simp) (CallW_mut (mc_laws_markFrameS (((coreStep c n nodes).2.1).frames) (markE 1 (((((coreStep c n nodes).1).hart).regs).length + ((((coreStep c n nodes).1).cache).map nBlock).sum)) (by first | assumption | omega) (by first | assumption | omega)) rfl rfl rfl (by simp [go_sem, markE_add, mvCore, nvCore, mvHart, nvHart, mvNode, nvNode, ← Nat.add_assoc]) rfl ?_)
        simp [go_sem, ty3, markE_add, mvCore, nvCore, mvHart, nvHart, mvNode, nvNode, ← Nat.add_assoc]
        repeat refine tk ?_
        refine h56 _ ?_
        clear h56 K56
        refine W_seqK fun K57 h57 => ?_
        refine W_reg ?_
        simp [go_sem, ty3, ty41, ty45, ty132, markE_add, mvCore, nvCore, mvHart, nvHart, mvNode, nvNode, ← Nat.add_assoc]
        refine callG_true (by simp) (CallW_mut (mc_laws_markHomeS (((coreStep c n nodes).2.1).homes) (markE 1 (((((coreStep c n nodes).1).hart).regs).length + ((((coreStep c n nodes).1).cache).map nBlock).sum + ((((coreStep c n nodes).2.1).frames).map nFrame).sum)) (by first | assumption | omega) (by first | assumption | omega)) rfl rfl rfl (by simp [go_sem, markE_add, mvCore, nvCore, mvHart, nvHart, mvNode, nvNode, ← Nat.add_assoc]) rfl ?_)
        simp [go_sem, ty3, markE_add, mvCore, nvCore, mvHart, nvHart, mvNode, nvNode, ← Nat.add_assoc]
        repeat refine tk ?_
        refine h57 _ ?_
        clear h57 K57
        refine W_seqK fun K58 h58 => ?_
        refine W_reg ?_
        simp [go_sem, ty3, ty42, ty45, ty136, markE_add, mvCore, nvCore, mvHart, nvHart, mvNode, nvNode, ← Nat.add_assoc]
        refine callG_true (by simp) (CallW_mut (mc_laws_markSenderS (((coreStep c n nodes).2.1).out) (markE 1 (((((coreStep c n nodes).1).hart).regs).length + ((((coreStep c n nodes).1).cache).map nBlock).sum + ((((coreStep c n nodes).2.1).frames).map nFrame).sum + ((((coreStep c n nodes).2.1).homes).map nHome).sum)) (by first | assumption | omega) (by first | assumption | omega)) rfl rfl rfl (by simp [go_sem, markE_add, mvCore, nvCore, mvHart, nvHart, mvNode, nvNode, ← Nat.add_assoc]) rfl ?_)
        simp [go_sem, ty3, markE_add, mvCore, nvCore, mvHart, nvHart, mvNode, nvNode, ← Nat.add_assoc]
        repeat refine tk ?_
        refine h58 _ ?_
        clear h58 K58
        refine W_seqK fun K59 h59 => ?_
        refine W_reg ?_
        simp [go_sem, ty3, ty43, ty45, ty153, markE_add, mvCore, nvCore, mvHart, nvHart, mvNode, nvNode, ← Nat.add_assoc]
        refine callG_true (by simp) (CallW_mut (mc_laws_markReceiverS (((coreStep c n nodes).2.1).in_) (markE 1 (((((coreStep c n nodes).1).hart).regs).length + ((((coreStep c n nodes).1).cache).map nBlock).sum + ((((coreStep c n nodes).2.1).frames).map nFrame).sum + ((((coreStep c n nodes).2.1).homes).map nHome).sum + ((((coreStep c n nodes).2.1).out).map nSender).sum)) (by first | assumption | omega)) rfl rfl rfl (by simp [go_sem, markE_add, mvCore, nvCore, mvHart, nvHart, mvNode, nvNode, ← Nat.add_assoc]) rfl ?_)
        simp [go_sem, ty3, markE_add, mvCore, nvCore, mvHart, nvHart, mvNode, nvNode, ← Nat.add_assoc]
        repeat refine tk ?_
        refine h59 _ ?_
        clear h59 K59
        refine W_seqK fun K60 h60 => ?_
        refine W_reg ?_
        simp [go_sem, ty3, markE_add, mvCore, nvCore, mvHart, nvHart, mvNode, nvNode, ← Nat.add_assoc]
        repeat refine tk ?_
        refine h60 _ ?_
        clear h60 K60
        refine W_ret ?_
        simp [go_sem]
        refine ⟨_, _, ⟨rfl, rfl⟩, ?_⟩
        simp [go_sem, ty3, markE_add, mvCore, nvCore, mvHart, nvHart, mvNode, nvNode, ← Nat.add_assoc]
        repeat refine tk ?_
        refine h54 _ ?_
        clear h54 K54
        refine W_seqK fun K61 h61 => ?_
        refine W_reg ?_
        simp [go_sem, ty3, markE_add, mvCore, nvCore, mvHart, nvHart, mvNode, nvNode, ← Nat.add_assoc]
        repeat refine tk ?_
        refine h61 _ ?_
        clear h61 K61
        refine W_seqK fun K62 h62 => ?_
        refine W_reg ?_
        simp [go_sem, ty3, ty39, markE_add, mvCore, nvCore, mvHart, nvHart, mvNode, nvNode, ← Nat.add_assoc]
        refine callA (fun hG => pc_laws_heldCore ((coreStep c n nodes).1) 1 (by first | assumption | omega) (fun m hm => by (try simp only [nvMsg, nvSender, nvPacket, nvFrame, nvHome, nvNode, nvWorld, nvHart, nvBlock, nvCore, nvFlock] at hm); first | exact hp m (by omega) | (rw [markE_add]; exact hp _ (by omega)) | exact markE_nn m (by omega) | (rw [markE_add]; exact markE_nn _ (by omega)))) (fun hG => by simp [go_sem, markE_add, mvCore, nvCore, mvHart, nvHart, mvNode, nvNode, ← Nat.add_assoc]) rfl rfl ?_
        simp [go_sem, ty3, markE_add, mvCore, nvCore, mvHart, nvHart, mvNode, nvNode, ← Nat.add_assoc]
        repeat refine tk ?_
        refine h62 _ ?_
        clear h62 K62
        refine W_seqK fun K63 h63 => ?_
        refine W_seqK fun K64 h64 => ?_
        refine W_reg ?_
        simp [go_sem, ty3, ty4, markE_add, mvCore, nvCore, mvHart, nvHart, mvNode, nvNode, ← Nat.add_assoc]
        repeat refine tk ?_
        refine h64 _ ?_
        clear h64 K64
        refine W_cond rfl (fun hb65 => by first | (simp at hb65; done) | (simp at hb65; omega) | (simp at hb65; exact absurd hb65 (Int.not_lt.2 (markE_nn _ (by omega))))) fun hb65 => ?_
        clear hb65
        refine W_skip ?_
        repeat refine tk ?_
        refine h63 _ ?_
        clear h63 K63
        refine W_seqK fun K66 h66 => ?_
        refine W_reg ?_
        simp [go_sem, ty3, ty45, markE_add, mvCore, nvCore, mvHart, nvHart, mvNode, nvNode, ← Nat.add_assoc]
        refine callA (fun hG => pc_laws_heldNode ((coreStep c n nodes).2.1) (markE 1 (((((coreStep c n nodes).1).hart).regs).length + ((((coreStep c n nodes).1).cache).map nBlock).sum)) (by first | assumption | omega) (fun m hm => by (try simp only [nvMsg, nvSender, nvPacket, nvFrame, nvHome, nvNode, nvWorld, nvHart, nvBlock, nvCore, nvFlock] at hm); first | exact hp m (by omega) | (rw [markE_add]; exact hp _ (by omega)) | exact markE_nn m (by omega) | (rw [markE_add]; exact markE_nn _ (by omega)))) (fun hG => by simp [go_sem, markE_add, mvCore, nvCore, mvHart, nvHart, mvNode, nvNode, ← Nat.add_assoc]) rfl rfl ?_
        simp [go_sem, ty3, markE_add, mvCore, nvCore, mvHart, nvHart, mvNode, nvNode, ← Nat.add_assoc]
        repeat refine tk ?_
        refine h66 _ ?_
        clear h66 K66
        refine W_seqK fun K67 h67 => ?_
        refine W_seqK fun K68 h68 => ?_
        refine W_reg ?_
        simp [go_sem, ty3, ty4, markE_add, mvCore, nvCore, mvHart, nvHart, mvNode, nvNode, ← Nat.add_assoc]
        repeat refine tk ?_
        refine h68 _ ?_
        clear h68 K68
        refine W_cond rfl (fun hb69 => by first | (simp at hb69; done) | (simp at hb69; omega) | (simp at hb69; exact absurd hb69 (Int.not_lt.2 (markE_nn _ (by omega))))) fun hb69 => ?_
        clear hb69
        refine W_skip ?_
        repeat refine tk ?_
        refine h67 _ ?_
        clear h67 K67
        refine W_seqK fun K70 h70 => ?_
        refine W_seqK fun K71 h71 => ?_
        refine W_reg ?_
        simp [go_sem, ty3, ty4, markE_add, mvCore, nvCore, mvHart, nvHart, mvNode, nvNode, ← Nat.add_assoc]
        repeat refine tk ?_
        refine h71 _ ?_
        clear h71 K71
        refine W_cond rfl (fun hb72 => by first | (simp at hb72; done) | (simp at hb72; omega) | (simp at hb72; exact absurd hb72 (Int.not_lt.2 (markE_nn _ (by omega))))) fun hb72 => ?_
        clear hb72
        refine W_skip ?_
        repeat refine tk ?_
        refine h70 _ ?_
        clear h70 K70
        refine W_seqJK (α := Unit) (fun _u => ({ env := [(8, true, .l (.ptr 70 0)), (9, true, .l (.ptr 71 0)), (10, true, .l (.t (.int .i64 (((coreStep c n nodes).2.2))))), (13, true, .l (.ptr 111 0)), (14, true, .l (.ptr 112 0)), (17, true, .l (.t (.int .i64 (markE 1 (((((coreStep c n nodes).1).hart).regs).length + ((((coreStep c n nodes).1).cache).map nBlock).sum + ((((coreStep c n nodes).2.1).frames).map nFrame).sum + ((((coreStep c n nodes).2.1).homes).map nHome).sum + ((((coreStep c n nodes).2.1).out).map nSender).sum + (((coreStep c n nodes).2.1).in_).length))))), (19, true, .l (.ptr 310 0)), (20, true, .l (.ptr 311 0)), (21, true, .l (.t (.int .i64 ((coreStep c n nodes).2.2))))], box := [(70, [.ref 60 [] 1 0 ((((coreStep c n nodes).1).hart).regs).length, .t (.int .i64 ((((coreStep c n nodes).1).hart).pc)), .t (.int .i64 ((((coreStep c n nodes).1).hart).state)), .ref 63 [] 2 0 (((coreStep c n nodes).1).cache).length]), (71, [.t (.int .i64 (((coreStep c n nodes).2.1).id)), .ref 65 [] 3 0 (((coreStep c n nodes).2.1).frames).length, .ref 66 [] 8 0 (((coreStep c n nodes).2.1).homes).length, .ref 67 [] 2 0 (((coreStep c n nodes).2.1).out).length, .ref 68 [] 1 0 (((coreStep c n nodes).2.1).in_).length]), (111, [.ref 101 [] 1 0 (marks 1 ((((coreStep c n nodes).1).hart).regs).length).length, .t (.int .i64 ((((coreStep c n nodes).1).hart).pc)), .t (.int .i64 ((((coreStep c n nodes).1).hart).state)), .ref 104 [] 2 0 ((List.range (((coreStep c n nodes).1).cache).length).map (fBlock (markE 1 (((((coreStep c n nodes).1).hart).regs).length)) (((coreStep c n nodes).1).cache))).length]), (112, [.t (.int .i64 (((coreStep c n nodes).2.1).id)), .ref 106 [] 3 0 ((List.range (((coreStep c n nodes).2.1).frames).length).map (fFrame (markE 1 (((((coreStep c n nodes).1).hart).regs).length + ((((coreStep c n nodes).1).cache).map nBlock).sum)) (((coreStep c n nodes).2.1).frames))).length, .ref 107 [] 8 0 ((List.range (((coreStep c n nodes).2.1).homes).length).map (fHome (markE 1 (((((coreStep c n nodes).1).hart).regs).length + ((((coreStep c n nodes).1).cache).map nBlock).sum + ((((coreStep c n nodes).2.1).frames).map nFrame).sum)) (((coreStep c n nodes).2.1).homes))).length, .ref 108 [] 2 0 ((List.range (((coreStep c n nodes).2.1).out).length).map (fSender (markE 1 (((((coreStep c n nodes).1).hart).regs).length + ((((coreStep c n nodes).1).cache).map nBlock).sum + ((((coreStep c n nodes).2.1).frames).map nFrame).sum + ((((coreStep c n nodes).2.1).homes).map nHome).sum)) (((coreStep c n nodes).2.1).out))).length, .ref 109 [] 1 0 ((List.range (((coreStep c n nodes).2.1).in_).length).map (mReceiver (markE 1 (((((coreStep c n nodes).1).hart).regs).length + ((((coreStep c n nodes).1).cache).map nBlock).sum + ((((coreStep c n nodes).2.1).frames).map nFrame).sum + ((((coreStep c n nodes).2.1).homes).map nHome).sum + ((((coreStep c n nodes).2.1).out).map nSender).sum)))).length]), (310, [.ref 300 [] 1 0 ((((coreStep c n nodes).1).hart).regs).length, .t (.int .i64 ((((coreStep c n nodes).1).hart).pc)), .t (.int .i64 ((((coreStep c n nodes).1).hart).state)), .ref 303 [] 2 0 (((coreStep c n nodes).1).cache).length]), (311, [.t (.int .i64 (((coreStep c n nodes).2.1).id)), .ref 305 [] 3 0 (((coreStep c n nodes).2.1).frames).length, .ref 306 [] 8 0 (((coreStep c n nodes).2.1).homes).length, .ref 307 [] 2 0 (((coreStep c n nodes).2.1).out).length, .ref 308 [] 1 0 (((coreStep c n nodes).2.1).in_).length])], row := [(60, ⟨.own, 1, enc eI ((((coreStep c n nodes).1).hart).regs)⟩), (63, ⟨.own, 2, enc eBlock (((coreStep c n nodes).1).cache)⟩), (65, ⟨.own, 3, enc eFrame (((coreStep c n nodes).2.1).frames)⟩), (66, ⟨.own, 8, enc eHome (((coreStep c n nodes).2.1).homes)⟩), (67, ⟨.own, 2, enc eSender (((coreStep c n nodes).2.1).out)⟩), (68, ⟨.own, 1, enc eReceiver (((coreStep c n nodes).2.1).in_)⟩), (101, ⟨.own, 1, enc eI (marks 1 ((((coreStep c n nodes).1).hart).regs).length)⟩), (104, ⟨.own, 2, enc eBlock ((List.range (((coreStep c n nodes).1).cache).length).map (fBlock (markE 1 (((((coreStep c n nodes).1).hart).regs).length)) (((coreStep c n nodes).1).cache)))⟩), (106, ⟨.own, 3, enc eFrame ((List.range (((coreStep c n nodes).2.1).frames).length).map (fFrame (markE 1 (((((coreStep c n nodes).1).hart).regs).length + ((((coreStep c n nodes).1).cache).map nBlock).sum)) (((coreStep c n nodes).2.1).frames)))⟩), (107, ⟨.own, 8, enc eHome ((List.range (((coreStep c n nodes).2.1).homes).length).map (fHome (markE 1 (((((coreStep c n nodes).1).hart).regs).length + ((((coreStep c n nodes).1).cache).map nBlock).sum + ((((coreStep c n nodes).2.1).frames).map nFrame).sum)) (((coreStep c n nodes).2.1).homes)))⟩), (108, ⟨.own, 2, enc eSender ((List.range (((coreStep c n nodes).2.1).out).length).map (fSender (markE 1 (((((coreStep c n nodes).1).hart).regs).length + ((((coreStep c n nodes).1).cache).map nBlock).sum + ((((coreStep c n nodes).2.1).frames).map nFrame).sum + ((((coreStep c n nodes).2.1).homes).map nHome).sum)) (((coreStep c n nodes).2.1).out)))⟩), (109, ⟨.own, 1, enc eReceiver ((List.range (((coreStep c n nodes).2.1).in_).length).map (mReceiver (markE 1 (((((coreStep c n nodes).1).hart).regs).length + ((((coreStep c n nodes).1).cache).map nBlock).sum + ((((coreStep c n nodes).2.1).frames).map nFrame).sum + ((((coreStep c n nodes).2.1).homes).map nHome).sum + ((((coreStep c n nodes).2.1).out).map nSender).sum))))⟩), (300, ⟨.own, 1, enc eI ((((coreStep c n nodes).1).hart).regs)⟩), (303, ⟨.own, 2, enc eBlock (((coreStep c n nodes).1).cache)⟩), (305, ⟨.own, 3, enc eFrame (((coreStep c n nodes).2.1).frames)⟩), (306, ⟨.own, 8, enc eHome (((coreStep c n nodes).2.1).homes)⟩), (307, ⟨.own, 2, enc eSender (((coreStep c n nodes).2.1).out)⟩), (308, ⟨.own, 1, enc eReceiver (((coreStep c n nodes).2.1).in_)⟩)], nxt := 328, sav := [] } : St)) (fun _u => True) (fun J73 hJ73 => ?_) ?_
        · refine W_drawI true (.op 0 (.op 2 (.op 4 (.fork3 1 (.fork3 3 (.fork3 5 (.op 6 (.op 7 (.op 8 (.op 9 (.fork 10 (.op 11 (.op 12 (.op 13 (.op 14 .nil)))) 11 (.op 10 (.op 12 (.op 13 (.op 14 .nil))))))))) 10 (.fork 5 (.op 6 (.op 7 (.op 8 (.op 9 (.op 11 (.op 12 (.op 13 (.op 14 .nil)))))))) 11 (.op 5 (.op 6 (.op 7 (.op 8 (.op 9 (.op 12 (.op 13 (.op 14 .nil))))))))) 11 (.fork 5 (.op 6 (.op 7 (.op 8 (.op 9 (.op 10 (.op 12 (.op 13 (.op 14 .nil)))))))) 10 (.op 5 (.op 6 (.op 7 (.op 8 (.op 9 (.op 12 (.op 13 (.op 14 .nil)))))))))) 10 (.fork 3 (.fork 5 (.op 6 (.op 7 (.op 8 (.op 9 (.op 11 (.op 12 (.op 13 (.op 14 .nil)))))))) 11 (.op 5 (.op 6 (.op 7 (.op 8 (.op 9 (.op 12 (.op 13 (.op 14 .nil))))))))) 11 (.op 3 (.op 5 (.op 6 (.op 7 (.op 8 (.op 9 (.op 12 (.op 13 (.op 14 .nil)))))))))) 11 (.fork 3 (.fork 5 (.op 6 (.op 7 (.op 8 (.op 9 (.op 10 (.op 12 (.op 13 (.op 14 .nil)))))))) 10 (.op 5 (.op 6 (.op 7 (.op 8 (.op 9 (.op 12 (.op 13 (.op 14 .nil))))))))) 10 (.op 3 (.op 5 (.op 6 (.op 7 (.op 8 (.op 9 (.op 12 (.op 13 (.op 14 .nil))))))))))) 10 (.fork 1 (.fork 3 (.fork 5 (.op 6 (.op 7 (.op 8 (.op 9 (.op 11 (.op 12 (.op 13 (.op 14 .nil)))))))) 11 (.op 5 (.op 6 (.op 7 (.op 8 (.op 9 (.op 12 (.op 13 (.op 14 .nil))))))))) 11 (.op 3 (.op 5 (.op 6 (.op 7 (.op 8 (.op 9 (.op 12 (.op 13 (.op 14 .nil)))))))))) 11 (.op 1 (.op 3 (.op 5 (.op 6 (.op 7 (.op 8 (.op 9 (.op 12 (.op 13 (.op 14 .nil))))))))))) 11 (.fork 1 (.fork 3 (.fork 5 (.op 6 (.op 7 (.op 8 (.op 9 (.op 10 (.op 12 (.op 13 (.op 14 .nil)))))))) 10 (.op 5 (.op 6 (.op 7 (.op 8 (.op 9 (.op 12 (.op 13 (.op 14 .nil))))))))) 10 (.op 3 (.op 5 (.op 6 (.op 7 (.op 8 (.op 9 (.op 12 (.op 13 (.op 14 .nil)))))))))) 10 (.op 1 (.op 3 (.op 5 (.op 6 (.op 7 (.op 8 (.op 9 (.op 12 (.op 13 (.op 14 .nil))))))))))))))) mixed (by decide +kernel) ?_
          repeat' first | (refine StepI_go rfl rfl fun K h => ?_; simp [go_sem, ty2, ty3, ty27, ty33, ty39, ty45, markE_add, mvCore, nvCore, mvHart, nvHart, mvNode, nvNode, ← Nat.add_assoc]; first | refine h _ ?_ | refine ⟨by omega, h _ ?_⟩ | (refine callA (fun hG => pc_laws_toCore c (by first | assumption | omega)) (fun hG => by simp [go_sem, markE_add, mvCore, nvCore, mvHart, nvHart, mvNode, nvNode, ← Nat.add_assoc]) rfl rfl ?_; try simp [go_sem, ty2, ty3, ty27, ty33, ty39, ty45, markE_add, mvCore, nvCore, mvHart, nvHart, mvNode, nvNode, ← Nat.add_assoc]; refine h _ ?_) | (refine callA (fun hG => pc_laws_toNode n (by first | assumption | omega)) (fun hG => by simp [go_sem, markE_add, mvCore, nvCore, mvHart, nvHart, mvNode, nvNode, ← Nat.add_assoc]) rfl rfl ?_; try simp [go_sem, ty2, ty3, ty27, ty33, ty39, ty45, markE_add, mvCore, nvCore, mvHart, nvHart, mvNode, nvNode, ← Nat.add_assoc]; refine h _ ?_) | (refine callA (fun hG => pc_impl_CoreStep c n nodes (by first | assumption | omega) (by first | assumption | omega)) (fun hG => by simp [go_sem, markE_add, mvCore, nvCore, mvHart, nvHart, mvNode, nvNode, ← Nat.add_assoc]) rfl rfl ?_; try simp [go_sem, ty2, ty3, ty27, ty33, ty39, ty45, markE_add, mvCore, nvCore, mvHart, nvHart, mvNode, nvNode, ← Nat.add_assoc]; refine h _ ?_)) | refine RunI_f2 ?_ ?_ | refine RunI_f3 ?_ ?_ ?_
          · refine RunI_end ?_
            (repeat refine tk ?_); refine hJ73 _ ⟨(), trivial, ?_⟩
            exact (Sub.swp_box 157 310 rfl).trans ((Sub.swp_row 147 300 rfl).trans ((Sub.swp_row 150 303 rfl).trans ((Sub.swp_box 158 311 rfl).trans ((Sub.swp_row 152 305 rfl).trans ((Sub.swp_row 153 306 rfl).trans ((Sub.swp_row 154 307 rfl).trans ((Sub.swp_row 155 308 rfl).trans (Sub.of_neat [8, 9, 10, 13, 14, 17, 19, 20, 21] [60, 63, 65, 66, 67, 68, 101, 104, 106, 107, 108, 109, 300, 303, 305, 306, 307, 308] [70, 71, 111, 112, 310, 311] 328 (by decide) (by simp [go_sem])))))))))
          · refine RunI_end ?_
            (repeat refine tk ?_); refine hJ73 _ ⟨(), trivial, ?_⟩
            exact (Sub.swp_box 158 310 rfl).trans ((Sub.swp_row 147 300 rfl).trans ((Sub.swp_row 150 303 rfl).trans ((Sub.swp_box 157 311 rfl).trans ((Sub.swp_row 152 305 rfl).trans ((Sub.swp_row 153 306 rfl).trans ((Sub.swp_row 154 307 rfl).trans ((Sub.swp_row 155 308 rfl).trans (Sub.of_neat [8, 9, 10, 13, 14, 17, 19, 20, 21] [60, 63, 65, 66, 67, 68, 101, 104, 106, 107, 108, 109, 300, 303, 305, 306, 307, 308] [70, 71, 111, 112, 310, 311] 328 (by decide) (by simp [go_sem])))))))))
          · refine RunI_end ?_
            (repeat refine tk ?_); refine hJ73 _ ⟨(), trivial, ?_⟩
            exact (Sub.swp_box 147 310 rfl).trans ((Sub.swp_row 148 300 rfl).trans ((Sub.swp_row 151 303 rfl).trans ((Sub.swp_box 158 311 rfl).trans ((Sub.swp_row 153 305 rfl).trans ((Sub.swp_row 154 306 rfl).trans ((Sub.swp_row 155 307 rfl).trans ((Sub.swp_row 156 308 rfl).trans (Sub.of_neat [8, 9, 10, 13, 14, 17, 19, 20, 21] [60, 63, 65, 66, 67, 68, 101, 104, 106, 107, 108, 109, 300, 303, 305, 306, 307, 308] [70, 71, 111, 112, 310, 311] 328 (by decide) (by simp [go_sem])))))))))
          · refine RunI_end ?_
            (repeat refine tk ?_); refine hJ73 _ ⟨(), trivial, ?_⟩
            exact (Sub.swp_box 147 310 rfl).trans ((Sub.swp_row 149 300 rfl).trans ((Sub.swp_row 152 303 rfl).trans ((Sub.swp_box 148 311 rfl).trans ((Sub.swp_row 154 305 rfl).trans ((Sub.swp_row 155 306 rfl).trans ((Sub.swp_row 156 307 rfl).trans ((Sub.swp_row 157 308 rfl).trans (Sub.of_neat [8, 9, 10, 13, 14, 17, 19, 20, 21] [60, 63, 65, 66, 67, 68, 101, 104, 106, 107, 108, 109, 300, 303, 305, 306, 307, 308] [70, 71, 111, 112, 310, 311] 328 (by decide) (by simp [go_sem])))))))))
          · refine RunI_end ?_
            (repeat refine tk ?_); refine hJ73 _ ⟨(), trivial, ?_⟩
            exact (Sub.swp_box 158 310 rfl).trans ((Sub.swp_row 148 300 rfl).trans ((Sub.swp_row 151 303 rfl).trans ((Sub.swp_box 147 311 rfl).trans ((Sub.swp_row 153 305 rfl).trans ((Sub.swp_row 154 306 rfl).trans ((Sub.swp_row 155 307 rfl).trans ((Sub.swp_row 156 308 rfl).trans (Sub.of_neat [8, 9, 10, 13, 14, 17, 19, 20, 21] [60, 63, 65, 66, 67, 68, 101, 104, 106, 107, 108, 109, 300, 303, 305, 306, 307, 308] [70, 71, 111, 112, 310, 311] 328 (by decide) (by simp [go_sem])))))))))
          · refine RunI_end ?_
            (repeat refine tk ?_); refine hJ73 _ ⟨(), trivial, ?_⟩
            exact (Sub.swp_box 148 310 rfl).trans ((Sub.swp_row 149 300 rfl).trans ((Sub.swp_row 152 303 rfl).trans ((Sub.swp_box 147 311 rfl).trans ((Sub.swp_row 154 305 rfl).trans ((Sub.swp_row 155 306 rfl).trans ((Sub.swp_row 156 307 rfl).trans ((Sub.swp_row 157 308 rfl).trans (Sub.of_neat [8, 9, 10, 13, 14, 17, 19, 20, 21] [60, 63, 65, 66, 67, 68, 101, 104, 106, 107, 108, 109, 300, 303, 305, 306, 307, 308] [70, 71, 111, 112, 310, 311] 328 (by decide) (by simp [go_sem])))))))))
          · refine RunI_end ?_
            (repeat refine tk ?_); refine hJ73 _ ⟨(), trivial, ?_⟩
            exact (Sub.swp_box 142 310 rfl).trans ((Sub.swp_row 148 300 rfl).trans ((Sub.swp_row 151 303 rfl).trans ((Sub.swp_box 158 311 rfl).trans ((Sub.swp_row 153 305 rfl).trans ((Sub.swp_row 154 306 rfl).trans ((Sub.swp_row 155 307 rfl).trans ((Sub.swp_row 156 308 rfl).trans (Sub.of_neat [8, 9, 10, 13, 14, 17, 19, 20, 21] [60, 63, 65, 66, 67, 68, 101, 104, 106, 107, 108, 109, 300, 303, 305, 306, 307, 308] [70, 71, 111, 112, 310, 311] 328 (by decide) (by simp [go_sem])))))))))
          · refine RunI_end ?_
            (repeat refine tk ?_); refine hJ73 _ ⟨(), trivial, ?_⟩
            exact (Sub.swp_box 142 310 rfl).trans ((Sub.swp_row 149 300 rfl).trans ((Sub.swp_row 152 303 rfl).trans ((Sub.swp_box 148 311 rfl).trans ((Sub.swp_row 154 305 rfl).trans ((Sub.swp_row 155 306 rfl).trans ((Sub.swp_row 156 307 rfl).trans ((Sub.swp_row 157 308 rfl).trans (Sub.of_neat [8, 9, 10, 13, 14, 17, 19, 20, 21] [60, 63, 65, 66, 67, 68, 101, 104, 106, 107, 108, 109, 300, 303, 305, 306, 307, 308] [70, 71, 111, 112, 310, 311] 328 (by decide) (by simp [go_sem])))))))))
          · refine RunI_end ?_
            (repeat refine tk ?_); refine hJ73 _ ⟨(), trivial, ?_⟩
            exact (Sub.swp_box 142 310 rfl).trans ((Sub.swp_row 149 300 rfl).trans ((Sub.swp_row 152 303 rfl).trans ((Sub.swp_box 143 311 rfl).trans ((Sub.swp_row 154 305 rfl).trans ((Sub.swp_row 155 306 rfl).trans ((Sub.swp_row 156 307 rfl).trans ((Sub.swp_row 157 308 rfl).trans (Sub.of_neat [8, 9, 10, 13, 14, 17, 19, 20, 21] [60, 63, 65, 66, 67, 68, 101, 104, 106, 107, 108, 109, 300, 303, 305, 306, 307, 308] [70, 71, 111, 112, 310, 311] 328 (by decide) (by simp [go_sem])))))))))
          · refine RunI_end ?_
            (repeat refine tk ?_); refine hJ73 _ ⟨(), trivial, ?_⟩
            exact (Sub.swp_box 158 310 rfl).trans ((Sub.swp_row 148 300 rfl).trans ((Sub.swp_row 151 303 rfl).trans ((Sub.swp_box 142 311 rfl).trans ((Sub.swp_row 153 305 rfl).trans ((Sub.swp_row 154 306 rfl).trans ((Sub.swp_row 155 307 rfl).trans ((Sub.swp_row 156 308 rfl).trans (Sub.of_neat [8, 9, 10, 13, 14, 17, 19, 20, 21] [60, 63, 65, 66, 67, 68, 101, 104, 106, 107, 108, 109, 300, 303, 305, 306, 307, 308] [70, 71, 111, 112, 310, 311] 328 (by decide) (by simp [go_sem])))))))))
          · refine RunI_end ?_
            (repeat refine tk ?_); refine hJ73 _ ⟨(), trivial, ?_⟩
            exact (Sub.swp_box 148 310 rfl).trans ((Sub.swp_row 149 300 rfl).trans ((Sub.swp_row 152 303 rfl).trans ((Sub.swp_box 142 311 rfl).trans ((Sub.swp_row 154 305 rfl).trans ((Sub.swp_row 155 306 rfl).trans ((Sub.swp_row 156 307 rfl).trans ((Sub.swp_row 157 308 rfl).trans (Sub.of_neat [8, 9, 10, 13, 14, 17, 19, 20, 21] [60, 63, 65, 66, 67, 68, 101, 104, 106, 107, 108, 109, 300, 303, 305, 306, 307, 308] [70, 71, 111, 112, 310, 311] 328 (by decide) (by simp [go_sem])))))))))
          · refine RunI_end ?_
            (repeat refine tk ?_); refine hJ73 _ ⟨(), trivial, ?_⟩
            exact (Sub.swp_box 143 310 rfl).trans ((Sub.swp_row 149 300 rfl).trans ((Sub.swp_row 152 303 rfl).trans ((Sub.swp_box 142 311 rfl).trans ((Sub.swp_row 154 305 rfl).trans ((Sub.swp_row 155 306 rfl).trans ((Sub.swp_row 156 307 rfl).trans ((Sub.swp_row 157 308 rfl).trans (Sub.of_neat [8, 9, 10, 13, 14, 17, 19, 20, 21] [60, 63, 65, 66, 67, 68, 101, 104, 106, 107, 108, 109, 300, 303, 305, 306, 307, 308] [70, 71, 111, 112, 310, 311] 328 (by decide) (by simp [go_sem])))))))))
          · refine RunI_end ?_
            (repeat refine tk ?_); refine hJ73 _ ⟨(), trivial, ?_⟩
            exact (Sub.swp_box 138 310 rfl).trans ((Sub.swp_row 148 300 rfl).trans ((Sub.swp_row 151 303 rfl).trans ((Sub.swp_box 158 311 rfl).trans ((Sub.swp_row 153 305 rfl).trans ((Sub.swp_row 154 306 rfl).trans ((Sub.swp_row 155 307 rfl).trans ((Sub.swp_row 156 308 rfl).trans (Sub.of_neat [8, 9, 10, 13, 14, 17, 19, 20, 21] [60, 63, 65, 66, 67, 68, 101, 104, 106, 107, 108, 109, 300, 303, 305, 306, 307, 308] [70, 71, 111, 112, 310, 311] 328 (by decide) (by simp [go_sem])))))))))
          · refine RunI_end ?_
            (repeat refine tk ?_); refine hJ73 _ ⟨(), trivial, ?_⟩
            exact (Sub.swp_box 138 310 rfl).trans ((Sub.swp_row 149 300 rfl).trans ((Sub.swp_row 152 303 rfl).trans ((Sub.swp_box 148 311 rfl).trans ((Sub.swp_row 154 305 rfl).trans ((Sub.swp_row 155 306 rfl).trans ((Sub.swp_row 156 307 rfl).trans ((Sub.swp_row 157 308 rfl).trans (Sub.of_neat [8, 9, 10, 13, 14, 17, 19, 20, 21] [60, 63, 65, 66, 67, 68, 101, 104, 106, 107, 108, 109, 300, 303, 305, 306, 307, 308] [70, 71, 111, 112, 310, 311] 328 (by decide) (by simp [go_sem])))))))))
          · refine RunI_end ?_
            (repeat refine tk ?_); refine hJ73 _ ⟨(), trivial, ?_⟩
            exact (Sub.swp_box 138 310 rfl).trans ((Sub.swp_row 149 300 rfl).trans ((Sub.swp_row 152 303 rfl).trans ((Sub.swp_box 143 311 rfl).trans ((Sub.swp_row 154 305 rfl).trans ((Sub.swp_row 155 306 rfl).trans ((Sub.swp_row 156 307 rfl).trans ((Sub.swp_row 157 308 rfl).trans (Sub.of_neat [8, 9, 10, 13, 14, 17, 19, 20, 21] [60, 63, 65, 66, 67, 68, 101, 104, 106, 107, 108, 109, 300, 303, 305, 306, 307, 308] [70, 71, 111, 112, 310, 311] 328 (by decide) (by simp [go_sem])))))))))
          · refine RunI_end ?_
            (repeat refine tk ?_); refine hJ73 _ ⟨(), trivial, ?_⟩
            exact (Sub.swp_box 138 310 rfl).trans ((Sub.swp_row 149 300 rfl).trans ((Sub.swp_row 152 303 rfl).trans ((Sub.swp_box 139 311 rfl).trans ((Sub.swp_row 154 305 rfl).trans ((Sub.swp_row 155 306 rfl).trans ((Sub.swp_row 156 307 rfl).trans ((Sub.swp_row 157 308 rfl).trans (Sub.of_neat [8, 9, 10, 13, 14, 17, 19, 20, 21] [60, 63, 65, 66, 67, 68, 101, 104, 106, 107, 108, 109, 300, 303, 305, 306, 307, 308] [70, 71, 111, 112, 310, 311] 328 (by decide) (by simp [go_sem])))))))))
          · refine RunI_end ?_
            (repeat refine tk ?_); refine hJ73 _ ⟨(), trivial, ?_⟩
            exact (Sub.swp_box 158 310 rfl).trans ((Sub.swp_row 148 300 rfl).trans ((Sub.swp_row 151 303 rfl).trans ((Sub.swp_box 138 311 rfl).trans ((Sub.swp_row 153 305 rfl).trans ((Sub.swp_row 154 306 rfl).trans ((Sub.swp_row 155 307 rfl).trans ((Sub.swp_row 156 308 rfl).trans (Sub.of_neat [8, 9, 10, 13, 14, 17, 19, 20, 21] [60, 63, 65, 66, 67, 68, 101, 104, 106, 107, 108, 109, 300, 303, 305, 306, 307, 308] [70, 71, 111, 112, 310, 311] 328 (by decide) (by simp [go_sem])))))))))
          · refine RunI_end ?_
            (repeat refine tk ?_); refine hJ73 _ ⟨(), trivial, ?_⟩
            exact (Sub.swp_box 148 310 rfl).trans ((Sub.swp_row 149 300 rfl).trans ((Sub.swp_row 152 303 rfl).trans ((Sub.swp_box 138 311 rfl).trans ((Sub.swp_row 154 305 rfl).trans ((Sub.swp_row 155 306 rfl).trans ((Sub.swp_row 156 307 rfl).trans ((Sub.swp_row 157 308 rfl).trans (Sub.of_neat [8, 9, 10, 13, 14, 17, 19, 20, 21] [60, 63, 65, 66, 67, 68, 101, 104, 106, 107, 108, 109, 300, 303, 305, 306, 307, 308] [70, 71, 111, 112, 310, 311] 328 (by decide) (by simp [go_sem])))))))))
          · refine RunI_end ?_
            (repeat refine tk ?_); refine hJ73 _ ⟨(), trivial, ?_⟩
            exact (Sub.swp_box 143 310 rfl).trans ((Sub.swp_row 149 300 rfl).trans ((Sub.swp_row 152 303 rfl).trans ((Sub.swp_box 138 311 rfl).trans ((Sub.swp_row 154 305 rfl).trans ((Sub.swp_row 155 306 rfl).trans ((Sub.swp_row 156 307 rfl).trans ((Sub.swp_row 157 308 rfl).trans (Sub.of_neat [8, 9, 10, 13, 14, 17, 19, 20, 21] [60, 63, 65, 66, 67, 68, 101, 104, 106, 107, 108, 109, 300, 303, 305, 306, 307, 308] [70, 71, 111, 112, 310, 311] 328 (by decide) (by simp [go_sem])))))))))
          · refine RunI_end ?_
            (repeat refine tk ?_); refine hJ73 _ ⟨(), trivial, ?_⟩
            exact (Sub.swp_box 139 310 rfl).trans ((Sub.swp_row 149 300 rfl).trans ((Sub.swp_row 152 303 rfl).trans ((Sub.swp_box 138 311 rfl).trans ((Sub.swp_row 154 305 rfl).trans ((Sub.swp_row 155 306 rfl).trans ((Sub.swp_row 156 307 rfl).trans ((Sub.swp_row 157 308 rfl).trans (Sub.of_neat [8, 9, 10, 13, 14, 17, 19, 20, 21] [60, 63, 65, 66, 67, 68, 101, 104, 106, 107, 108, 109, 300, 303, 305, 306, 307, 308] [70, 71, 111, 112, 310, 311] 328 (by decide) (by simp [go_sem])))))))))
        · rintro _ hinv
          refine W_seqK fun K74 h74 => ?_
          refine W_seqK fun K75 h75 => ?_
          refine W_reg ?_
          simp [go_sem, ty4, ty39, markE_add, mvCore, nvCore, mvHart, nvHart, mvNode, nvNode, ← Nat.add_assoc]
          refine callA (fun hG => pc_laws_eqCore ((coreStep c n nodes).1) ((coreStep c n nodes).1) (by first | assumption | omega)) (fun hG => by simp [go_sem, markE_add, mvCore, nvCore, mvHart, nvHart, mvNode, nvNode, ← Nat.add_assoc]) rfl rfl ?_
          simp [go_sem, ty4, ty45, markE_add, mvCore, nvCore, mvHart, nvHart, mvNode, nvNode, ← Nat.add_assoc]
          refine callA (fun hG => pc_laws_eqNode ((coreStep c n nodes).2.1) ((coreStep c n nodes).2.1) (by first | assumption | omega)) (fun hG => by simp [go_sem, markE_add, mvCore, nvCore, mvHart, nvHart, mvNode, nvNode, ← Nat.add_assoc]) rfl rfl ?_
          simp [go_sem, ty3, ty4, markE_add, mvCore, nvCore, mvHart, nvHart, mvNode, nvNode, ← Nat.add_assoc]
          repeat refine tk ?_
          refine h75 _ ?_
          clear h75 K75
          refine W_cond rfl (fun hb76 => by first | (simp at hb76; done) | (simp at hb76; omega) | (simp at hb76; exact absurd hb76 (Int.not_lt.2 (markE_nn _ (by omega))))) fun hb76 => ?_
          clear hb76
          refine W_skip ?_
          repeat refine tk ?_
          refine h74 _ ?_
          clear h74 K74
          refine W_seqK fun K77 h77 => ?_
          refine W_reg ?_
          simp [go_sem, ty3, markE_add, mvCore, nvCore, mvHart, nvHart, mvNode, nvNode, ← Nat.add_assoc]
          repeat refine tk ?_
          refine h77 _ ?_
          clear h77 K77
          refine W_seqK fun K78 h78 => ?_
          refine W_reg ?_
          simp [go_sem, ty3, ty39, markE_add, mvCore, nvCore, mvHart, nvHart, mvNode, nvNode, ← Nat.add_assoc]
          refine callA (fun hG => pc_laws_heldCore ((coreStep c n nodes).1) 1 (by first | assumption | omega) (fun m hm => by (try simp only [nvMsg, nvSender, nvPacket, nvFrame, nvHome, nvNode, nvWorld, nvHart, nvBlock, nvCore, nvFlock] at hm); first | exact hp m (by omega) | (rw [markE_add]; exact hp _ (by omega)) | exact markE_nn m (by omega) | (rw [markE_add]; exact markE_nn _ (by omega)))) (fun hG => by simp [go_sem, markE_add, mvCore, nvCore, mvHart, nvHart, mvNode, nvNode, ← Nat.add_assoc]) rfl rfl ?_
          simp [go_sem, ty3, markE_add, mvCore, nvCore, mvHart, nvHart, mvNode, nvNode, ← Nat.add_assoc]
          repeat refine tk ?_
          refine h78 _ ?_
          clear h78 K78
          refine W_seqK fun K79 h79 => ?_
          refine W_seqK fun K80 h80 => ?_
          refine W_reg ?_
          simp [go_sem, ty3, ty4, markE_add, mvCore, nvCore, mvHart, nvHart, mvNode, nvNode, ← Nat.add_assoc]
          repeat refine tk ?_
          refine h80 _ ?_
          clear h80 K80
          refine W_cond rfl (fun hb81 => by first | (simp at hb81; done) | (simp at hb81; omega) | (simp at hb81; exact absurd hb81 (Int.not_lt.2 (markE_nn _ (by omega))))) fun hb81 => ?_
          clear hb81
          refine W_skip ?_
          repeat refine tk ?_
          refine h79 _ ?_
          clear h79 K79
          refine W_seqK fun K82 h82 => ?_
          refine W_reg ?_
          simp [go_sem, ty3, ty45, markE_add, mvCore, nvCore, mvHart, nvHart, mvNode, nvNode, ← Nat.add_assoc]
          refine callA (fun hG => pc_laws_heldNode ((coreStep c n nodes).2.1) (markE 1 (((((coreStep c n nodes).1).hart).regs).length + ((((coreStep c n nodes).1).cache).map nBlock).sum)) (by first | assumption | omega) (fun m hm => by (try simp only [nvMsg, nvSender, nvPacket, nvFrame, nvHome, nvNode, nvWorld, nvHart, nvBlock, nvCore, nvFlock] at hm); first | exact hp m (by omega) | (rw [markE_add]; exact hp _ (by omega)) | exact markE_nn m (by omega) | (rw [markE_add]; exact markE_nn _ (by omega)))) (fun hG => by simp [go_sem, markE_add, mvCore, nvCore, mvHart, nvHart, mvNode, nvNode, ← Nat.add_assoc]) rfl rfl ?_
          simp [go_sem, ty3, markE_add, mvCore, nvCore, mvHart, nvHart, mvNode, nvNode, ← Nat.add_assoc]
          repeat refine tk ?_
          refine h82 _ ?_
          clear h82 K82
          refine W_seqK fun K83 h83 => ?_
          refine W_seqK fun K84 h84 => ?_
          refine W_reg ?_
          simp [go_sem, ty3, ty4, markE_add, mvCore, nvCore, mvHart, nvHart, mvNode, nvNode, ← Nat.add_assoc]
          repeat refine tk ?_
          refine h84 _ ?_
          clear h84 K84
          refine W_cond rfl (fun hb85 => by first | (simp at hb85; done) | (simp at hb85; omega) | (simp at hb85; exact absurd hb85 (Int.not_lt.2 (markE_nn _ (by omega))))) fun hb85 => ?_
          clear hb85
          refine W_skip ?_
          repeat refine tk ?_
          refine h83 _ ?_
          clear h83 K83
          refine W_seqK fun K86 h86 => ?_
          refine W_seqK fun K87 h87 => ?_
          refine W_reg ?_
          simp [go_sem, ty3, ty4, markE_add, mvCore, nvCore, mvHart, nvHart, mvNode, nvNode, ← Nat.add_assoc]
          repeat refine tk ?_
          refine h87 _ ?_
          clear h87 K87
          refine W_cond rfl (fun hb88 => by first | (simp at hb88; done) | (simp at hb88; omega) | (simp at hb88; exact absurd hb88 (Int.not_lt.2 (markE_nn _ (by omega))))) fun hb88 => ?_
          clear hb88
          refine W_skip ?_
          repeat refine tk ?_
          refine h86 _ ?_
          clear h86 K86
          refine W_seqK fun K89 h89 => ?_
          refine W_reg ?_
          simp [go_sem, ty4, markE_add, mvCore, nvCore, mvHart, nvHart, mvNode, nvNode, ← Nat.add_assoc]
          repeat refine tk ?_
          refine h89 _ ?_
          clear h89 K89
          refine W_ret ?_
          simp [go_sem]
end Go.Tw
