/- Walks of functions: impl.NodeNew -/
import Derived.Test.YtgcjdkgddnnlpaaE6S2
set_option linter.unusedSimpArgs false
set_option linter.unusedVariables false
set_option linter.unnecessarySimpa false
namespace Go.Tw
open Go.Proofs

set_option maxRecDepth 100000 in
set_option maxHeartbeats 4000000 in
theorem pc_impl_NodeNew (id : Int) (n : Int)  : PC Try.prog 121 [(false, [.int .i64 id]), (false, [.int .i64 n])] [(true, eNode (nodeNew id n)), (false, [.bool (nodeNewOk id n)])] := by
  refine PC_of (n := 30) Try.func121 rfl rfl rfl rfl (by simp) ?_
  refine W_seqK fun K1 h1 => ?_
  refine W_reg ?_
  simp [go_sem, ty4, ty103]
  repeat refine ⟨by first | omega | grind, ?_⟩
  refine h1 _ ?_
  clear h1 K1
  refine W_seqK fun K2 h2 => ?_
  refine W_seqK fun K3 h3 => ?_
  refine W_reg ?_
  simp [go_sem, ty3, ty4]
  refine callG_pc (fun hG => pc_impl_isOf id n) (by first | (simp; done) | (simp [inR_iff]; done) | (simp [inR_iff]; grind) | grind) (fun hG => by simp [go_sem]) rfl rfl (by first | exact Or.inl rfl | exact Or.inr rfl) ?_
  simp [go_sem, ty4]
  repeat refine ⟨by first | omega | grind, ?_⟩
  refine h3 _ ?_
  clear h3 K3
  refine W_cond rfl (fun hb4 => ?_) fun hb4 => ?_
  · have qz : nodeNewOk id n = false := (by by_cases hn : 1 ≤ n ∧ n ≤ 4; (have hw : IntKind.wrap .i64 (n - 1) = n - 1 := wrap_ok (by omega) (by omega)); (unfold nodeNewOk; simp [wofN, inR, hw] at hb4 ⊢; omega); (unfold nodeNewOk inR; simp; omega))
    have q : nodeNew id n = zNode := if_neg (by rw [qz]; decide)
    clear hb4
    refine W_seqK fun K5 h5 => ?_
    refine W_reg ?_
    simp [go_sem, ty4, ty103, fw103]
    repeat refine ⟨by first | omega | grind, ?_⟩
    refine h5 _ ?_
    clear h5 K5
    refine W_ret ?_
    simp [go_sem, ty103, q, qz, zNode, enc_nil]
  · have qk : nodeNewOk id n = true := by (have hn : 1 ≤ n ∧ n ≤ 4 := by (simp [wofN, inR] at hb4; omega)); (have hw : IntKind.wrap .i64 (n - 1) = n - 1 := wrap_ok (by omega) (by omega)); (unfold nodeNewOk; simp [wofN, inR, hw] at hb4 ⊢; omega)
    have q : nodeNew id n = ⟨id, List.replicate 6 zFrame, List.replicate 6 (homeNew n), List.replicate n.toNat zSender, List.replicate n.toNat ⟨0⟩⟩ := if_pos qk
    have qn : (1 ≤ n ∧ n ≤ 4) ∧ 0 ≤ id := by unfold nodeNewOk inR at qk; simp at qk; omega
    have hq1 : (0 : Int) ≤ n := by omega
    have hq2 : n ≤ 9223372036854775807 := by omega
    have hq3 : n * 32 ≤ 281474976710656 := by omega
    have hq4 : n * 8 ≤ 281474976710656 := by omega
    have hR : enc eI (List.replicate n.toNat 0) = enc eReceiver (List.replicate n.toNat ⟨0⟩) := by unfold enc; rw [List.map_replicate, List.map_replicate]; rfl
    clear hb4
    refine W_skip ?_
    repeat refine ⟨by first | omega | grind, ?_⟩
    refine h2 _ ?_
    clear h2 K2
    refine W_seqJ (α := Unit) (fun _u => ({ env := [(0, true, .l (.t (.int .i64 (id)))), (1, true, .l (.t (.int .i64 (n)))), (4, true, .l (.ptr 2 0)), (5, true, .l (.t (.bool (false)))), (6, true, .l (.ptr 50 0))], box := [(2, [.t (.int .i64 0), .nil, .nil, .nil, .nil]), (50, [.t (.int .i64 (id)), .ref 41 [] 3 0 6, .nil, .ref 42 [] 2 0 n.toNat, .ref 43 [] 1 0 n.toNat])], row := [(41, ⟨.own, 3, enc eFrame (List.replicate 6 zFrame)⟩), (42, ⟨.own, 2, enc eSender (List.replicate n.toNat zSender)⟩), (43, ⟨.own, 1, enc eReceiver (List.replicate n.toNat (⟨0⟩ : GReceiver))⟩)], nxt := 60, sav := [] } : St)) (fun _u => True) ?_ ?_
    · refine W_drawI true (.op 0 (.op 2 (.op 4 (.fork4 1 (.fork3 3 (.fork 5 (.op 6 (.op 7 (.op 8 .nil))) 7 (.op 5 (.op 6 (.op 8 .nil)))) 5 (.fork 3 (.op 6 (.op 7 (.op 8 .nil))) 7 (.op 3 (.op 6 (.op 8 .nil)))) 7 (.fork 3 (.op 5 (.op 6 (.op 8 .nil))) 5 (.op 3 (.op 6 (.op 8 .nil))))) 3 (.fork3 1 (.fork 5 (.op 6 (.op 7 (.op 8 .nil))) 7 (.op 5 (.op 6 (.op 8 .nil)))) 5 (.fork 1 (.op 6 (.op 7 (.op 8 .nil))) 7 (.op 1 (.op 6 (.op 8 .nil)))) 7 (.fork 1 (.op 5 (.op 6 (.op 8 .nil))) 5 (.op 1 (.op 6 (.op 8 .nil))))) 5 (.fork3 1 (.fork 3 (.op 6 (.op 7 (.op 8 .nil))) 7 (.op 3 (.op 6 (.op 8 .nil)))) 3 (.fork 1 (.op 6 (.op 7 (.op 8 .nil))) 7 (.op 1 (.op 6 (.op 8 .nil)))) 7 (.fork 1 (.op 3 (.op 6 (.op 8 .nil))) 3 (.op 1 (.op 6 (.op 8 .nil))))) 7 (.fork3 1 (.fork 3 (.op 5 (.op 6 (.op 8 .nil))) 5 (.op 3 (.op 6 (.op 8 .nil)))) 3 (.fork 1 (.op 5 (.op 6 (.op 8 .nil))) 5 (.op 1 (.op 6 (.op 8 .nil)))) 5 (.fork 1 (.op 3 (.op 6 (.op 8 .nil))) 3 (.op 1 (.op 6 (.op 8 .nil))))))))) mixed (by decide +kernel) ?_
      refine RunI_f1 ?_
      refine StepI_go rfl rfl fun KK hK => ?_
      simp [go_sem, ty3, hq1, hq2, hq3, hq4]
      refine hK _ ?_
      clear hK KK
      refine RunI_f1 ?_
      refine StepI_go rfl rfl fun KK hK => ?_
      simp [go_sem, ty3, hq1, hq2, hq3, hq4]
      refine hK _ ?_
      clear hK KK
      refine RunI_f1 ?_
      refine StepI_go rfl rfl fun KK hK => ?_
      simp [go_sem, ty3, hq1, hq2, hq3, hq4]
      refine hK _ ?_
      clear hK KK
      refine RunI_f4 ?_ ?_ ?_ ?_
      · refine StepI_go rfl rfl fun KK hK => ?_
        simp [go_sem, ty98, ty210, hq1, hq2, hq3, hq4]
        refine hK _ ?_
        clear hK KK
        refine RunI_f3 ?_ ?_ ?_
        · refine StepI_go rfl rfl fun KK hK => ?_
          simp [go_sem, ty100, ty215, hq1, hq2, hq3, hq4]
          refine hK _ ?_
          clear hK KK
          refine RunI_f2 ?_ ?_
          · refine StepI_go rfl rfl fun KK hK => ?_
            simp [go_sem, ty101, ty218, hq1, hq2, hq3, hq4]
            refine hK _ ?_
            clear hK KK
            refine RunI_f1 ?_
            refine StepI_go rfl rfl fun KK hK => ?_
            simp [go_sem, ty103, fw103, hq1, hq2, hq3, hq4]
            refine hK _ ?_
            clear hK KK
            refine RunI_f1 ?_
            refine StepI_go rfl rfl fun KK hK => ?_
            simp [go_sem, ty103, fw103, hq1, hq2, hq3, hq4]
            refine hK _ ?_
            clear hK KK
            refine RunI_f1 ?_
            refine StepI_go rfl rfl fun KK hK => ?_
            simp [go_sem, ty103, fw103, hq1, hq2, hq3, hq4]
            refine hK _ ?_
            clear hK KK
            refine RunI_end ?_
            exact ⟨(), trivial, (Sub.swp_box 7 50 rfl).trans ((Sub.swp_row 4 41 rfl).trans ((Sub.swp_row 5 42 rfl).trans ((Sub.swp_row 6 43 rfl).trans (Sub.of_neat [0, 1, 4, 5, 6] [41, 42, 43] [2, 50] 60 (by decide) (by simp [go_sem, rep_eFrame, rep_eSender, rep_eReceiver, zFrame, zSender]; exact ⟨rfl, hR⟩)))))⟩
          · refine StepI_go rfl rfl fun KK hK => ?_
            simp [go_sem, ty103, fw103, hq1, hq2, hq3, hq4]
            refine hK _ ?_
            clear hK KK
            refine RunI_f1 ?_
            refine StepI_go rfl rfl fun KK hK => ?_
            simp [go_sem, ty101, ty218, fw103, hq1, hq2, hq3, hq4]
            refine hK _ ?_
            clear hK KK
            refine RunI_f1 ?_
            refine StepI_go rfl rfl fun KK hK => ?_
            simp [go_sem, ty103, fw103, hq1, hq2, hq3, hq4]
            refine hK _ ?_
            clear hK KK
            refine RunI_f1 ?_
            refine StepI_go rfl rfl fun KK hK => ?_
            simp [go_sem, ty103, fw103, hq1, hq2, hq3, hq4]
            refine hK _ ?_
            clear hK KK
            refine RunI_end ?_
            exact ⟨(), trivial, (Sub.swp_box 6 50 rfl).trans ((Sub.swp_row 4 41 rfl).trans ((Sub.swp_row 5 42 rfl).trans ((Sub.swp_row 7 43 rfl).trans (Sub.of_neat [0, 1, 4, 5, 6] [41, 42, 43] [2, 50] 60 (by decide) (by simp [go_sem, rep_eFrame, rep_eSender, rep_eReceiver, zFrame, zSender]; exact ⟨rfl, hR⟩)))))⟩
        · refine StepI_go rfl rfl fun KK hK => ?_
          simp [go_sem, ty101, ty218, fw103, hq1, hq2, hq3, hq4]
          refine hK _ ?_
          clear hK KK
          refine RunI_f2 ?_ ?_
          · refine StepI_go rfl rfl fun KK hK => ?_
            simp [go_sem, ty100, ty215, fw103, hq1, hq2, hq3, hq4]
            refine hK _ ?_
            clear hK KK
            refine RunI_f1 ?_
            refine StepI_go rfl rfl fun KK hK => ?_
            simp [go_sem, ty103, fw103, hq1, hq2, hq3, hq4]
            refine hK _ ?_
            clear hK KK
            refine RunI_f1 ?_
            refine StepI_go rfl rfl fun KK hK => ?_
            simp [go_sem, ty103, fw103, hq1, hq2, hq3, hq4]
            refine hK _ ?_
            clear hK KK
            refine RunI_f1 ?_
            refine StepI_go rfl rfl fun KK hK => ?_
            simp [go_sem, ty103, fw103, hq1, hq2, hq3, hq4]
            refine hK _ ?_
            clear hK KK
            refine RunI_end ?_
            exact ⟨(), trivial, (Sub.swp_box 7 50 rfl).trans ((Sub.swp_row 4 41 rfl).trans ((Sub.swp_row 6 42 rfl).trans ((Sub.swp_row 5 43 rfl).trans (Sub.of_neat [0, 1, 4, 5, 6] [41, 42, 43] [2, 50] 60 (by decide) (by simp [go_sem, rep_eFrame, rep_eSender, rep_eReceiver, zFrame, zSender]; exact ⟨rfl, hR⟩)))))⟩
          · refine StepI_go rfl rfl fun KK hK => ?_
            simp [go_sem, ty103, fw103, hq1, hq2, hq3, hq4]
            refine hK _ ?_
            clear hK KK
            refine RunI_f1 ?_
            refine StepI_go rfl rfl fun KK hK => ?_
            simp [go_sem, ty100, ty215, fw103, hq1, hq2, hq3, hq4]
            refine hK _ ?_
            clear hK KK
            refine RunI_f1 ?_
            refine StepI_go rfl rfl fun KK hK => ?_
            simp [go_sem, ty103, fw103, hq1, hq2, hq3, hq4]
            refine hK _ ?_
            clear hK KK
            refine RunI_f1 ?_
            refine StepI_go rfl rfl fun KK hK => ?_
            simp [go_sem, ty103, fw103, hq1, hq2, hq3, hq4]
            refine hK _ ?_
            clear hK KK
            refine RunI_end ?_
            exact ⟨(), trivial, (Sub.swp_box 6 50 rfl).trans ((Sub.swp_row 4 41 rfl).trans ((Sub.swp_row 7 42 rfl).trans ((Sub.swp_row 5 43 rfl).trans (Sub.of_neat [0, 1, 4, 5, 6] [41, 42, 43] [2, 50] 60 (by decide) (by simp [go_sem, rep_eFrame, rep_eSender, rep_eReceiver, zFrame, zSender]; exact ⟨rfl, hR⟩)))))⟩
        · refine StepI_go rfl rfl fun KK hK => ?_
          simp [go_sem, ty103, fw103, hq1, hq2, hq3, hq4]
          refine hK _ ?_
          clear hK KK
          refine RunI_f2 ?_ ?_
          · refine StepI_go rfl rfl fun KK hK => ?_
            simp [go_sem, ty100, ty215, fw103, hq1, hq2, hq3, hq4]
            refine hK _ ?_
            clear hK KK
            refine RunI_f1 ?_
            refine StepI_go rfl rfl fun KK hK => ?_
            simp [go_sem, ty101, ty218, fw103, hq1, hq2, hq3, hq4]
            refine hK _ ?_
            clear hK KK
            refine RunI_f1 ?_
            refine StepI_go rfl rfl fun KK hK => ?_
            simp [go_sem, ty103, fw103, hq1, hq2, hq3, hq4]
            refine hK _ ?_
            clear hK KK
            refine RunI_f1 ?_
            refine StepI_go rfl rfl fun KK hK => ?_
            simp [go_sem, ty103, fw103, hq1, hq2, hq3, hq4]
            refine hK _ ?_
            clear hK KK
            refine RunI_end ?_
            exact ⟨(), trivial, (Sub.swp_box 5 50 rfl).trans ((Sub.swp_row 4 41 rfl).trans ((Sub.swp_row 6 42 rfl).trans ((Sub.swp_row 7 43 rfl).trans (Sub.of_neat [0, 1, 4, 5, 6] [41, 42, 43] [2, 50] 60 (by decide) (by simp [go_sem, rep_eFrame, rep_eSender, rep_eReceiver, zFrame, zSender]; exact ⟨rfl, hR⟩)))))⟩
          · refine StepI_go rfl rfl fun KK hK => ?_
            simp [go_sem, ty101, ty218, fw103, hq1, hq2, hq3, hq4]
            refine hK _ ?_
            clear hK KK
            refine RunI_f1 ?_
            refine StepI_go rfl rfl fun KK hK => ?_
            simp [go_sem, ty100, ty215, fw103, hq1, hq2, hq3, hq4]
            refine hK _ ?_
            clear hK KK
            refine RunI_f1 ?_
            refine StepI_go rfl rfl fun KK hK => ?_
            simp [go_sem, ty103, fw103, hq1, hq2, hq3, hq4]
            refine hK _ ?_
            clear hK KK
            refine RunI_f1 ?_
            refine StepI_go rfl rfl fun KK hK => ?_
            simp [go_sem, ty103, fw103, hq1, hq2, hq3, hq4]
            refine hK _ ?_
            clear hK KK
            refine RunI_end ?_
            exact ⟨(), trivial, (Sub.swp_box 5 50 rfl).trans ((Sub.swp_row 4 41 rfl).trans ((Sub.swp_row 7 42 rfl).trans ((Sub.swp_row 6 43 rfl).trans (Sub.of_neat [0, 1, 4, 5, 6] [41, 42, 43] [2, 50] 60 (by decide) (by simp [go_sem, rep_eFrame, rep_eSender, rep_eReceiver, zFrame, zSender]; exact ⟨rfl, hR⟩)))))⟩
      · refine StepI_go rfl rfl fun KK hK => ?_
        simp [go_sem, ty100, ty215, fw103, hq1, hq2, hq3, hq4]
        refine hK _ ?_
        clear hK KK
        refine RunI_f3 ?_ ?_ ?_
        · refine StepI_go rfl rfl fun KK hK => ?_
          simp [go_sem, ty98, ty210, fw103, hq1, hq2, hq3, hq4]
          refine hK _ ?_
          clear hK KK
          refine RunI_f2 ?_ ?_
          · refine StepI_go rfl rfl fun KK hK => ?_
            simp [go_sem, ty101, ty218, fw103, hq1, hq2, hq3, hq4]
            refine hK _ ?_
            clear hK KK
            refine RunI_f1 ?_
            refine StepI_go rfl rfl fun KK hK => ?_
            simp [go_sem, ty103, fw103, hq1, hq2, hq3, hq4]
            refine hK _ ?_
            clear hK KK
            refine RunI_f1 ?_
            refine StepI_go rfl rfl fun KK hK => ?_
            simp [go_sem, ty103, fw103, hq1, hq2, hq3, hq4]
            refine hK _ ?_
            clear hK KK
            refine RunI_f1 ?_
            refine StepI_go rfl rfl fun KK hK => ?_
            simp [go_sem, ty103, fw103, hq1, hq2, hq3, hq4]
            refine hK _ ?_
            clear hK KK
            refine RunI_end ?_
            exact ⟨(), trivial, (Sub.swp_box 7 50 rfl).trans ((Sub.swp_row 5 41 rfl).trans ((Sub.swp_row 4 42 rfl).trans ((Sub.swp_row 6 43 rfl).trans (Sub.of_neat [0, 1, 4, 5, 6] [41, 42, 43] [2, 50] 60 (by decide) (by simp [go_sem, rep_eFrame, rep_eSender, rep_eReceiver, zFrame, zSender]; exact ⟨rfl, hR⟩)))))⟩
          · refine StepI_go rfl rfl fun KK hK => ?_
            simp [go_sem, ty103, fw103, hq1, hq2, hq3, hq4]
            refine hK _ ?_
            clear hK KK
            refine RunI_f1 ?_
            refine StepI_go rfl rfl fun KK hK => ?_
            simp [go_sem, ty101, ty218, fw103, hq1, hq2, hq3, hq4]
            refine hK _ ?_
            clear hK KK
            refine RunI_f1 ?_
            refine StepI_go rfl rfl fun KK hK => ?_
            simp [go_sem, ty103, fw103, hq1, hq2, hq3, hq4]
            refine hK _ ?_
            clear hK KK
            refine RunI_f1 ?_
            refine StepI_go rfl rfl fun KK hK => ?_
            simp [go_sem, ty103, fw103, hq1, hq2, hq3, hq4]
            refine hK _ ?_
            clear hK KK
            refine RunI_end ?_
            exact ⟨(), trivial, (Sub.swp_box 6 50 rfl).trans ((Sub.swp_row 5 41 rfl).trans ((Sub.swp_row 4 42 rfl).trans ((Sub.swp_row 7 43 rfl).trans (Sub.of_neat [0, 1, 4, 5, 6] [41, 42, 43] [2, 50] 60 (by decide) (by simp [go_sem, rep_eFrame, rep_eSender, rep_eReceiver, zFrame, zSender]; exact ⟨rfl, hR⟩)))))⟩
        · refine StepI_go rfl rfl fun KK hK => ?_
          simp [go_sem, ty101, ty218, fw103, hq1, hq2, hq3, hq4]
          refine hK _ ?_
          clear hK KK
          refine RunI_f2 ?_ ?_
          · refine StepI_go rfl rfl fun KK hK => ?_
            simp [go_sem, ty98, ty210, fw103, hq1, hq2, hq3, hq4]
            refine hK _ ?_
            clear hK KK
            refine RunI_f1 ?_
            refine StepI_go rfl rfl fun KK hK => ?_
            simp [go_sem, ty103, fw103, hq1, hq2, hq3, hq4]
            refine hK _ ?_
            clear hK KK
            refine RunI_f1 ?_
            refine StepI_go rfl rfl fun KK hK => ?_
            simp [go_sem, ty103, fw103, hq1, hq2, hq3, hq4]
            refine hK _ ?_
            clear hK KK
            refine RunI_f1 ?_
            refine StepI_go rfl rfl fun KK hK => ?_
            simp [go_sem, ty103, fw103, hq1, hq2, hq3, hq4]
            refine hK _ ?_
            clear hK KK
            refine RunI_end ?_
            exact ⟨(), trivial, (Sub.swp_box 7 50 rfl).trans ((Sub.swp_row 6 41 rfl).trans ((Sub.swp_row 4 42 rfl).trans ((Sub.swp_row 5 43 rfl).trans (Sub.of_neat [0, 1, 4, 5, 6] [41, 42, 43] [2, 50] 60 (by decide) (by simp [go_sem, rep_eFrame, rep_eSender, rep_eReceiver, zFrame, zSender]; exact ⟨rfl, hR⟩)))))⟩
          · refine StepI_go rfl rfl fun KK hK => ?_
            simp [go_sem, ty103, fw103, hq1, hq2, hq3, hq4]
            refine hK _ ?_
            clear hK KK
            refine RunI_f1 ?_
            refine StepI_go rfl rfl fun KK hK => ?_
            simp [go_sem, ty98, ty210, fw103, hq1, hq2, hq3, hq4]
            refine hK _ ?_
            clear hK KK
            refine RunI_f1 ?_
            refine StepI_go rfl rfl fun KK hK => ?_
            simp [go_sem, ty103, fw103, hq1, hq2, hq3, hq4]
            refine hK _ ?_
            clear hK KK
            refine RunI_f1 ?_
            refine StepI_go rfl rfl fun KK hK => ?_
            simp [go_sem, ty103, fw103, hq1, hq2, hq3, hq4]
            refine hK _ ?_
            clear hK KK
            refine RunI_end ?_
            exact ⟨(), trivial, (Sub.swp_box 6 50 rfl).trans ((Sub.swp_row 7 41 rfl).trans ((Sub.swp_row 4 42 rfl).trans ((Sub.swp_row 5 43 rfl).trans (Sub.of_neat [0, 1, 4, 5, 6] [41, 42, 43] [2, 50] 60 (by decide) (by simp [go_sem, rep_eFrame, rep_eSender, rep_eReceiver, zFrame, zSender]; exact ⟨rfl, hR⟩)))))⟩
        · refine StepI_go rfl rfl fun KK hK => ?_
          simp [go_sem, ty103, fw103, hq1, hq2, hq3, hq4]
          refine hK _ ?_
          clear hK KK
          refine RunI_f2 ?_ ?_
          · refine StepI_go rfl rfl fun KK hK => ?_
            simp [go_sem, ty98, ty210, fw103, hq1, hq2, hq3, hq4]
            refine hK _ ?_
            clear hK KK
            refine RunI_f1 ?_
            refine StepI_go rfl rfl fun KK hK => ?_
            simp [go_sem, ty101, ty218, fw103, hq1, hq2, hq3, hq4]
            refine hK _ ?_
            clear hK KK
            refine RunI_f1 ?_
            refine StepI_go rfl rfl fun KK hK => ?_
            simp [go_sem, ty103, fw103, hq1, hq2, hq3, hq4]
            refine hK _ ?_
            clear hK KK
            refine RunI_f1 ?_
            refine StepI_go rfl rfl fun KK hK => ?_
            simp [go_sem, ty103, fw103, hq1, hq2, hq3, hq4]
            refine hK _ ?_
            clear hK KK
            refine RunI_end ?_
            exact ⟨(), trivial, (Sub.swp_box 5 50 rfl).trans ((Sub.swp_row 6 41 rfl).trans ((Sub.swp_row 4 42 rfl).trans ((Sub.swp_row 7 43 rfl).trans (Sub.of_neat [0, 1, 4, 5, 6] [41, 42, 43] [2, 50] 60 (by decide) (by simp [go_sem, rep_eFrame, rep_eSender, rep_eReceiver, zFrame, zSender]; exact ⟨rfl, hR⟩)))))⟩
          · refine StepI_go rfl rfl fun KK hK => ?_
            simp [go_sem, ty101, ty218, fw103, hq1, hq2, hq3, hq4]
            refine hK _ ?_
            clear hK KK
            refine RunI_f1 ?_
            refine StepI_go rfl rfl fun KK hK => ?_
            simp [go_sem, ty98, ty210, fw103, hq1, hq2, hq3, hq4]
            refine hK _ ?_
            clear hK KK
            refine RunI_f1 ?_
            refine StepI_go rfl rfl fun KK hK => ?_
            simp [go_sem, ty103, fw103, hq1, hq2, hq3, hq4]
            refine hK _ ?_
            clear hK KK
            refine RunI_f1 ?_
            refine StepI_go rfl rfl fun KK hK => ?_
            simp [go_sem, ty103, fw103, hq1, hq2, hq3, hq4]
            refine hK _ ?_
            clear hK KK
            refine RunI_end ?_
            exact ⟨(), trivial, (Sub.swp_box 5 50 rfl).trans ((Sub.swp_row 7 41 rfl).trans ((Sub.swp_row 4 42 rfl).trans ((Sub.swp_row 6 43 rfl).trans (Sub.of_neat [0, 1, 4, 5, 6] [41, 42, 43] [2, 50] 60 (by decide) (by simp [go_sem, rep_eFrame, rep_eSender, rep_eReceiver, zFrame, zSender]; exact ⟨rfl, hR⟩)))))⟩
      · refine StepI_go rfl rfl fun KK hK => ?_
        simp [go_sem, ty101, ty218, fw103, hq1, hq2, hq3, hq4]
        refine hK _ ?_
        clear hK KK
        refine RunI_f3 ?_ ?_ ?_
        · refine StepI_go rfl rfl fun KK hK => ?_
          simp [go_sem, ty98, ty210, fw103, hq1, hq2, hq3, hq4]
          refine hK _ ?_
          clear hK KK
          refine RunI_f2 ?_ ?_
          · refine StepI_go rfl rfl fun KK hK => ?_
            simp [go_sem, ty100, ty215, fw103, hq1, hq2, hq3, hq4]
            refine hK _ ?_
            clear hK KK
            refine RunI_f1 ?_
            refine StepI_go rfl rfl fun KK hK => ?_
            simp [go_sem, ty103, fw103, hq1, hq2, hq3, hq4]
            refine hK _ ?_
            clear hK KK
            refine RunI_f1 ?_
            refine StepI_go rfl rfl fun KK hK => ?_
            simp [go_sem, ty103, fw103, hq1, hq2, hq3, hq4]
            refine hK _ ?_
            clear hK KK
            refine RunI_f1 ?_
            refine StepI_go rfl rfl fun KK hK => ?_
            simp [go_sem, ty103, fw103, hq1, hq2, hq3, hq4]
            refine hK _ ?_
            clear hK KK
            refine RunI_end ?_
            exact ⟨(), trivial, (Sub.swp_box 7 50 rfl).trans ((Sub.swp_row 5 41 rfl).trans ((Sub.swp_row 6 42 rfl).trans ((Sub.swp_row 4 43 rfl).trans (Sub.of_neat [0, 1, 4, 5, 6] [41, 42, 43] [2, 50] 60 (by decide) (by simp [go_sem, rep_eFrame, rep_eSender, rep_eReceiver, zFrame, zSender]; exact ⟨rfl, hR⟩)))))⟩
          · refine StepI_go rfl rfl fun KK hK => ?_
            simp [go_sem, ty103, fw103, hq1, hq2, hq3, hq4]
            refine hK _ ?_
            clear hK KK
            refine RunI_f1 ?_
            refine StepI_go rfl rfl fun KK hK => ?_
            simp [go_sem, ty100, ty215, fw103, hq1, hq2, hq3, hq4]
            refine hK _ ?_
            clear hK KK
            refine RunI_f1 ?_
            refine StepI_go rfl rfl fun KK hK => ?_
            simp [go_sem, ty103, fw103, hq1, hq2, hq3, hq4]
            refine hK _ ?_
            clear hK KK
            refine RunI_f1 ?_
            refine StepI_go rfl rfl fun KK hK => ?_
            simp [go_sem, ty103, fw103, hq1, hq2, hq3, hq4]
            refine hK _ ?_
            clear hK KK
            refine RunI_end ?_
            exact ⟨(), trivial, (Sub.swp_box 6 50 rfl).trans ((Sub.swp_row 5 41 rfl).trans ((Sub.swp_row 7 42 rfl).trans ((Sub.swp_row 4 43 rfl).trans (Sub.of_neat [0, 1, 4, 5, 6] [41, 42, 43] [2, 50] 60 (by decide) (by simp [go_sem, rep_eFrame, rep_eSender, rep_eReceiver, zFrame, zSender]; exact ⟨rfl, hR⟩)))))⟩
        · refine StepI_go rfl rfl fun KK hK => ?_
          simp [go_sem, ty100, ty215, fw103, hq1, hq2, hq3, hq4]
          refine hK _ ?_
          clear hK KK
          refine RunI_f2 ?_ ?_
          · refine StepI_go rfl rfl fun KK hK => ?_
            simp [go_sem, ty98, ty210, fw103, hq1, hq2, hq3, hq4]
            refine hK _ ?_
            clear hK KK
            refine RunI_f1 ?_
            refine StepI_go rfl rfl fun KK hK => ?_
            simp [go_sem, ty103, fw103, hq1, hq2, hq3, hq4]
            refine hK _ ?_
            clear hK KK
            refine RunI_f1 ?_
            refine StepI_go rfl rfl fun KK hK => ?_
            simp [go_sem, ty103, fw103, hq1, hq2, hq3, hq4]
            refine hK _ ?_
            clear hK KK
            refine RunI_f1 ?_
            refine StepI_go rfl rfl fun KK hK => ?_
            simp [go_sem, ty103, fw103, hq1, hq2, hq3, hq4]
            refine hK _ ?_
            clear hK KK
            refine RunI_end ?_
            exact ⟨(), trivial, (Sub.swp_box 7 50 rfl).trans ((Sub.swp_row 6 41 rfl).trans ((Sub.swp_row 5 42 rfl).trans ((Sub.swp_row 4 43 rfl).trans (Sub.of_neat [0, 1, 4, 5, 6] [41, 42, 43] [2, 50] 60 (by decide) (by simp [go_sem, rep_eFrame, rep_eSender, rep_eReceiver, zFrame, zSender]; exact ⟨rfl, hR⟩)))))⟩
          · refine StepI_go rfl rfl fun KK hK => ?_
            simp [go_sem, ty103, fw103, hq1, hq2, hq3, hq4]
            refine hK _ ?_
            clear hK KK
            refine RunI_f1 ?_
            refine StepI_go rfl rfl fun KK hK => ?_
            simp [go_sem, ty98, ty210, fw103, hq1, hq2, hq3, hq4]
            refine hK _ ?_
            clear hK KK
            refine RunI_f1 ?_
            refine StepI_go rfl rfl fun KK hK => ?_
            simp [go_sem, ty103, fw103, hq1, hq2, hq3, hq4]
            refine hK _ ?_
            clear hK KK
            refine RunI_f1 ?_
            refine StepI_go rfl rfl fun KK hK => ?_
            simp [go_sem, ty103, fw103, hq1, hq2, hq3, hq4]
            refine hK _ ?_
            clear hK KK
            refine RunI_end ?_
            exact ⟨(), trivial, (Sub.swp_box 6 50 rfl).trans ((Sub.swp_row 7 41 rfl).trans ((Sub.swp_row 5 42 rfl).trans ((Sub.swp_row 4 43 rfl).trans (Sub.of_neat [0, 1, 4, 5, 6] [41, 42, 43] [2, 50] 60 (by decide) (by simp [go_sem, rep_eFrame, rep_eSender, rep_eReceiver, zFrame, zSender]; exact ⟨rfl, hR⟩)))))⟩
        · refine StepI_go rfl rfl fun KK hK => ?_
          simp [go_sem, ty103, fw103, hq1, hq2, hq3, hq4]
          refine hK _ ?_
          clear hK KK
          refine RunI_f2 ?_ ?_
          · refine StepI_go rfl rfl fun KK hK => ?_
            simp [go_sem, ty98, ty210, fw103, hq1, hq2, hq3, hq4]
            refine hK _ ?_
            clear hK KK
            refine RunI_f1 ?_
            refine StepI_go rfl rfl fun KK hK => ?_
            simp [go_sem, ty100, ty215, fw103, hq1, hq2, hq3, hq4]
            refine hK _ ?_
            clear hK KK
            refine RunI_f1 ?_
            refine StepI_go rfl rfl fun KK hK => ?_
            simp [go_sem, ty103, fw103, hq1, hq2, hq3, hq4]
            refine hK _ ?_
            clear hK KK
            refine RunI_f1 ?_
            refine StepI_go rfl rfl fun KK hK => ?_
            simp [go_sem, ty103, fw103, hq1, hq2, hq3, hq4]
            refine hK _ ?_
            clear hK KK
            refine RunI_end ?_
            exact ⟨(), trivial, (Sub.swp_box 5 50 rfl).trans ((Sub.swp_row 6 41 rfl).trans ((Sub.swp_row 7 42 rfl).trans ((Sub.swp_row 4 43 rfl).trans (Sub.of_neat [0, 1, 4, 5, 6] [41, 42, 43] [2, 50] 60 (by decide) (by simp [go_sem, rep_eFrame, rep_eSender, rep_eReceiver, zFrame, zSender]; exact ⟨rfl, hR⟩)))))⟩
          · refine StepI_go rfl rfl fun KK hK => ?_
            simp [go_sem, ty100, ty215, fw103, hq1, hq2, hq3, hq4]
            refine hK _ ?_
            clear hK KK
            refine RunI_f1 ?_
            refine StepI_go rfl rfl fun KK hK => ?_
            simp [go_sem, ty98, ty210, fw103, hq1, hq2, hq3, hq4]
            refine hK _ ?_
            clear hK KK
            refine RunI_f1 ?_
            refine StepI_go rfl rfl fun KK hK => ?_
            simp [go_sem, ty103, fw103, hq1, hq2, hq3, hq4]
            refine hK _ ?_
            clear hK KK
            refine RunI_f1 ?_
            refine StepI_go rfl rfl fun KK hK => ?_
            simp [go_sem, ty103, fw103, hq1, hq2, hq3, hq4]
            refine hK _ ?_
            clear hK KK
            refine RunI_end ?_
            exact ⟨(), trivial, (Sub.swp_box 5 50 rfl).trans ((Sub.swp_row 7 41 rfl).trans ((Sub.swp_row 6 42 rfl).trans ((Sub.swp_row 4 43 rfl).trans (Sub.of_neat [0, 1, 4, 5, 6] [41, 42, 43] [2, 50] 60 (by decide) (by simp [go_sem, rep_eFrame, rep_eSender, rep_eReceiver, zFrame, zSender]; exact ⟨rfl, hR⟩)))))⟩
      · refine StepI_go rfl rfl fun KK hK => ?_
        simp [go_sem, ty103, fw103, hq1, hq2, hq3, hq4]
        refine hK _ ?_
        clear hK KK
        refine RunI_f3 ?_ ?_ ?_
        · refine StepI_go rfl rfl fun KK hK => ?_
          simp [go_sem, ty98, ty210, fw103, hq1, hq2, hq3, hq4]
          refine hK _ ?_
          clear hK KK
          refine RunI_f2 ?_ ?_
          · refine StepI_go rfl rfl fun KK hK => ?_
            simp [go_sem, ty100, ty215, fw103, hq1, hq2, hq3, hq4]
            refine hK _ ?_
            clear hK KK
            refine RunI_f1 ?_
            refine StepI_go rfl rfl fun KK hK => ?_
            simp [go_sem, ty101, ty218, fw103, hq1, hq2, hq3, hq4]
            refine hK _ ?_
            clear hK KK
            refine RunI_f1 ?_
            refine StepI_go rfl rfl fun KK hK => ?_
            simp [go_sem, ty103, fw103, hq1, hq2, hq3, hq4]
            refine hK _ ?_
            clear hK KK
            refine RunI_f1 ?_
            refine StepI_go rfl rfl fun KK hK => ?_
            simp [go_sem, ty103, fw103, hq1, hq2, hq3, hq4]
            refine hK _ ?_
            clear hK KK
            refine RunI_end ?_
            exact ⟨(), trivial, (Sub.swp_box 4 50 rfl).trans ((Sub.swp_row 5 41 rfl).trans ((Sub.swp_row 6 42 rfl).trans ((Sub.swp_row 7 43 rfl).trans (Sub.of_neat [0, 1, 4, 5, 6] [41, 42, 43] [2, 50] 60 (by decide) (by simp [go_sem, rep_eFrame, rep_eSender, rep_eReceiver, zFrame, zSender]; exact ⟨rfl, hR⟩)))))⟩
          · refine StepI_go rfl rfl fun KK hK => ?_
            simp [go_sem, ty101, ty218, fw103, hq1, hq2, hq3, hq4]
            refine hK _ ?_
            clear hK KK
            refine RunI_f1 ?_
            refine StepI_go rfl rfl fun KK hK => ?_
            simp [go_sem, ty100, ty215, fw103, hq1, hq2, hq3, hq4]
            refine hK _ ?_
            clear hK KK
            refine RunI_f1 ?_
            refine StepI_go rfl rfl fun KK hK => ?_
            simp [go_sem, ty103, fw103, hq1, hq2, hq3, hq4]
            refine hK _ ?_
            clear hK KK
            refine RunI_f1 ?_
            refine StepI_go rfl rfl fun KK hK => ?_
            simp [go_sem, ty103, fw103, hq1, hq2, hq3, hq4]
            refine hK _ ?_
            clear hK KK
            refine RunI_end ?_
            exact ⟨(), trivial, (Sub.swp_box 4 50 rfl).trans ((Sub.swp_row 5 41 rfl).trans ((Sub.swp_row 7 42 rfl).trans ((Sub.swp_row 6 43 rfl).trans (Sub.of_neat [0, 1, 4, 5, 6] [41, 42, 43] [2, 50] 60 (by decide) (by simp [go_sem, rep_eFrame, rep_eSender, rep_eReceiver, zFrame, zSender]; exact ⟨rfl, hR⟩)))))⟩
        · refine StepI_go rfl rfl fun KK hK => ?_
          simp [go_sem, ty100, ty215, fw103, hq1, hq2, hq3, hq4]
          refine hK _ ?_
          clear hK KK
          refine RunI_f2 ?_ ?_
          · refine StepI_go rfl rfl fun KK hK => ?_
            simp [go_sem, ty98, ty210, fw103, hq1, hq2, hq3, hq4]
            refine hK _ ?_
            clear hK KK
            refine RunI_f1 ?_
            refine StepI_go rfl rfl fun KK hK => ?_
            simp [go_sem, ty101, ty218, fw103, hq1, hq2, hq3, hq4]
            refine hK _ ?_
            clear hK KK
            refine RunI_f1 ?_
            refine StepI_go rfl rfl fun KK hK => ?_
            simp [go_sem, ty103, fw103, hq1, hq2, hq3, hq4]
            refine hK _ ?_
            clear hK KK
            refine RunI_f1 ?_
            refine StepI_go rfl rfl fun KK hK => ?_
            simp [go_sem, ty103, fw103, hq1, hq2, hq3, hq4]
            refine hK _ ?_
            clear hK KK
            refine RunI_end ?_
            exact ⟨(), trivial, (Sub.swp_box 4 50 rfl).trans ((Sub.swp_row 6 41 rfl).trans ((Sub.swp_row 5 42 rfl).trans ((Sub.swp_row 7 43 rfl).trans (Sub.of_neat [0, 1, 4, 5, 6] [41, 42, 43] [2, 50] 60 (by decide) (by simp [go_sem, rep_eFrame, rep_eSender, rep_eReceiver, zFrame, zSender]; exact ⟨rfl, hR⟩)))))⟩
          · refine StepI_go rfl rfl fun KK hK => ?_
            simp [go_sem, ty101, ty218, fw103, hq1, hq2, hq3, hq4]
            refine hK _ ?_
            clear hK KK
            refine RunI_f1 ?_
            refine StepI_go rfl rfl fun KK hK => ?_
            simp [go_sem, ty98, ty210, fw103, hq1, hq2, hq3, hq4]
            refine hK _ ?_
            clear hK KK
            refine RunI_f1 ?_
            refine StepI_go rfl rfl fun KK hK => ?_
            simp [go_sem, ty103, fw103, hq1, hq2, hq3, hq4]
            refine hK _ ?_
            clear hK KK
            refine RunI_f1 ?_
            refine StepI_go rfl rfl fun KK hK => ?_
            simp [go_sem, ty103, fw103, hq1, hq2, hq3, hq4]
            refine hK _ ?_
            clear hK KK
            refine RunI_end ?_
            exact ⟨(), trivial, (Sub.swp_box 4 50 rfl).trans ((Sub.swp_row 7 41 rfl).trans ((Sub.swp_row 5 42 rfl).trans ((Sub.swp_row 6 43 rfl).trans (Sub.of_neat [0, 1, 4, 5, 6] [41, 42, 43] [2, 50] 60 (by decide) (by simp [go_sem, rep_eFrame, rep_eSender, rep_eReceiver, zFrame, zSender]; exact ⟨rfl, hR⟩)))))⟩
        · refine StepI_go rfl rfl fun KK hK => ?_
          simp [go_sem, ty101, ty218, fw103, hq1, hq2, hq3, hq4]
          refine hK _ ?_
          clear hK KK
          refine RunI_f2 ?_ ?_
          · refine StepI_go rfl rfl fun KK hK => ?_
            simp [go_sem, ty98, ty210, fw103, hq1, hq2, hq3, hq4]
            refine hK _ ?_
            clear hK KK
            refine RunI_f1 ?_
            refine StepI_go rfl rfl fun KK hK => ?_
            simp [go_sem, ty100, ty215, fw103, hq1, hq2, hq3, hq4]
            refine hK _ ?_
            clear hK KK
            refine RunI_f1 ?_
            refine StepI_go rfl rfl fun KK hK => ?_
            simp [go_sem, ty103, fw103, hq1, hq2, hq3, hq4]
            refine hK _ ?_
            clear hK KK
            refine RunI_f1 ?_
            refine StepI_go rfl rfl fun KK hK => ?_
            simp [go_sem, ty103, fw103, hq1, hq2, hq3, hq4]
            refine hK _ ?_
            clear hK KK
            refine RunI_end ?_
            exact ⟨(), trivial, (Sub.swp_box 4 50 rfl).trans ((Sub.swp_row 6 41 rfl).trans ((Sub.swp_row 7 42 rfl).trans ((Sub.swp_row 5 43 rfl).trans (Sub.of_neat [0, 1, 4, 5, 6] [41, 42, 43] [2, 50] 60 (by decide) (by simp [go_sem, rep_eFrame, rep_eSender, rep_eReceiver, zFrame, zSender]; exact ⟨rfl, hR⟩)))))⟩
          · refine StepI_go rfl rfl fun KK hK => ?_
            simp [go_sem, ty100, ty215, fw103, hq1, hq2, hq3, hq4]
            refine hK _ ?_
            clear hK KK
            refine RunI_f1 ?_
            refine StepI_go rfl rfl fun KK hK => ?_
            simp [go_sem, ty98, ty210, fw103, hq1, hq2, hq3, hq4]
            refine hK _ ?_
            clear hK KK
            refine RunI_f1 ?_
            refine StepI_go rfl rfl fun KK hK => ?_
            simp [go_sem, ty103, fw103, hq1, hq2, hq3, hq4]
            refine hK _ ?_
            clear hK KK
            refine RunI_f1 ?_
            refine StepI_go rfl rfl fun KK hK => ?_
            simp [go_sem, ty103, fw103, hq1, hq2, hq3, hq4]
            refine hK _ ?_
            clear hK KK
            refine RunI_end ?_
            exact ⟨(), trivial, (Sub.swp_box 4 50 rfl).trans ((Sub.swp_row 7 41 rfl).trans ((Sub.swp_row 6 42 rfl).trans ((Sub.swp_row 5 43 rfl).trans (Sub.of_neat [0, 1, 4, 5, 6] [41, 42, 43] [2, 50] 60 (by decide) (by simp [go_sem, rep_eFrame, rep_eSender, rep_eReceiver, zFrame, zSender]; exact ⟨rfl, hR⟩)))))⟩
    · rintro _ hinv
      refine W_seqK fun K6 h6 => ?_
      refine W_seqK fun K7 h7 => ?_
      refine W_reg ?_
      simp [go_sem, ty3]
      repeat refine ⟨by first | omega | grind, ?_⟩
      refine h7 _ ?_
      clear h7 K7
      refine W_block ?_
      refine W_loopI (α := Nat) (fun i => ({ env := [(1, true, .l (.t (.int .i64 (n)))), (4, true, .l (.ptr 2 0)), (6, true, .l (.ptr 50 0)), (19, true, .l (.t (.int .i64 (i))))], box := [(2, [.t (.int .i64 0), .nil, .nil, .nil, .nil]), (50, [.t (.int .i64 id), .ref 41 [] 3 0 ((List.replicate 6 zFrame)).length, .ref 44 [] 8 0 (List.replicate i (homeNew n)).length, .ref 42 [] 2 0 ((List.replicate n.toNat zSender)).length, .ref 43 [] 1 0 ((List.replicate n.toNat (⟨0⟩ : GReceiver))).length])], row := [(41, ⟨.own, 3, enc eFrame (List.replicate 6 zFrame)⟩), (42, ⟨.own, 2, enc eSender (List.replicate n.toNat zSender)⟩), (43, ⟨.own, 1, enc eReceiver (List.replicate n.toNat (⟨0⟩ : GReceiver))⟩), (44, ⟨.own, 8, enc eHome (List.replicate i (homeNew n))⟩)], nxt := 64, sav := [] } : St)) (fun i => i ≤ 6) (fun i => 6 - i) 0 ?_ ?_ ?_
      · exact (Sub.nilBox (k := 50) (j := 2) (nm := 44) (z := 8) (by rfl) (by rfl) (by rfl)).trans (Sub.of_neat [1, 4, 6, 19] [41, 42, 43, 44] [2, 50] 64 (by decide) (by simp [go_sem, enc_nil]))
      · exact Nat.zero_le _
      rintro i hinv
      refine W_seqK fun K9 h9 => ?_
      refine W_reg ?_
      simp [go_sem, ty3, ty4]
      repeat refine ⟨by first | omega | grind, ?_⟩
      refine h9 _ ?_
      clear h9 K9
      refine W_seqK fun K10 h10 => ?_
      refine W_cond rfl (fun hb11 => ?_) fun hb11 => ?_
      · have hlt : i < 6 := by simp at hb11; omega
        have hrs : List.replicate i (homeNew n) ++ [homeNew n] = List.replicate (i + 1) (homeNew n) := by rw [List.replicate_succ']
        clear hb11
        refine W_skip ?_
        repeat refine ⟨by first | omega | grind, ?_⟩
        refine h10 _ ?_
        clear h10 K10
        refine W_seqK fun K12 h12 => ?_
        refine W_block ?_
        refine W_drawT true mixed (by decide +kernel) ?_
        simp [go_sem, ty3, ty97, ty99, ty103]
        refine callG_pc (fun hG => pc_impl_HomeNew n) (by first | (simp; done) | (simp [inR_iff]; done) | (simp [inR_iff]; grind) | grind) (fun hG => by simp [go_sem]) rfl rfl (by first | exact Or.inl rfl | exact Or.inr rfl) ?_
        simp [go_sem, ty97, ty99, ty103]
        repeat refine ⟨by first | omega | grind, ?_⟩
        refine h12 _ ?_
        clear h12 K12
        refine W_reg ?_
        simp [go_sem, ty3]
        refine ⟨i + 1, ?_, ?_, ?_⟩
        · exact (Sub.swp_row 73 44 rfl).trans (Sub.of_neat [1, 4, 6, 19] [41, 42, 43, 44] [2, 50] 64 (by decide) (by simp [go_sem, wrap_succ (show i < 9223372036854775807 by omega), hrs]))
        · exact hlt
        · omega
      · have hil : i = 6 := by simp at hb11; omega
        clear hb11
        refine W_exit ?_
        simp [go_sem]
        repeat refine ⟨by first | omega | grind, ?_⟩
        refine h6 _ ?_
        clear h10 K10 h6 K6
        refine W_seqK fun K13 h13 => ?_
        refine W_reg ?_
        simp [go_sem, ty4, ty103]
        repeat refine ⟨by first | omega | grind, ?_⟩
        refine h13 _ ?_
        clear h13 K13
        refine W_ret ?_
        simp [go_sem, ty103, q, qk, hil, rep_eFrame, rep_eSender, rep_eReceiver, zFrame, zSender]
end Go.Tw
