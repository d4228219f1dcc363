/- Walks of functions: spec.l1New, spec.l1Byte -/
import Derived.Test.YtgcjdkgddnnlpaaR7Ty
import Derived.Test.YtgcjdkgddnnlpaaBaseE
set_option linter.unusedSimpArgs false
set_option linter.unusedVariables false
set_option linter.unnecessarySimpa false
namespace Go.Tw
open Go.Proofs

set_option maxRecDepth 100000 in
set_option maxHeartbeats 4000000 in
theorem pnew_spec_l1New (code : List Int) (hcs : code.length ≤ 1048576) : PNew Try.prog 108 (enc eU code) := by
  refine PNew_of (n := 32) (t := 2) Try.func108 rfl rfl rfl rfl (by omega) fun a0 => ?_
  refine W_seqK fun K1 h1 => ?_
  refine W_reg ?_
  simp [go_sem]
  repeat refine ⟨by first | omega | grind, ?_⟩
  refine h1 _ ?_
  clear h1 K1
  refine W_seqK fun K2 h2 => ?_
  refine W_reg ?_
  simp [go_sem, ty3, ty5, ty71]
  repeat refine ⟨by first | omega | grind, ?_⟩
  refine h2 _ ?_
  clear h2 K2
  refine W_seqK fun K3 h3 => ?_
  refine W_seqK fun K4 h4 => ?_
  refine W_reg ?_
  simp [go_sem, ty3]
  repeat refine ⟨by first | omega | grind, ?_⟩
  refine h4 _ ?_
  clear h4 K4
  refine W_block ?_
  refine W_loopI (α := Nat × Int) (fun p => ({ env := [(0, true, .l (.ref 0 [] 1 0 (code.length))), (2, true, .l .npt), (3, true, .l (.t (.int .i64 (p.2)))), (4, true, .l (.t (.int .i64 (p.1))))], box := [], row := [(0, ⟨.ro, 1, enc eU code⟩)], nxt := 1, sav := [([(0, true, .l (.ref 0 [] 1 0 code.length))], a0)] } : St)) (fun p => p.1 ≤ code.length) (fun p => code.length - p.1) (0, IntKind.wrap .i64 (20404 + (code.length : Int))) ?_ ?_ ?_
  · exact Sub.of_neat [0, 2, 3, 4] [0] [] 1 (by decide) (by simp [go_sem])
  · exact Nat.zero_le _
  rintro p hinv
  refine W_seqK fun K6 h6 => ?_
  refine W_seqK fun K7 h7 => ?_
  refine W_reg ?_
  simp [go_sem, ty3, ty4, ty5, ty71]
  repeat refine ⟨by first | omega | grind, ?_⟩
  refine h7 _ ?_
  clear h7 K7
  refine W_cond rfl (fun hb8 => ?_) fun hb8 => ?_
  · have hlt : p.1 < code.length := by simp at hb8; omega
    clear hb8
    refine W_skip ?_
    repeat refine ⟨by first | omega | grind, ?_⟩
    refine h6 _ ?_
    clear h6 K6
    refine W_seqK fun K9 h9 => ?_
    refine W_block ?_
    refine W_reg ?_
    simp [go_sem, ty3, ty5, ty71, hlt]
    repeat refine ⟨by first | omega | grind, ?_⟩
    refine h9 _ ?_
    clear h9 K9
    refine W_reg ?_
    simp [go_sem, ty3]
    refine ⟨p.1 + 1, ⟨IntKind.wrap .i64 ((BitVec.ofInt 64 (IntKind.wrap .i64 (IntKind.wrap .i64 (IntKind.wrap .i64 (p.2 * 131) + IntKind.wrap .i64 code[p.1]) + 7)) &&& 1073741823#64).toNat), ?_⟩, ?_, ?_⟩ --, ?_, ?_, ?_⟩
    · exact Sub.of_neat [0, 2, 3, 4] [0] [] 1 (by decide) (by simp [go_sem, wrap_succ (show p.1 < 9223372036854775807 by omega)]; first | done | rfl | (simp only [BitVec.toNat_and, BitVec.toNat_ofInt]; rfl))
    · exact hlt
    · omega
  · clear hb8
    refine W_exit ?_
    simp [go_sem]
    repeat refine ⟨by first | omega | grind, ?_⟩
    refine h3 _ ?_
    clear h6 K6 h3 K3
    refine W_seqK fun K10 h10 => ?_
    refine W_reg ?_
    simp [go_sem, ty3, ty5, ty71, ty174, fw174]
    repeat refine ⟨by first | omega | grind, ?_⟩
    refine h10 _ ?_
    clear h10 K10
    refine W_ret ?_
    exact OutNew_in ⟨_, _, _, _, _, rfl, rfl, rfl, rfl, by simp [go_sem]⟩

set_option maxRecDepth 100000 in
set_option maxHeartbeats 4000000 in
theorem pd_spec_l1Byte (cs : List Int) (hcs : cs.length ≤ 1048576)   : PD Try.prog 149 (enc eU cs) [] (fun (x : Int) => 0 ≤ x ∧ x ≤ 255) (fun (x : Int) => [(false, [.int .i64 x])]) := by
  refine PD_of (n := 58) Try.func149 rfl rfl rfl rfl (by simp) fun a0 ci ch hci => ?_
  refine W_seqK fun K1 h1 => ?_
  refine W_reg ?_
  simp [go_sem, ty3]
  repeat refine ⟨by first | omega | grind, ?_⟩
  refine h1 _ ?_
  clear h1 K1
  refine W_seqK fun K2 h2 => ?_
  refine W_reg ?_
  simp [go_sem, ty3, ty174]
  repeat refine ⟨by first | omega | grind, ?_⟩
  refine h2 _ ?_
  clear h2 K2
  refine W_seqK fun K3 h3 => ?_
  refine W_drawT true mixed (by decide +kernel) ?_
  simp [go_sem, ty3, ty174, ty201]
  repeat refine ⟨by first | omega | grind, ?_⟩
  refine h3 _ ?_
  clear h3 K3
  refine W_seqK fun K4 h4 => ?_
  refine W_seqK fun K5 h5 => ?_
  refine W_drawT true mixed (by decide +kernel) ?_
  simp [go_sem, ty3, ty4, ty5, ty71, ty174]
  repeat refine ⟨by first | omega | grind, ?_⟩
  refine h5 _ ?_
  clear h5 K5
  refine W_cond rfl (fun hb6 => ?_) fun hb6 => ?_
  · have hlt : ci.toNat < cs.length := by simp at hb6; omega
    clear hb6
    obtain ⟨i, rfl⟩ : ∃ i : Nat, ci = i := ⟨ci.toNat, by omega⟩
    simp at hlt
    refine W_seqK fun K7 h7 => ?_
    refine W_drawT true mixed (by decide +kernel) ?_
    simp [go_sem, ty3, ty5, ty71, ty174]
    repeat refine ⟨by first | omega | grind, ?_⟩
    refine h7 _ ?_
    clear h7 K7
    refine W_reg ?_
    simp [go_sem, ty3, ty174]
    repeat refine ⟨by first | omega | grind, ?_⟩
    refine h4 _ ?_
    clear h4 K4
    refine W_seqK fun K8 h8 => ?_
    refine W_reg ?_
    simp [go_sem, ty3]
    repeat refine ⟨by first | omega | grind, ?_⟩
    refine h8 _ ?_
    clear h8 K8
    refine W_ret ?_
    refine OutD_int (Or.inl rfl) rfl (by exact and255 _) ⟨_, _, _, _, _, _, _, rfl, rfl, rfl, rfl, rfl, by simp [go_sem], (by rw [wrap_ok (by omega) (by omega)]; omega)⟩
  · clear hb6
    refine W_skip ?_
    repeat refine ⟨by first | omega | grind, ?_⟩
    refine h4 _ ?_
    clear h4 K4
    refine W_seqK fun K9 h9 => ?_
    refine W_reg ?_
    simp [go_sem, ty3]
    repeat refine ⟨by first | omega | grind, ?_⟩
    refine h9 _ ?_
    clear h9 K9
    refine W_ret ?_
    refine OutD_int (Or.inl rfl) rfl (by exact and255 _) ⟨_, _, _, _, _, _, _, rfl, rfl, rfl, rfl, rfl, by simp [go_sem], hci⟩
end Go.Tw
