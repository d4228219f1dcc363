/- Walks of functions: impl.WorldNew -/
import Derived.Test.YtgcjdkgddnnlpaaE6U
set_option linter.unusedSimpArgs false
set_option linter.unusedVariables false
set_option linter.unnecessarySimpa false
namespace Go.Tw
open Go.Proofs

set_option maxRecDepth 100000 in
set_option maxHeartbeats 4000000 in
theorem pc_impl_WorldNew (n : Int)  : PC Try.prog 61 [(false, [.int .i64 n])] [(true, eWorld (worldNew n)), (false, [.bool (inR n 1 4)])] := by
  refine PC_of (n := 32) Try.func61 rfl rfl rfl rfl (by simp) ?_
  refine W_seqK fun K1 h1 => ?_
  refine W_reg ?_
  simp [go_sem, ty4, ty26]
  repeat refine ⟨by first | omega | grind, ?_⟩
  refine h1 _ ?_
  clear h1 K1
  refine W_seqK fun K2 h2 => ?_
  refine W_seqK fun K3 h3 => ?_
  refine W_reg ?_
  simp [go_sem, ty3, ty4]
  refine callG_pc (fun hG => pc_impl_from n 1 4) (by first | (simp; done) | (simp [inR_iff]; done) | (simp [inR_iff]; grind) | grind) (fun hG => by simp [go_sem]) rfl rfl (by first | exact Or.inl rfl | exact Or.inr rfl) ?_
  simp [go_sem, ty4]
  repeat refine ⟨by first | omega | grind, ?_⟩
  refine h3 _ ?_
  clear h3 K3
  refine W_cond rfl (fun hb4 => ?_) fun hb4 => ?_
  · have qi : inR n 1 4 = false := by simpa using hb4
    have q : worldNew n = zWorld := if_neg (by unfold inR at qi; simp at qi; omega)
    clear hb4
    refine W_seqK fun K5 h5 => ?_
    refine W_reg ?_
    simp [go_sem, ty4, ty26, fw26]
    repeat refine ⟨by first | omega | grind, ?_⟩
    refine h5 _ ?_
    clear h5 K5
    refine W_ret ?_
    simp [go_sem, ty26, q, qi, zWorld, enc_nil]
  · have qn : 1 ≤ n ∧ n ≤ 4 := by simp [inR] at hb4; omega
    have q : worldNew n = ⟨n, nodesN n n.toNat, []⟩ := if_pos qn
    have qi : inR n 1 4 = true := by unfold inR; simp; omega
    clear hb4
    refine W_skip ?_
    repeat refine ⟨by first | omega | grind, ?_⟩
    refine h2 _ ?_
    clear h2 K2
    refine W_seqK fun K6 h6 => ?_
    refine W_reg ?_
    simp [go_sem, ty3, ty26, fw26]
    repeat refine ⟨by first | omega | grind, ?_⟩
    refine h6 _ ?_
    clear h6 K6
    refine W_seqK fun K7 h7 => ?_
    refine W_seqK fun K8 h8 => ?_
    refine W_reg ?_
    simp [go_sem, ty3]
    repeat refine ⟨by first | omega | grind, ?_⟩
    refine h8 _ ?_
    clear h8 K8
    refine W_block ?_
    refine W_loopI (α := Nat) (fun i => ({ env := [(0, true, .l (.t (.int .i64 (n)))), (2, true, .l (.ptr 1 0)), (4, true, .l (.ptr 3 0)), (14, true, .l (.t (.int .i64 (n)))), (15, true, .l (.t (.int .i64 (i))))], box := [(1, [.t (.int .i64 0), .nil, .nil]), (3, [.t (.int .i64 n), .ref 44 [] 5 0 (nodesN n i).length, .nil])], row := [(44, ⟨.own, 5, enc eNode (nodesN n i)⟩)], nxt := 64, sav := [] } : St)) (fun i => (i : Int) ≤ n) (fun i => n.toNat - i) 0 ?_ ?_ ?_
    · exact (Sub.nilBox (k := 3) (j := 1) (nm := 44) (z := 5) (by rfl) (by rfl) (by rfl)).trans (Sub.of_neat [0, 2, 4, 14, 15] [44] [1, 3] 64 (by decide) (by simp [go_sem, nodesN, enc_nil]))
    · show ((0 : Nat) : Int) ≤ n; omega
    rintro i hinv
    refine W_seqK fun K10 h10 => ?_
    refine W_reg ?_
    simp [go_sem, ty3, ty4]
    repeat refine ⟨by first | omega | grind, ?_⟩
    refine h10 _ ?_
    clear h10 K10
    refine W_seqK fun K11 h11 => ?_
    refine W_cond rfl (fun hb12 => ?_) fun hb12 => ?_
    · have hlt : (i : Int) < n := by simpa using hb12
      have hns : nodesN n i ++ [nodeNew i n] = nodesN n (i + 1) := (nodesN_succ n i).symm
      clear hb12
      refine W_skip ?_
      repeat refine ⟨by first | omega | grind, ?_⟩
      refine h11 _ ?_
      clear h11 K11
      refine W_seqK fun K13 h13 => ?_
      refine W_block ?_
      refine W_seqK fun K14 h14 => ?_
      refine W_reg ?_
      simp [go_sem, ty3]
      repeat refine ⟨by first | omega | grind, ?_⟩
      refine h14 _ ?_
      clear h14 K14
      refine W_seqK fun K15 h15 => ?_
      refine W_reg ?_
      simp [go_sem, ty3]
      refine callG_pc (fun hG => pc_impl_NodeNew i n) (by first | (simp; done) | (simp [inR_iff]; done) | (simp [inR_iff]; grind) | grind) (fun hG => by simp [go_sem]) rfl rfl (by first | exact Or.inl rfl | exact Or.inr rfl) ?_
      simp [go_sem, ty4, ty103]
      repeat refine ⟨by first | omega | grind, ?_⟩
      refine h15 _ ?_
      clear h15 K15
      refine W_reg ?_
      simp [go_sem, ty23, ty26, ty103]
      refine ⟨by rw [nodesN_len]; omega, ?_⟩
      repeat refine ⟨by first | omega | grind, ?_⟩
      refine h13 _ ?_
      clear h13 K13
      refine W_reg ?_
      simp [go_sem, ty3]
      refine ⟨i + 1, ?_, ?_, ?_⟩
      · exact (Sub.swp_row 73 44 rfl).trans (Sub.of_neat [0, 2, 4, 14, 15] [44] [1, 3] 64 (by decide) (by simp [go_sem, wrap_succ (show i < 9223372036854775807 by omega), hns, nodesN_len]))
      · show ((i + 1 : Nat) : Int) ≤ n; omega
      · show n.toNat - (i + 1) < n.toNat - i; omega
    · have hil : i = n.toNat := by simp at hb12; omega
      clear hb12
      refine W_exit ?_
      simp [go_sem]
      repeat refine ⟨by first | omega | grind, ?_⟩
      refine h7 _ ?_
      clear h11 K11 h7 K7
      refine W_seqK fun K16 h16 => ?_
      refine W_reg ?_
      simp [go_sem, ty4, ty26]
      repeat refine ⟨by first | omega | grind, ?_⟩
      refine h16 _ ?_
      clear h16 K16
      refine W_ret ?_
      simp [go_sem, ty26, q, qi, hil, enc_nil]
end Go.Tw
