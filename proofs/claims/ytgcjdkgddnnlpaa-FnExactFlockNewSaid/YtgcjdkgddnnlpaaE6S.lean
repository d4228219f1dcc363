/- Walks of functions: impl.HomeNew, spec.HomeNew -/
import Derived.Test.YtgcjdkgddnnlpaaE6e
import Derived.Test.YtgcjdkgddnnlpaaBaseF
set_option linter.unusedSimpArgs false
set_option linter.unusedVariables false
set_option linter.unnecessarySimpa false
namespace Go.Tw
open Go.Proofs

set_option maxRecDepth 100000 in
set_option maxHeartbeats 4000000 in
theorem pc_impl_HomeNew (n : Int)  : PC Try.prog 154 [(false, [.int .i64 n])] [(true, eHome (homeNew n))] := by
  refine PC_of (n := 11) Try.func154 rfl rfl rfl rfl (by simp) ?_
  refine W_seqK fun K1 h1 => ?_
  refine W_reg ?_
  simp [go_sem, ty97]
  repeat refine ⟨by first | omega | grind, ?_⟩
  refine h1 _ ?_
  clear h1 K1
  refine W_seqK fun K2 h2 => ?_
  refine W_seqK fun K3 h3 => ?_
  refine W_reg ?_
  simp [go_sem, ty3, ty4]
  refine callG_pc (fun hG => pc_impl_from n 1 4) (by first | (simp; done) | (simp [inR_iff]; done) | (simp [inR_iff]; grind) | grind) (fun hG => by simp [go_sem]) rfl rfl (by first | exact Or.inl rfl | exact Or.inr rfl) ?_
  simp [go_sem, ty4]
  repeat refine ⟨by first | omega | grind, ?_⟩
  refine h3 _ ?_
  clear h3 K3
  refine W_cond rfl (fun hb4 => ?_) fun hb4 => ?_
  · have q : homeNew n = zHome := if_neg (by simp [inR] at hb4; omega)
    clear hb4
    refine W_seqK fun K5 h5 => ?_
    refine W_reg ?_
    simp [go_sem, ty97, fw97]
    repeat refine ⟨by first | omega | grind, ?_⟩
    refine h5 _ ?_
    clear h5 K5
    refine W_ret ?_
    simp [go_sem, ty97, q, zHome, enc_nil, rep_eB]
  · have qn : 1 ≤ n ∧ n ≤ 4 := by simp [inR] at hb4; omega
    have q : homeNew n = ⟨List.replicate 4 0, -1, List.replicate n.toNat false, false, ⟨0, false⟩, 0, []⟩ := if_pos qn
    have hq1 : (0 : Int) ≤ n := by omega
    have hq2 : n ≤ 9223372036854775807 := by omega
    have hq3 : n * 1 ≤ 281474976710656 := by omega
    have hq4 : n ≤ 281474976710656 := by omega
    clear hb4
    refine W_skip ?_
    repeat refine ⟨by first | omega | grind, ?_⟩
    refine h2 _ ?_
    clear h2 K2
    refine W_seqK fun K6 h6 => ?_
    refine W_drawS true (.op 1 (.fork 0 (.op 2 (.op 3 (.op 4 .nil))) 2 (.op 0 (.op 3 (.op 4 .nil))))) mixed (by decide +kernel) rfl ?_
    simp (config := {maxSteps := 10000000}) [go_sem, ty3, hq1, hq2, hq3, hq4]
    refine ⟨?_, ?_⟩
    · simp (config := {maxSteps := 10000000}) [go_sem, ty3, ty4, ty22, ty92, ty97, fw97, hq1, hq2, hq3, hq4]
      repeat refine ⟨by first | omega | grind, ?_⟩
      refine h6 _ ?_
      clear h6 K6
      refine W_ret ?_
      simp [go_sem, ty97, q, zHome, enc_nil, rep_eB]
    · simp (config := {maxSteps := 10000000}) [go_sem, ty3, ty4, ty22, ty92, ty97, fw97, hq1, hq2, hq3, hq4]
      repeat refine ⟨by first | omega | grind, ?_⟩
      refine h6 _ ?_
      clear h6 K6
      refine W_ret ?_
      simp [go_sem, ty97, q, zHome, enc_nil, rep_eB]

set_option maxRecDepth 100000 in
set_option maxHeartbeats 4000000 in
theorem pc_spec_HomeNew (n : Int)  : PC Try.prog 152 [(false, [.int .i64 n])] [(true, eHome (homeNew n))] := by
  refine PC_of (n := 11) Try.func152 rfl rfl rfl rfl (by simp) ?_
  refine W_seqK fun K1 h1 => ?_
  refine W_reg ?_
  simp [go_sem, ty97]
  repeat refine ⟨by first | omega | grind, ?_⟩
  refine h1 _ ?_
  clear h1 K1
  refine W_seqK fun K2 h2 => ?_
  refine W_seqK fun K3 h3 => ?_
  refine W_reg ?_
  simp [go_sem, ty3, ty4]
  refine callG_pc (fun hG => pc_spec_l1In n 1 4) (by first | (simp; done) | (simp [inR_iff]; done) | (simp [inR_iff]; grind) | grind) (fun hG => by simp [go_sem]) rfl rfl (by first | exact Or.inl rfl | exact Or.inr rfl) ?_
  simp [go_sem, ty4]
  repeat refine ⟨by first | omega | grind, ?_⟩
  refine h3 _ ?_
  clear h3 K3
  refine W_cond rfl (fun hb4 => ?_) fun hb4 => ?_
  · have q : homeNew n = zHome := if_neg (by simp [inR] at hb4; omega)
    clear hb4
    refine W_seqK fun K5 h5 => ?_
    refine W_reg ?_
    simp [go_sem, ty97, fw97]
    repeat refine ⟨by first | omega | grind, ?_⟩
    refine h5 _ ?_
    clear h5 K5
    refine W_ret ?_
    simp [go_sem, ty97, q, zHome, enc_nil, rep_eB]
  · have qn : 1 ≤ n ∧ n ≤ 4 := by simp [inR] at hb4; omega
    have q : homeNew n = ⟨List.replicate 4 0, -1, List.replicate n.toNat false, false, ⟨0, false⟩, 0, []⟩ := if_pos qn
    have hq1 : (0 : Int) ≤ n := by omega
    have hq2 : n ≤ 9223372036854775807 := by omega
    have hq3 : n * 1 ≤ 281474976710656 := by omega
    have hq4 : n ≤ 281474976710656 := by omega
    clear hb4
    refine W_skip ?_
    repeat refine ⟨by first | omega | grind, ?_⟩
    refine h2 _ ?_
    clear h2 K2
    refine W_seqK fun K6 h6 => ?_
    refine W_drawS true (.op 1 (.fork 0 (.op 2 (.op 3 (.op 4 .nil))) 2 (.op 0 (.op 3 (.op 4 .nil))))) mixed (by decide +kernel) rfl ?_
    simp (config := {maxSteps := 10000000}) [go_sem, ty3, hq1, hq2, hq3, hq4]
    refine ⟨?_, ?_⟩
    · simp (config := {maxSteps := 10000000}) [go_sem, ty3, ty4, ty22, ty92, ty97, fw97, hq1, hq2, hq3, hq4]
      repeat refine ⟨by first | omega | grind, ?_⟩
      refine h6 _ ?_
      clear h6 K6
      refine W_ret ?_
      simp [go_sem, ty97, q, zHome, enc_nil, rep_eB]
    · simp (config := {maxSteps := 10000000}) [go_sem, ty3, ty4, ty22, ty92, ty97, fw97, hq1, hq2, hq3, hq4]
      repeat refine ⟨by first | omega | grind, ?_⟩
      refine h6 _ ?_
      clear h6 K6
      refine W_ret ?_
      simp [go_sem, ty97, q, zHome, enc_nil, rep_eB]
end Go.Tw
