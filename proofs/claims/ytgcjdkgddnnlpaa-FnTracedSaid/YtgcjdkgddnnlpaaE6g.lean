/- Walks of functions: spec.InsOk -/
import Derived.Test.YtgcjdkgddnnlpaaE6e
set_option linter.unusedSimpArgs false
set_option linter.unusedVariables false
set_option linter.unnecessarySimpa false
namespace Go.Tw
open Go.Proofs

set_option maxRecDepth 100000 in
set_option maxHeartbeats 4000000 in
theorem pc_spec_InsOk (x : GIns)  : PC Try.prog 95 [(true, eIns x)] [(false, [.bool (insOk x)])] := by
  refine PC_of (n := 42) Try.func95 rfl rfl rfl rfl (by simp) ?_
  refine W_seqK fun K1 h1 => ?_
  refine W_reg ?_
  simp [go_sem, ty4, ty68]
  repeat refine ⟨by first | omega | grind, ?_⟩
  refine h1 _ ?_
  clear h1 K1
  refine W_seqK fun K2 h2 => ?_
  refine W_reg ?_
  simp [go_sem, ty3, ty68]
  refine callG_pc (fun hG => pc_spec_l8Has x.op) (by first | (simp; done) | (simp [inR_iff]; done) | (simp [inR_iff]; grind) | grind) (fun hG => by simp [go_sem]) rfl rfl (by first | exact Or.inl rfl | exact Or.inr rfl) ?_
  simp [go_sem, ty3]
  repeat refine ⟨by first | omega | grind, ?_⟩
  refine h2 _ ?_
  clear h2 K2
  refine W_seqK fun K3 h3 => ?_
  refine W_reg ?_
  simp (config := {maxSteps := 10000000}) [go_sem, ty3, ty4, ty68]
  refine callG_pc (fun hG => pc_spec_l1In x.op 1 10) (by first | (simp; done) | (simp [inR_iff]; done) | (simp [inR_iff]; grind) | grind) (fun hG => by simp [go_sem]) rfl rfl (by first | exact Or.inl rfl | exact Or.inr rfl) ?_
  simp (config := {maxSteps := 10000000}) [go_sem, ty3, ty4, ty68]
  refine callG_pc (fun hG => pc_spec_l8Field x.r 3 (bitN (hasBits x.op) 1)) (by first | (simp; done) | (simp [inR_iff]; done) | (simp [inR_iff]; grind) | grind) (fun hG => by simp [go_sem]; exact bit1 _) rfl rfl (by first | exact Or.inl rfl | exact Or.inr rfl) ?_
  simp (config := {maxSteps := 10000000}) [go_sem, ty3, ty4, ty68]
  refine callG_pc (fun hG => pc_spec_l8Field x.a 3 (bitN (hasBits x.op) 2)) (by first | (simp; done) | (simp [inR_iff]; done) | (simp [inR_iff]; grind) | grind) (fun hG => by simp [go_sem]; exact bit2 _) rfl rfl (by first | exact Or.inl rfl | exact Or.inr rfl) ?_
  simp (config := {maxSteps := 10000000}) [go_sem, ty3, ty4, ty68]
  refine callG_pc (fun hG => pc_spec_l8Field x.b 3 (bitN (hasBits x.op) 4)) (by first | (simp; done) | (simp [inR_iff]; done) | (simp [inR_iff]; grind) | grind) (fun hG => by simp [go_sem]; exact bit4 _) rfl rfl (by first | exact Or.inl rfl | exact Or.inr rfl) ?_
  simp (config := {maxSteps := 10000000}) [go_sem, ty3, ty4, ty68]
  refine callG_pc (fun hG => pc_spec_l8Field x.n 63 (bitN (hasBits x.op) 8)) (by first | (simp; done) | (simp [inR_iff]; done) | (simp [inR_iff]; grind) | grind) (fun hG => by simp [go_sem]; exact bit8 _) rfl rfl (by first | exact Or.inl rfl | exact Or.inr rfl) ?_
  simp (config := {maxSteps := 10000000}) [go_sem, ty4]
  repeat refine ⟨by first | omega | grind, ?_⟩
  refine h3 _ ?_
  clear h3 K3
  refine W_ret ?_
  rw [← insOk_bits]
  simp [go_sem]
end Go.Tw
