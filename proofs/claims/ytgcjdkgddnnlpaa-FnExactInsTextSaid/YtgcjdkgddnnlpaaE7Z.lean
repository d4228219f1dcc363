/- Walks of functions: laws.toIns, laws.FnExactInsText -/
import Derived.Test.YtgcjdkgddnnlpaaE7W
import Derived.Test.YtgcjdkgddnnlpaaE7X
set_option linter.unusedSimpArgs false
set_option linter.unusedVariables false
set_option linter.unnecessarySimpa false
namespace Go.Tw
open Go.Proofs

set_option maxRecDepth 100000 in
set_option maxHeartbeats 4000000 in
theorem pc_laws_toIns (e : GIns)  : PC Try.prog 38 [(true, eIns e)] [(true, eIns e)] := by
  refine PC_of (n := 20) Try.func38 rfl rfl rfl rfl (by simp) ?_
  refine W_seqK fun K1 h1 => ?_
  refine W_reg ?_
  simp [go_sem, ty66, ty68]
  repeat refine ⟨by first | omega | grind, ?_⟩
  refine h1 _ ?_
  clear h1 K1
  refine W_seqK fun K2 h2 => ?_
  refine W_reg ?_
  simp [go_sem, ty68]
  repeat refine ⟨by first | omega | grind, ?_⟩
  refine h2 _ ?_
  clear h2 K2
  refine W_seqK fun K3 h3 => ?_
  refine W_reg ?_
  simp [go_sem, ty3, ty66, ty68]
  repeat refine ⟨by first | omega | grind, ?_⟩
  refine h3 _ ?_
  clear h3 K3
  refine W_seqK fun K4 h4 => ?_
  refine W_reg ?_
  simp [go_sem, ty3, ty66, ty68]
  repeat refine ⟨by first | omega | grind, ?_⟩
  refine h4 _ ?_
  clear h4 K4
  refine W_seqK fun K5 h5 => ?_
  refine W_reg ?_
  simp [go_sem, ty3, ty66, ty68]
  repeat refine ⟨by first | omega | grind, ?_⟩
  refine h5 _ ?_
  clear h5 K5
  refine W_seqK fun K6 h6 => ?_
  refine W_reg ?_
  simp [go_sem, ty3, ty66, ty68]
  repeat refine ⟨by first | omega | grind, ?_⟩
  refine h6 _ ?_
  clear h6 K6
  refine W_seqK fun K7 h7 => ?_
  refine W_reg ?_
  simp [go_sem, ty3, ty66, ty68]
  repeat refine ⟨by first | omega | grind, ?_⟩
  refine h7 _ ?_
  clear h7 K7
  refine W_seqK fun K8 h8 => ?_
  refine W_reg ?_
  simp [go_sem, ty68]
  repeat refine ⟨by first | omega | grind, ?_⟩
  refine h8 _ ?_
  clear h8 K8
  refine W_ret ?_
  simp [go_sem, ty68]

set_option maxRecDepth 100000 in
set_option maxHeartbeats 4000000 in
theorem pc_laws_FnExactInsText (x : GIns)  : PC Try.prog 8 [(true, eIns x)] [(false, [.bool true])] := by
  refine PC_of (n := 14) Try.func8 rfl rfl rfl rfl (by simp) ?_
  refine W_seqK fun K1 h1 => ?_
  refine W_reg ?_
  simp [go_sem, ty4, ty66, markE_add]
  repeat refine ⟨by first | omega | grind, ?_⟩
  refine h1 _ ?_
  clear h1 K1
  refine W_seqK fun K2 h2 => ?_
  refine W_reg ?_
  simp [go_sem, ty66, ty68, markE_add]
  refine callG_pc (fun hG => pc_laws_toIns x) (by first | (simp; done) | (simp [inR_iff]; done) | (simp [inR_iff]; grind) | grind) (fun hG => by simp [go_sem, markE_add]) rfl rfl (by first | exact Or.inl rfl | exact Or.inr rfl) ?_
  simp [go_sem, ty9, ty68, markE_add]
  refine callG_pc (fun hG => pc_spec_InsText x) (by first | (simp; done) | (simp [inR_iff]; done) | (simp [inR_iff]; grind) | grind) (fun hG => by simp [go_sem, markE_add]) rfl rfl (by first | exact Or.inl rfl | exact Or.inr rfl) ?_
  simp [go_sem, ty9, markE_add]
  repeat refine ⟨by first | omega | grind, ?_⟩
  refine h2 _ ?_
  clear h2 K2
  refine W_seqK fun K3 h3 => ?_
  refine W_reg ?_
  simp [go_sem, ty66, ty68, markE_add]
  refine callG_pc (fun hG => pc_laws_toIns x) (by first | (simp; done) | (simp [inR_iff]; done) | (simp [inR_iff]; grind) | grind) (fun hG => by simp [go_sem, markE_add]) rfl rfl (by first | exact Or.inl rfl | exact Or.inr rfl) ?_
  simp [go_sem, ty9, ty68, markE_add]
  refine callG_pc (fun hG => pc_impl_InsText x) (by first | (simp; done) | (simp [inR_iff]; done) | (simp [inR_iff]; grind) | grind) (fun hG => by simp [go_sem, markE_add]) rfl rfl (by first | exact Or.inl rfl | exact Or.inr rfl) ?_
  simp [go_sem, ty9, markE_add]
  repeat refine ⟨by first | omega | grind, ?_⟩
  refine h3 _ ?_
  clear h3 K3
  refine W_seqK fun K4 h4 => ?_
  refine W_seqK fun K5 h5 => ?_
  refine W_reg ?_
  simp [go_sem, ty4, ty9, markE_add]
  repeat refine ⟨by first | omega | grind, ?_⟩
  refine h5 _ ?_
  clear h5 K5
  refine W_cond rfl (fun hb6 => by first | (simp at hb6; done) | (simp at hb6; omega) | (simp at hb6; exact absurd hb6 (Int.not_lt.2 (markE_nn _ (by omega))))) fun hb6 => ?_
  clear hb6
  refine W_skip ?_
  repeat refine ⟨by first | omega | grind, ?_⟩
  refine h4 _ ?_
  clear h4 K4
  refine W_seqK fun K7 h7 => ?_
  refine W_reg ?_
  simp [go_sem, ty4, markE_add]
  repeat refine ⟨by first | omega | grind, ?_⟩
  refine h7 _ ?_
  clear h7 K7
  refine W_ret ?_
  simp [go_sem]
end Go.Tw
