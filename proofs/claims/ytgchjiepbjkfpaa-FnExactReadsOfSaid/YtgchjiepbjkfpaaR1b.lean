/- Walks of functions: laws.FnExactWritesOf, laws.FnExactReadsOf -/
import Derived.Test.YtgchjiepbjkfpaaR1a
set_option linter.unusedSimpArgs false
set_option linter.unusedVariables false
namespace Go.Tw
open Go.Proofs

theorem pc_laws_FnExactWritesOf (e : GEvent)  : PC Try.prog 5 [(true, eEvent e)] [(false, [.bool true])] := by
  have hl : (writesOf e).length ≤ 1 := by unfold writesOf; split <;> simp
  have hm0 := markE_pos 1 ((writesOf e).length) (by omega) (by omega)
  refine PC_of (n := 44) Try.func5 rfl rfl rfl rfl (by simp) ?_
  refine W_seqK fun K1 h1 => ?_
  refine W_reg ?_
  simp [go_sem, ty4, ty29, hm0]
  first | refine h1 _ ?_ | refine ⟨by omega, h1 _ ?_⟩ | refine ⟨by omega, by omega, h1 _ ?_⟩
  clear h1 K1
  refine W_seqK fun K2 h2 => ?_
  refine W_reg ?_
  simp [go_sem, ty29, ty31, hm0]
  refine callG_pc (fun hG => pc_laws_toEvent e) (by simp) (fun hG => by simp [go_sem, hm0]) rfl rfl (by first | exact Or.inl rfl | exact Or.inr rfl) ?_
  simp [go_sem, ty3, ty22, ty31, hm0]
  refine callG_pc (fun hG => pc_spec_WritesOf e) (by simp) (fun hG => by simp [go_sem, hm0]) rfl rfl (by first | exact Or.inl rfl | exact Or.inr rfl) ?_
  simp [go_sem, ty3, ty22, hm0]
  first | refine h2 _ ?_ | refine ⟨by omega, h2 _ ?_⟩ | refine ⟨by omega, by omega, h2 _ ?_⟩
  clear h2 K2
  refine W_seqK fun K3 h3 => ?_
  refine W_reg ?_
  simp [go_sem, ty29, ty31, hm0]
  refine callG_pc (fun hG => pc_laws_toEvent e) (by simp) (fun hG => by simp [go_sem, hm0]) rfl rfl (by first | exact Or.inl rfl | exact Or.inr rfl) ?_
  simp [go_sem, ty3, ty22, ty31, hm0]
  refine callG_pc (fun hG => pc_impl_WritesOf e) (by simp) (fun hG => by simp [go_sem, hm0]) rfl rfl (by first | exact Or.inl rfl | exact Or.inr rfl) ?_
  simp [go_sem, ty3, ty22, hm0]
  first | refine h3 _ ?_ | refine ⟨by omega, h3 _ ?_⟩ | refine ⟨by omega, by omega, h3 _ ?_⟩
  clear h3 K3
  refine W_seqK fun K4 h4 => ?_
  refine W_seqK fun K5 h5 => ?_
  refine W_reg ?_
  simp [go_sem, ty3, ty4, ty22, hm0]
  refine callG_pc (fun hG => pc_laws_eqIntS (writesOf e) (writesOf e) (by omega)) (by simp) (fun hG => by simp [go_sem, hm0]) rfl rfl (by first | exact Or.inl rfl | exact Or.inr rfl) ?_
  simp [go_sem, ty4, hm0]
  first | refine h5 _ ?_ | refine ⟨by omega, h5 _ ?_⟩ | refine ⟨by omega, by omega, h5 _ ?_⟩
  clear h5 K5
  refine W_cond rfl (fun hb6 => by first | (simp at hb6; done) | (simp at hb6; omega)) fun hb6 => ?_
  clear hb6
  refine W_skip ?_
  first | refine h4 _ ?_ | refine ⟨by omega, h4 _ ?_⟩ | refine ⟨by omega, by omega, h4 _ ?_⟩
  clear h4 K4
  refine W_seqK fun K7 h7 => ?_
  refine W_reg ?_
  simp [go_sem, ty3, hm0]
  first | refine h7 _ ?_ | refine ⟨by omega, h7 _ ?_⟩ | refine ⟨by omega, by omega, h7 _ ?_⟩
  clear h7 K7
  refine W_seqK fun K8 h8 => ?_
  refine W_reg ?_
  simp [go_sem, ty3, ty22, hm0]
  refine callG_true (by simp) (CallW_mut (mc_laws_markIntS (writesOf e) 1 (by omega)) rfl rfl rfl (by simp [go_sem, hm0]) rfl ?_)
  simp [go_sem, ty3, hm0]
  first | refine h8 _ ?_ | refine ⟨by omega, h8 _ ?_⟩ | refine ⟨by omega, by omega, h8 _ ?_⟩
  clear h8 K8
  refine W_seqK fun K9 h9 => ?_
  refine W_reg ?_
  simp [go_sem, ty3, hm0]
  first | refine h9 _ ?_ | refine ⟨by omega, h9 _ ?_⟩ | refine ⟨by omega, by omega, h9 _ ?_⟩
  clear h9 K9
  refine W_seqK fun K10 h10 => ?_
  refine W_reg ?_
  simp [go_sem, ty3, ty22, hm0]
  refine callG_pc (fun hG => pc_laws_heldIntS ((writesOf e).length) 1 (by omega)) (by simp) (fun hG => by simp [go_sem, hm0]) rfl rfl (by first | exact Or.inl rfl | exact Or.inr rfl) ?_
  simp [go_sem, ty3, hm0]
  first | refine h10 _ ?_ | refine ⟨by omega, h10 _ ?_⟩ | refine ⟨by omega, by omega, h10 _ ?_⟩
  clear h10 K10
  refine W_seqK fun K11 h11 => ?_
  refine W_seqK fun K12 h12 => ?_
  refine W_reg ?_
  simp [go_sem, ty3, ty4, hm0]
  first | refine h12 _ ?_ | refine ⟨by omega, h12 _ ?_⟩ | refine ⟨by omega, by omega, h12 _ ?_⟩
  clear h12 K12
  refine W_cond rfl (fun hb13 => by first | (simp at hb13; done) | (simp at hb13; omega)) fun hb13 => ?_
  clear hb13
  refine W_skip ?_
  first | refine h11 _ ?_ | refine ⟨by omega, h11 _ ?_⟩ | refine ⟨by omega, by omega, h11 _ ?_⟩
  clear h11 K11
  refine W_seqK fun K14 h14 => ?_
  refine W_seqK fun K15 h15 => ?_
  refine W_reg ?_
  simp [go_sem, ty3, ty4, hm0]
  first | refine h15 _ ?_ | refine ⟨by omega, h15 _ ?_⟩ | refine ⟨by omega, by omega, h15 _ ?_⟩
  clear h15 K15
  refine W_cond rfl (fun hb16 => by first | (simp at hb16; done) | (simp at hb16; omega)) fun hb16 => ?_
  clear hb16
  refine W_skip ?_
  first | refine h14 _ ?_ | refine ⟨by omega, h14 _ ?_⟩ | refine ⟨by omega, by omega, h14 _ ?_⟩
  clear h14 K14
  refine W_seqK fun K17 h17 => ?_
  refine W_reg ?_
  simp [go_sem, ty29, ty31, hm0]
  refine callG_pc (fun hG => pc_laws_toEvent e) (by simp) (fun hG => by simp [go_sem, hm0]) rfl rfl (by first | exact Or.inl rfl | exact Or.inr rfl) ?_
  simp [go_sem, ty3, ty22, ty31, hm0]
  refine callG_pc (fun hG => pc_impl_WritesOf e) (by simp) (fun hG => by simp [go_sem, hm0]) rfl rfl (by first | exact Or.inl rfl | exact Or.inr rfl) ?_
  simp [go_sem, ty3, ty22, hm0]
  first | refine h17 _ ?_ | refine ⟨by omega, h17 _ ?_⟩ | refine ⟨by omega, by omega, h17 _ ?_⟩
  clear h17 K17
  refine W_seqK fun K18 h18 => ?_
  refine W_seqK fun K19 h19 => ?_
  refine W_reg ?_
  simp [go_sem, ty3, ty4, ty22, hm0]
  refine callG_pc (fun hG => pc_laws_eqIntS (writesOf e) (writesOf e) (by omega)) (by simp) (fun hG => by simp [go_sem, hm0]) rfl rfl (by first | exact Or.inl rfl | exact Or.inr rfl) ?_
  simp [go_sem, ty4, hm0]
  first | refine h19 _ ?_ | refine ⟨by omega, h19 _ ?_⟩ | refine ⟨by omega, by omega, h19 _ ?_⟩
  clear h19 K19
  refine W_cond rfl (fun hb20 => by first | (simp at hb20; done) | (simp at hb20; omega)) fun hb20 => ?_
  clear hb20
  refine W_skip ?_
  first | refine h18 _ ?_ | refine ⟨by omega, h18 _ ?_⟩ | refine ⟨by omega, by omega, h18 _ ?_⟩
  clear h18 K18
  refine W_seqK fun K21 h21 => ?_
  refine W_reg ?_
  simp [go_sem, ty3, hm0]
  first | refine h21 _ ?_ | refine ⟨by omega, h21 _ ?_⟩ | refine ⟨by omega, by omega, h21 _ ?_⟩
  clear h21 K21
  refine W_seqK fun K22 h22 => ?_
  refine W_reg ?_
  simp [go_sem, ty3, ty22, hm0]
  refine callG_pc (fun hG => pc_laws_heldIntS ((writesOf e).length) 1 (by omega)) (by simp) (fun hG => by simp [go_sem, hm0]) rfl rfl (by first | exact Or.inl rfl | exact Or.inr rfl) ?_
  simp [go_sem, ty3, hm0]
  first | refine h22 _ ?_ | refine ⟨by omega, h22 _ ?_⟩ | refine ⟨by omega, by omega, h22 _ ?_⟩
  clear h22 K22
  refine W_seqK fun K23 h23 => ?_
  refine W_seqK fun K24 h24 => ?_
  refine W_reg ?_
  simp [go_sem, ty3, ty4, hm0]
  first | refine h24 _ ?_ | refine ⟨by omega, h24 _ ?_⟩ | refine ⟨by omega, by omega, h24 _ ?_⟩
  clear h24 K24
  refine W_cond rfl (fun hb25 => by first | (simp at hb25; done) | (simp at hb25; omega)) fun hb25 => ?_
  clear hb25
  refine W_skip ?_
  first | refine h23 _ ?_ | refine ⟨by omega, h23 _ ?_⟩ | refine ⟨by omega, by omega, h23 _ ?_⟩
  clear h23 K23
  refine W_seqK fun K26 h26 => ?_
  refine W_seqK fun K27 h27 => ?_
  refine W_reg ?_
  simp [go_sem, ty3, ty4, hm0]
  first | refine h27 _ ?_ | refine ⟨by omega, h27 _ ?_⟩ | refine ⟨by omega, by omega, h27 _ ?_⟩
  clear h27 K27
  refine W_cond rfl (fun hb28 => by first | (simp at hb28; done) | (simp at hb28; omega)) fun hb28 => ?_
  clear hb28
  refine W_skip ?_
  first | refine h26 _ ?_ | refine ⟨by omega, h26 _ ?_⟩ | refine ⟨by omega, by omega, h26 _ ?_⟩
  clear h26 K26
  refine W_seqK fun K29 h29 => ?_
  refine W_reg ?_
  simp [go_sem, ty4, hm0]
  first | refine h29 _ ?_ | refine ⟨by omega, h29 _ ?_⟩ | refine ⟨by omega, by omega, h29 _ ?_⟩
  clear h29 K29
  refine W_ret ?_
  simp [go_sem]

theorem pc_laws_FnExactReadsOf (e : GEvent)  : PC Try.prog 6 [(true, eEvent e)] [(false, [.bool true])] := by
  have hl : (readsOf e).length ≤ 2 := by unfold readsOf; split <;> simp
  have hm0 := markE_pos 1 ((readsOf e).length) (by omega) (by omega)
  refine PC_of (n := 44) Try.func6 rfl rfl rfl rfl (by simp) ?_
  refine W_seqK fun K1 h1 => ?_
  refine W_reg ?_
  simp [go_sem, ty4, ty29, hm0]
  first | refine h1 _ ?_ | refine ⟨by omega, h1 _ ?_⟩ | refine ⟨by omega, by omega, h1 _ ?_⟩
  clear h1 K1
  refine W_seqK fun K2 h2 => ?_
  refine W_reg ?_
  simp [go_sem, ty29, ty31, hm0]
  refine callG_pc (fun hG => pc_laws_toEvent e) (by simp) (fun hG => by simp [go_sem, hm0]) rfl rfl (by first | exact Or.inl rfl | exact Or.inr rfl) ?_
  simp [go_sem, ty3, ty22, ty31, hm0]
  refine callG_pc (fun hG => pc_spec_ReadsOf e) (by simp) (fun hG => by simp [go_sem, hm0]) rfl rfl (by first | exact Or.inl rfl | exact Or.inr rfl) ?_
  simp [go_sem, ty3, ty22, hm0]
  first | refine h2 _ ?_ | refine ⟨by omega, h2 _ ?_⟩ | refine ⟨by omega, by omega, h2 _ ?_⟩
  clear h2 K2
  refine W_seqK fun K3 h3 => ?_
  refine W_reg ?_
  simp [go_sem, ty29, ty31, hm0]
  refine callG_pc (fun hG => pc_laws_toEvent e) (by simp) (fun hG => by simp [go_sem, hm0]) rfl rfl (by first | exact Or.inl rfl | exact Or.inr rfl) ?_
  simp [go_sem, ty3, ty22, ty31, hm0]
  refine callG_pc (fun hG => pc_impl_ReadsOf e) (by simp) (fun hG => by simp [go_sem, hm0]) rfl rfl (by first | exact Or.inl rfl | exact Or.inr rfl) ?_
  simp [go_sem, ty3, ty22, hm0]
  first | refine h3 _ ?_ | refine ⟨by omega, h3 _ ?_⟩ | refine ⟨by omega, by omega, h3 _ ?_⟩
  clear h3 K3
  refine W_seqK fun K4 h4 => ?_
  refine W_seqK fun K5 h5 => ?_
  refine W_reg ?_
  simp [go_sem, ty3, ty4, ty22, hm0]
  refine callG_pc (fun hG => pc_laws_eqIntS (readsOf e) (readsOf e) (by omega)) (by simp) (fun hG => by simp [go_sem, hm0]) rfl rfl (by first | exact Or.inl rfl | exact Or.inr rfl) ?_
  simp [go_sem, ty4, hm0]
  first | refine h5 _ ?_ | refine ⟨by omega, h5 _ ?_⟩ | refine ⟨by omega, by omega, h5 _ ?_⟩
  clear h5 K5
  refine W_cond rfl (fun hb6 => by first | (simp at hb6; done) | (simp at hb6; omega)) fun hb6 => ?_
  clear hb6
  refine W_skip ?_
  first | refine h4 _ ?_ | refine ⟨by omega, h4 _ ?_⟩ | refine ⟨by omega, by omega, h4 _ ?_⟩
  clear h4 K4
  refine W_seqK fun K7 h7 => ?_
  refine W_reg ?_
  simp [go_sem, ty3, hm0]
  first | refine h7 _ ?_ | refine ⟨by omega, h7 _ ?_⟩ | refine ⟨by omega, by omega, h7 _ ?_⟩
  clear h7 K7
  refine W_seqK fun K8 h8 => ?_
  refine W_reg ?_
  simp [go_sem, ty3, ty22, hm0]
  refine callG_true (by simp) (CallW_mut (mc_laws_markIntS (readsOf e) 1 (by omega)) rfl rfl rfl (by simp [go_sem, hm0]) rfl ?_)
  simp [go_sem, ty3, hm0]
  first | refine h8 _ ?_ | refine ⟨by omega, h8 _ ?_⟩ | refine ⟨by omega, by omega, h8 _ ?_⟩
  clear h8 K8
  refine W_seqK fun K9 h9 => ?_
  refine W_reg ?_
  simp [go_sem, ty3, hm0]
  first | refine h9 _ ?_ | refine ⟨by omega, h9 _ ?_⟩ | refine ⟨by omega, by omega, h9 _ ?_⟩
  clear h9 K9
  refine W_seqK fun K10 h10 => ?_
  refine W_reg ?_
  simp [go_sem, ty3, ty22, hm0]
  refine callG_pc (fun hG => pc_laws_heldIntS ((readsOf e).length) 1 (by omega)) (by simp) (fun hG => by simp [go_sem, hm0]) rfl rfl (by first | exact Or.inl rfl | exact Or.inr rfl) ?_
  simp [go_sem, ty3, hm0]
  first | refine h10 _ ?_ | refine ⟨by omega, h10 _ ?_⟩ | refine ⟨by omega, by omega, h10 _ ?_⟩
  clear h10 K10
  refine W_seqK fun K11 h11 => ?_
  refine W_seqK fun K12 h12 => ?_
  refine W_reg ?_
  simp [go_sem, ty3, ty4, hm0]
  first | refine h12 _ ?_ | refine ⟨by omega, h12 _ ?_⟩ | refine ⟨by omega, by omega, h12 _ ?_⟩
  clear h12 K12
  refine W_cond rfl (fun hb13 => by first | (simp at hb13; done) | (simp at hb13; omega)) fun hb13 => ?_
  clear hb13
  refine W_skip ?_
  first | refine h11 _ ?_ | refine ⟨by omega, h11 _ ?_⟩ | refine ⟨by omega, by omega, h11 _ ?_⟩
  clear h11 K11
  refine W_seqK fun K14 h14 => ?_
  refine W_seqK fun K15 h15 => ?_
  refine W_reg ?_
  simp [go_sem, ty3, ty4, hm0]
  first | refine h15 _ ?_ | refine ⟨by omega, h15 _ ?_⟩ | refine ⟨by omega, by omega, h15 _ ?_⟩
  clear h15 K15
  refine W_cond rfl (fun hb16 => by first | (simp at hb16; done) | (simp at hb16; omega)) fun hb16 => ?_
  clear hb16
  refine W_skip ?_
  first | refine h14 _ ?_ | refine ⟨by omega, h14 _ ?_⟩ | refine ⟨by omega, by omega, h14 _ ?_⟩
  clear h14 K14
  refine W_seqK fun K17 h17 => ?_
  refine W_reg ?_
  simp [go_sem, ty29, ty31, hm0]
  refine callG_pc (fun hG => pc_laws_toEvent e) (by simp) (fun hG => by simp [go_sem, hm0]) rfl rfl (by first | exact Or.inl rfl | exact Or.inr rfl) ?_
  simp [go_sem, ty3, ty22, ty31, hm0]
  refine callG_pc (fun hG => pc_impl_ReadsOf e) (by simp) (fun hG => by simp [go_sem, hm0]) rfl rfl (by first | exact Or.inl rfl | exact Or.inr rfl) ?_
  simp [go_sem, ty3, ty22, hm0]
  first | refine h17 _ ?_ | refine ⟨by omega, h17 _ ?_⟩ | refine ⟨by omega, by omega, h17 _ ?_⟩
  clear h17 K17
  refine W_seqK fun K18 h18 => ?_
  refine W_seqK fun K19 h19 => ?_
  refine W_reg ?_
  simp [go_sem, ty3, ty4, ty22, hm0]
  refine callG_pc (fun hG => pc_laws_eqIntS (readsOf e) (readsOf e) (by omega)) (by simp) (fun hG => by simp [go_sem, hm0]) rfl rfl (by first | exact Or.inl rfl | exact Or.inr rfl) ?_
  simp [go_sem, ty4, hm0]
  first | refine h19 _ ?_ | refine ⟨by omega, h19 _ ?_⟩ | refine ⟨by omega, by omega, h19 _ ?_⟩
  clear h19 K19
  refine W_cond rfl (fun hb20 => by first | (simp at hb20; done) | (simp at hb20; omega)) fun hb20 => ?_
  clear hb20
  refine W_skip ?_
  first | refine h18 _ ?_ | refine ⟨by omega, h18 _ ?_⟩ | refine ⟨by omega, by omega, h18 _ ?_⟩
  clear h18 K18
  refine W_seqK fun K21 h21 => ?_
  refine W_reg ?_
  simp [go_sem, ty3, hm0]
  first | refine h21 _ ?_ | refine ⟨by omega, h21 _ ?_⟩ | refine ⟨by omega, by omega, h21 _ ?_⟩
  clear h21 K21
  refine W_seqK fun K22 h22 => ?_
  refine W_reg ?_
  simp [go_sem, ty3, ty22, hm0]
  refine callG_pc (fun hG => pc_laws_heldIntS ((readsOf e).length) 1 (by omega)) (by simp) (fun hG => by simp [go_sem, hm0]) rfl rfl (by first | exact Or.inl rfl | exact Or.inr rfl) ?_
  simp [go_sem, ty3, hm0]
  first | refine h22 _ ?_ | refine ⟨by omega, h22 _ ?_⟩ | refine ⟨by omega, by omega, h22 _ ?_⟩
  clear h22 K22
  refine W_seqK fun K23 h23 => ?_
  refine W_seqK fun K24 h24 => ?_
  refine W_reg ?_
  simp [go_sem, ty3, ty4, hm0]
  first | refine h24 _ ?_ | refine ⟨by omega, h24 _ ?_⟩ | refine ⟨by omega, by omega, h24 _ ?_⟩
  clear h24 K24
  refine W_cond rfl (fun hb25 => by first | (simp at hb25; done) | (simp at hb25; omega)) fun hb25 => ?_
  clear hb25
  refine W_skip ?_
  first | refine h23 _ ?_ | refine ⟨by omega, h23 _ ?_⟩ | refine ⟨by omega, by omega, h23 _ ?_⟩
  clear h23 K23
  refine W_seqK fun K26 h26 => ?_
  refine W_seqK fun K27 h27 => ?_
  refine W_reg ?_
  simp [go_sem, ty3, ty4, hm0]
  first | refine h27 _ ?_ | refine ⟨by omega, h27 _ ?_⟩ | refine ⟨by omega, by omega, h27 _ ?_⟩
  clear h27 K27
  refine W_cond rfl (fun hb28 => by first | (simp at hb28; done) | (simp at hb28; omega)) fun hb28 => ?_
  clear hb28
  refine W_skip ?_
  first | refine h26 _ ?_ | refine ⟨by omega, h26 _ ?_⟩ | refine ⟨by omega, by omega, h26 _ ?_⟩
  clear h26 K26
  refine W_seqK fun K29 h29 => ?_
  refine W_reg ?_
  simp [go_sem, ty4, hm0]
  first | refine h29 _ ?_ | refine ⟨by omega, h29 _ ?_⟩ | refine ⟨by omega, by omega, h29 _ ?_⟩
  clear h29 K29
  refine W_ret ?_
  simp [go_sem]
end Go.Tw
