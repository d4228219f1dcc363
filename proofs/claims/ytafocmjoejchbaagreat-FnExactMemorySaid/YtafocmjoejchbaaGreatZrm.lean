/- Walks of functions: laws.FnExactMemory -/
import Derived.Test.YtafocmjoejchbaaGreatZw
import Derived.Test.YtafocmjoejchbaaGreatZL3
import Derived.Test.YtafocmjoejchbaaGreatZM2
set_option linter.unusedSimpArgs false
set_option linter.unusedVariables false
set_option linter.unnecessarySimpa false
namespace Go.Tw
open Go.Proofs

set_option maxRecDepth 100000 in
set_option maxHeartbeats 4000000 in
theorem pc_laws_FnExactMemory (w : GWorld) (ok_w : w.ok) : PC Tryz.prog 4 [(true, eWorld w)] [(false, [.bool true])] := by
  refine PC_of (n := 69) Tryz.func4 rfl rfl rfl rfl (by simp) ?_
  refine W_seqK fun K1 h1 => ?_
  refine W_reg ?_
  simp [go_sem, ty4, ty55, markE_add]
  first | refine h1 _ ?_ | refine ⟨by omega, h1 _ ?_⟩ | refine ⟨by omega, by omega, h1 _ ?_⟩ | (repeat (refine ⟨by first | omega | grind, ?_⟩)); refine h1 _ ?_
  clear h1 K1
  refine W_seqK fun K2 h2 => ?_
  refine W_reg ?_
  simp [go_sem, ty3, markE_add]
  first | refine h2 _ ?_ | refine ⟨by omega, h2 _ ?_⟩ | refine ⟨by omega, by omega, h2 _ ?_⟩ | (repeat (refine ⟨by first | omega | grind, ?_⟩)); refine h2 _ ?_
  clear h2 K2
  refine W_seqK fun K3 h3 => ?_
  refine W_reg ?_
  simp [go_sem, ty3, ty55, markE_add]
  refine callG_pc (fun hG => pc_laws_szWorld w 1048576 (by first | assumption | omega | (have h9 := hq_w; unfold GWorld.small at h9; first | exact h9.1 | exact h9.2.1 | exact h9.2.2.1 | exact h9.2.2.2)) (by first | assumption | omega | (have h9 := hq_w; unfold GWorld.small at h9; first | exact h9.1 | exact h9.2.1 | exact h9.2.2.1 | exact h9.2.2.2)) (by first | assumption | omega | (have h9 := hq_w; unfold GWorld.small at h9; first | exact h9.1 | exact h9.2.1 | exact h9.2.2.1 | exact h9.2.2.2))) (by first | (simp; done) | (simp [inR_iff]; done) | (simp [inR_iff]; grind) | grind) (fun hG => by simp [go_sem, markE_add]) rfl rfl (by first | exact Or.inl rfl | exact Or.inr rfl) ?_
  simp [go_sem, ty3, markE_add]
  first | refine h3 _ ?_ | refine ⟨by omega, h3 _ ?_⟩ | refine ⟨by omega, by omega, h3 _ ?_⟩ | (repeat (refine ⟨by first | omega | grind, ?_⟩)); refine h3 _ ?_
  clear h3 K3
  refine W_seqK fun K4 h4 => ?_
  refine W_seqK fun K5 h5 => ?_
  refine W_reg ?_
  simp [go_sem, ty3, ty4, markE_add]
  first | refine h5 _ ?_ | refine ⟨by omega, h5 _ ?_⟩ | refine ⟨by omega, by omega, h5 _ ?_⟩ | (repeat (refine ⟨by first | omega | grind, ?_⟩)); refine h5 _ ?_
  clear h5 K5
  refine W_cond rfl (fun hb6 => ?_) fun hb6 => ?_
  · skip
    refine W_seqK fun K7 h7 => ?_
    refine W_reg ?_
    simp [go_sem, ty4, markE_add]
    first | refine h7 _ ?_ | refine ⟨by omega, h7 _ ?_⟩ | refine ⟨by omega, by omega, h7 _ ?_⟩ | (repeat (refine ⟨by first | omega | grind, ?_⟩)); refine h7 _ ?_
    clear h7 K7
    refine W_ret ?_
    simp [go_sem]
  · have hz_w := szL_pos hb6
    have hq_w := w.small_of (by omega)
    clear hb6
    have hn_w := nvWorld_le w
    simp only [nvWorld] at hn_w
    have hl := memory_len w
    refine W_skip ?_
    first | refine h4 _ ?_ | refine ⟨by omega, h4 _ ?_⟩ | refine ⟨by omega, by omega, h4 _ ?_⟩ | (repeat (refine ⟨by first | omega | grind, ?_⟩)); refine h4 _ ?_
    clear h4 K4
    refine W_seqK fun K8 h8 => ?_
    refine W_reg ?_
    simp [go_sem, ty55, ty61, markE_add]
    refine callG_pc (fun hG => pc_laws_toWorld w (by first | assumption | omega | (have h9 := hq_w; unfold GWorld.small at h9; first | exact h9.1 | exact h9.2.1 | exact h9.2.2.1 | exact h9.2.2.2))) (by first | (simp; done) | (simp [inR_iff]; done) | (simp [inR_iff]; grind) | grind) (fun hG => by simp [go_sem, markE_add]) rfl rfl (by first | exact Or.inl rfl | exact Or.inr rfl) ?_
    simp [go_sem, ty3, ty22, ty61, markE_add]
    refine callG_pc (fun hG => pc_spec_Memory w (by first | assumption | omega | (have h9 := hq_w; unfold GWorld.small at h9; first | exact h9.1 | exact h9.2.1 | exact h9.2.2.1 | exact h9.2.2.2))) (by first | (simp; done) | (simp [inR_iff]; done) | (simp [inR_iff]; grind) | grind) (fun hG => by simp [go_sem, markE_add]) rfl rfl (by first | exact Or.inl rfl | exact Or.inr rfl) ?_
    simp [go_sem, ty3, ty22, markE_add]
    first | refine h8 _ ?_ | refine ⟨by omega, h8 _ ?_⟩ | refine ⟨by omega, by omega, h8 _ ?_⟩ | (repeat (refine ⟨by first | omega | grind, ?_⟩)); refine h8 _ ?_
    clear h8 K8
    refine W_seqK fun K9 h9 => ?_
    refine W_reg ?_
    simp [go_sem, ty55, ty61, markE_add]
    refine callG_pc (fun hG => pc_laws_toWorld w (by first | assumption | omega | (have h9 := hq_w; unfold GWorld.small at h9; first | exact h9.1 | exact h9.2.1 | exact h9.2.2.1 | exact h9.2.2.2))) (by first | (simp; done) | (simp [inR_iff]; done) | (simp [inR_iff]; grind) | grind) (fun hG => by simp [go_sem, markE_add]) rfl rfl (by first | exact Or.inl rfl | exact Or.inr rfl) ?_
    simp [go_sem, ty61, markE_add]
    first | refine h9 _ ?_ | refine ⟨by omega, h9 _ ?_⟩ | refine ⟨by omega, by omega, h9 _ ?_⟩ | (repeat (refine ⟨by first | omega | grind, ?_⟩)); refine h9 _ ?_
    clear h9 K9
    refine W_seqK fun K10 h10 => ?_
    refine W_reg ?_
    simp [go_sem, ty3, ty22, ty61, markE_add]
    refine callG_pc (fun hG => pc_impl_Memory w (by first | assumption | omega | (have h9 := hq_w; unfold GWorld.small at h9; first | exact h9.1 | exact h9.2.1 | exact h9.2.2.1 | exact h9.2.2.2))) (by first | (simp; done) | (simp [inR_iff]; done) | (simp [inR_iff]; grind) | grind) (fun hG => by simp [go_sem, markE_add]) rfl rfl (by first | exact Or.inl rfl | exact Or.inr rfl) ?_
    simp [go_sem, ty3, ty22, markE_add]
    first | refine h10 _ ?_ | refine ⟨by omega, h10 _ ?_⟩ | refine ⟨by omega, by omega, h10 _ ?_⟩ | (repeat (refine ⟨by first | omega | grind, ?_⟩)); refine h10 _ ?_
    clear h10 K10
    refine W_seqK fun K11 h11 => ?_
    refine W_seqK fun K12 h12 => ?_
    refine W_reg ?_
    simp [go_sem, ty3, ty4, ty22, markE_add]
    refine callG_pc (fun hG => pc_laws_eqIntS (memory w) (memory w) (by first | assumption | omega | (have h9 := hq_w; unfold GWorld.small at h9; first | exact h9.1 | exact h9.2.1 | exact h9.2.2.1 | exact h9.2.2.2))) (by first | (simp; done) | (simp [inR_iff]; done) | (simp [inR_iff]; grind) | grind) (fun hG => by simp [go_sem, markE_add]) rfl rfl (by first | exact Or.inl rfl | exact Or.inr rfl) ?_
    simp [go_sem, ty4, markE_add]
    first | refine h12 _ ?_ | refine ⟨by omega, h12 _ ?_⟩ | refine ⟨by omega, by omega, h12 _ ?_⟩ | (repeat (refine ⟨by first | omega | grind, ?_⟩)); refine h12 _ ?_
    clear h12 K12
    refine W_cond rfl (fun hb13 => by first | (simp at hb13; done) | (simp at hb13; omega) | (simp at hb13; exact absurd hb13 (Int.not_lt.2 (markE_nn _ (by omega))))) fun hb13 => ?_
    clear hb13
    refine W_skip ?_
    first | refine h11 _ ?_ | refine ⟨by omega, h11 _ ?_⟩ | refine ⟨by omega, by omega, h11 _ ?_⟩ | (repeat (refine ⟨by first | omega | grind, ?_⟩)); refine h11 _ ?_
    clear h11 K11
    refine W_seqK fun K14 h14 => ?_
    refine W_seqK fun K15 h15 => ?_
    refine W_drawT true mixed (by decide +kernel) ?_
    simp [go_sem, ty55, ty61, markE_add]
    refine callG_pc (fun hG => pc_laws_toWorld w (by first | assumption | omega | (have h9 := hq_w; unfold GWorld.small at h9; first | exact h9.1 | exact h9.2.1 | exact h9.2.2.1 | exact h9.2.2.2))) (by first | (simp; done) | (simp [inR_iff]; done) | (simp [inR_iff]; grind) | grind) (fun hG => by simp [go_sem, markE_add]) rfl rfl (by first | exact Or.inl rfl | exact Or.inr rfl) ?_
    simp [go_sem, ty4, ty61, markE_add]
    refine callG_pc (fun hG => pc_laws_eqWorld w w (by first | assumption | omega | (have h9 := hq_w; unfold GWorld.small at h9; first | exact h9.1 | exact h9.2.1 | exact h9.2.2.1 | exact h9.2.2.2))) (by first | (simp; done) | (simp [inR_iff]; done) | (simp [inR_iff]; grind) | grind) (fun hG => by simp [go_sem, markE_add]) rfl rfl (by first | exact Or.inl rfl | exact Or.inr rfl) ?_
    simp [go_sem, ty4, markE_add]
    first | refine h15 _ ?_ | refine ⟨by omega, h15 _ ?_⟩ | refine ⟨by omega, by omega, h15 _ ?_⟩ | (repeat (refine ⟨by first | omega | grind, ?_⟩)); refine h15 _ ?_
    clear h15 K15
    refine W_cond rfl (fun hb16 => by first | (simp at hb16; done) | (simp at hb16; omega) | (simp at hb16; exact absurd hb16 (Int.not_lt.2 (markE_nn _ (by omega))))) fun hb16 => ?_
    clear hb16
    refine W_skip ?_
    first | refine h14 _ ?_ | refine ⟨by omega, h14 _ ?_⟩ | refine ⟨by omega, by omega, h14 _ ?_⟩ | (repeat (refine ⟨by first | omega | grind, ?_⟩)); refine h14 _ ?_
    clear h14 K14
    refine W_seqK fun K17 h17 => ?_
    refine W_reg ?_
    simp [go_sem, ty3, markE_add]
    first | refine h17 _ ?_ | refine ⟨by omega, h17 _ ?_⟩ | refine ⟨by omega, by omega, h17 _ ?_⟩ | (repeat (refine ⟨by first | omega | grind, ?_⟩)); refine h17 _ ?_
    clear h17 K17
    refine W_seqK fun K18 h18 => ?_
    refine W_reg ?_
    simp [go_sem, ty3, ty61, markE_add]
    refine callG_true (by simp) ((CallW_inline (n := 14) Tryz.func19 rfl rfl rfl rfl (by simp) fun a_ => ?_))
    refine W_seqK fun K19 h19 => ?_
    refine W_reg ?_
    simp [go_sem, ty3, ty61, markE_add]
    first | refine h19 _ ?_ | refine ⟨by omega, h19 _ ?_⟩ | refine ⟨by omega, by omega, h19 _ ?_⟩ | (repeat (refine ⟨by first | omega | grind, ?_⟩)); refine h19 _ ?_
    clear h19 K19
    refine W_seqK fun K20 h20 => ?_
    refine W_reg ?_
    simp [go_sem, ty3, ty47, ty58, ty61, markE_add]
    refine callG_true (by simp) (CallW_mut (mc_laws_markNodeS w.nodes 1 (by first | assumption | omega | (have h9 := hq_w; unfold GWorld.small at h9; first | exact h9.1 | exact h9.2.1 | exact h9.2.2.1 | exact h9.2.2.2)) (by first | assumption | omega | (have h9 := hq_w; unfold GWorld.small at h9; first | exact h9.1 | exact h9.2.1 | exact h9.2.2.1 | exact h9.2.2.2))) rfl rfl rfl (by simp [go_sem, markE_add]) rfl ?_)
    simp [go_sem, ty3, markE_add]
    first | refine h20 _ ?_ | refine ⟨by omega, h20 _ ?_⟩ | refine ⟨by omega, by omega, h20 _ ?_⟩ | (repeat (refine ⟨by first | omega | grind, ?_⟩)); refine h20 _ ?_
    clear h20 K20
    refine W_seqK fun K21 h21 => ?_
    refine W_reg ?_
    simp [go_sem, ty3, ty59, ty61, ty167, markE_add]
    refine callG_true (by simp) (CallW_mut (mc_laws_markPacketS w.net (markE 1 ((w.nodes.map nNode).sum)) (by first | assumption | omega | (have h9 := hq_w; unfold GWorld.small at h9; first | exact h9.1 | exact h9.2.1 | exact h9.2.2.1 | exact h9.2.2.2)) (by first | assumption | omega | (have h9 := hq_w; unfold GWorld.small at h9; first | exact h9.1 | exact h9.2.1 | exact h9.2.2.1 | exact h9.2.2.2))) rfl rfl rfl (by simp [go_sem, markE_add]) rfl ?_)
    simp [go_sem, ty3, markE_add]
    first | refine h21 _ ?_ | refine ⟨by omega, h21 _ ?_⟩ | refine ⟨by omega, by omega, h21 _ ?_⟩ | (repeat (refine ⟨by first | omega | grind, ?_⟩)); refine h21 _ ?_
    clear h21 K21
    refine W_seqK fun K22 h22 => ?_
    refine W_reg ?_
    simp [go_sem, ty3, markE_add]
    first | refine h22 _ ?_ | refine ⟨by omega, h22 _ ?_⟩ | refine ⟨by omega, by omega, h22 _ ?_⟩ | (repeat (refine ⟨by first | omega | grind, ?_⟩)); refine h22 _ ?_
    clear h22 K22
    refine W_ret ?_
    simp [go_sem]
    refine ⟨_, _, ⟨rfl, rfl⟩, ?_⟩
    simp [go_sem, ty3, markE_add]
    first | refine h18 _ ?_ | refine ⟨by omega, h18 _ ?_⟩ | refine ⟨by omega, by omega, h18 _ ?_⟩ | (repeat (refine ⟨by first | omega | grind, ?_⟩)); refine h18 _ ?_
    clear h18 K18
    refine W_seqK fun K23 h23 => ?_
    refine W_seqK fun K24 h24 => ?_
    refine W_reg ?_
    simp [go_sem, ty3, ty4, ty22, markE_add]
    refine callG_pc (fun hG => pc_laws_eqIntS (memory w) (memory w) (by first | assumption | omega | (have h9 := hq_w; unfold GWorld.small at h9; first | exact h9.1 | exact h9.2.1 | exact h9.2.2.1 | exact h9.2.2.2))) (by first | (simp; done) | (simp [inR_iff]; done) | (simp [inR_iff]; grind) | grind) (fun hG => by simp [go_sem, markE_add]) rfl rfl (by first | exact Or.inl rfl | exact Or.inr rfl) ?_
    simp [go_sem, ty4, markE_add]
    first | refine h24 _ ?_ | refine ⟨by omega, h24 _ ?_⟩ | refine ⟨by omega, by omega, h24 _ ?_⟩ | (repeat (refine ⟨by first | omega | grind, ?_⟩)); refine h24 _ ?_
    clear h24 K24
    refine W_cond rfl (fun hb25 => by first | (simp at hb25; done) | (simp at hb25; omega) | (simp at hb25; exact absurd hb25 (Int.not_lt.2 (markE_nn _ (by omega))))) fun hb25 => ?_
    clear hb25
    refine W_skip ?_
    first | refine h23 _ ?_ | refine ⟨by omega, h23 _ ?_⟩ | refine ⟨by omega, by omega, h23 _ ?_⟩ | (repeat (refine ⟨by first | omega | grind, ?_⟩)); refine h23 _ ?_
    clear h23 K23
    refine W_seqK fun K26 h26 => ?_
    refine W_reg ?_
    simp [go_sem, ty3, markE_add]
    first | refine h26 _ ?_ | refine ⟨by omega, h26 _ ?_⟩ | refine ⟨by omega, by omega, h26 _ ?_⟩ | (repeat (refine ⟨by first | omega | grind, ?_⟩)); refine h26 _ ?_
    clear h26 K26
    refine W_seqK fun K27 h27 => ?_
    refine W_reg ?_
    simp [go_sem, ty3, ty22, markE_add]
    refine callG_true (by simp) (CallW_mut (mc_laws_markIntS (memory w) 1 (by first | assumption | omega | (have h9 := hq_w; unfold GWorld.small at h9; first | exact h9.1 | exact h9.2.1 | exact h9.2.2.1 | exact h9.2.2.2))) rfl rfl rfl (by simp [go_sem, markE_add]) rfl ?_)
    simp [go_sem, ty3, markE_add]
    first | refine h27 _ ?_ | refine ⟨by omega, h27 _ ?_⟩ | refine ⟨by omega, by omega, h27 _ ?_⟩ | (repeat (refine ⟨by first | omega | grind, ?_⟩)); refine h27 _ ?_
    clear h27 K27
    refine W_seqK fun K28 h28 => ?_
    refine W_reg ?_
    simp [go_sem, ty3, markE_add]
    first | refine h28 _ ?_ | refine ⟨by omega, h28 _ ?_⟩ | refine ⟨by omega, by omega, h28 _ ?_⟩ | (repeat (refine ⟨by first | omega | grind, ?_⟩)); refine h28 _ ?_
    clear h28 K28
    refine W_seqK fun K29 h29 => ?_
    refine W_reg ?_
    simp [go_sem, ty3, ty22, markE_add]
    refine callG_pc (fun hG => pc_laws_heldIntS ((memory w).length) 1 (by omega)) (by first | (simp; done) | (simp [inR_iff]; done) | (simp [inR_iff]; grind) | grind) (fun hG => by simp [go_sem, markE_add]) rfl rfl (by first | exact Or.inl rfl | exact Or.inr rfl) ?_
    simp [go_sem, ty3, markE_add]
    first | refine h29 _ ?_ | refine ⟨by omega, h29 _ ?_⟩ | refine ⟨by omega, by omega, h29 _ ?_⟩ | (repeat (refine ⟨by first | omega | grind, ?_⟩)); refine h29 _ ?_
    clear h29 K29
    refine W_seqK fun K30 h30 => ?_
    refine W_seqK fun K31 h31 => ?_
    refine W_reg ?_
    simp [go_sem, ty3, ty4, markE_add]
    first | refine h31 _ ?_ | refine ⟨by omega, h31 _ ?_⟩ | refine ⟨by omega, by omega, h31 _ ?_⟩ | (repeat (refine ⟨by first | omega | grind, ?_⟩)); refine h31 _ ?_
    clear h31 K31
    refine W_cond rfl (fun hb32 => by first | (simp at hb32; done) | (simp at hb32; omega) | (simp at hb32; exact absurd hb32 (Int.not_lt.2 (markE_nn _ (by omega))))) fun hb32 => ?_
    clear hb32
    refine W_skip ?_
    first | refine h30 _ ?_ | refine ⟨by omega, h30 _ ?_⟩ | refine ⟨by omega, by omega, h30 _ ?_⟩ | (repeat (refine ⟨by first | omega | grind, ?_⟩)); refine h30 _ ?_
    clear h30 K30
    refine W_seqK fun K33 h33 => ?_
    refine W_seqK fun K34 h34 => ?_
    refine W_reg ?_
    simp [go_sem, ty3, ty4, markE_add]
    first | refine h34 _ ?_ | refine ⟨by omega, h34 _ ?_⟩ | refine ⟨by omega, by omega, h34 _ ?_⟩ | (repeat (refine ⟨by first | omega | grind, ?_⟩)); refine h34 _ ?_
    clear h34 K34
    refine W_cond rfl (fun hb35 => by first | (simp at hb35; done) | (simp at hb35; omega) | (simp at hb35; exact absurd hb35 (Int.not_lt.2 (markE_nn _ (by omega))))) fun hb35 => ?_
    clear hb35
    refine W_skip ?_
    first | refine h33 _ ?_ | refine ⟨by omega, h33 _ ?_⟩ | refine ⟨by omega, by omega, h33 _ ?_⟩ | (repeat (refine ⟨by first | omega | grind, ?_⟩)); refine h33 _ ?_
    clear h33 K33
    refine W_seqK fun K36 h36 => ?_
    refine W_reg ?_
    simp [go_sem, ty55, ty61, markE_add]
    refine callG_pc (fun hG => pc_laws_toWorld w (by first | assumption | omega | (have h9 := hq_w; unfold GWorld.small at h9; first | exact h9.1 | exact h9.2.1 | exact h9.2.2.1 | exact h9.2.2.2))) (by first | (simp; done) | (simp [inR_iff]; done) | (simp [inR_iff]; grind) | grind) (fun hG => by simp [go_sem, markE_add]) rfl rfl (by first | exact Or.inl rfl | exact Or.inr rfl) ?_
    simp [go_sem, ty3, ty22, ty61, markE_add]
    refine callG_pc (fun hG => pc_impl_Memory w (by first | assumption | omega | (have h9 := hq_w; unfold GWorld.small at h9; first | exact h9.1 | exact h9.2.1 | exact h9.2.2.1 | exact h9.2.2.2))) (by first | (simp; done) | (simp [inR_iff]; done) | (simp [inR_iff]; grind) | grind) (fun hG => by simp [go_sem, markE_add]) rfl rfl (by first | exact Or.inl rfl | exact Or.inr rfl) ?_
    simp [go_sem, ty3, ty22, markE_add]
    first | refine h36 _ ?_ | refine ⟨by omega, h36 _ ?_⟩ | refine ⟨by omega, by omega, h36 _ ?_⟩ | (repeat (refine ⟨by first | omega | grind, ?_⟩)); refine h36 _ ?_
    clear h36 K36
    refine W_seqK fun K37 h37 => ?_
    refine W_seqK fun K38 h38 => ?_
    refine W_reg ?_
    simp [go_sem, ty3, ty4, ty22, markE_add]
    refine callG_pc (fun hG => pc_laws_eqIntS (memory w) (memory w) (by first | assumption | omega | (have h9 := hq_w; unfold GWorld.small at h9; first | exact h9.1 | exact h9.2.1 | exact h9.2.2.1 | exact h9.2.2.2))) (by first | (simp; done) | (simp [inR_iff]; done) | (simp [inR_iff]; grind) | grind) (fun hG => by simp [go_sem, markE_add]) rfl rfl (by first | exact Or.inl rfl | exact Or.inr rfl) ?_
    simp [go_sem, ty4, markE_add]
    first | refine h38 _ ?_ | refine ⟨by omega, h38 _ ?_⟩ | refine ⟨by omega, by omega, h38 _ ?_⟩ | (repeat (refine ⟨by first | omega | grind, ?_⟩)); refine h38 _ ?_
    clear h38 K38
    refine W_cond rfl (fun hb39 => by first | (simp at hb39; done) | (simp at hb39; omega) | (simp at hb39; exact absurd hb39 (Int.not_lt.2 (markE_nn _ (by omega))))) fun hb39 => ?_
    clear hb39
    refine W_skip ?_
    first | refine h37 _ ?_ | refine ⟨by omega, h37 _ ?_⟩ | refine ⟨by omega, by omega, h37 _ ?_⟩ | (repeat (refine ⟨by first | omega | grind, ?_⟩)); refine h37 _ ?_
    clear h37 K37
    refine W_seqK fun K40 h40 => ?_
    refine W_reg ?_
    simp [go_sem, ty3, markE_add]
    first | refine h40 _ ?_ | refine ⟨by omega, h40 _ ?_⟩ | refine ⟨by omega, by omega, h40 _ ?_⟩ | (repeat (refine ⟨by first | omega | grind, ?_⟩)); refine h40 _ ?_
    clear h40 K40
    refine W_seqK fun K41 h41 => ?_
    refine W_reg ?_
    simp [go_sem, ty3, ty22, markE_add]
    refine callG_pc (fun hG => pc_laws_heldIntS ((memory w).length) 1 (by omega)) (by first | (simp; done) | (simp [inR_iff]; done) | (simp [inR_iff]; grind) | grind) (fun hG => by simp [go_sem, markE_add]) rfl rfl (by first | exact Or.inl rfl | exact Or.inr rfl) ?_
    simp [go_sem, ty3, markE_add]
    first | refine h41 _ ?_ | refine ⟨by omega, h41 _ ?_⟩ | refine ⟨by omega, by omega, h41 _ ?_⟩ | (repeat (refine ⟨by first | omega | grind, ?_⟩)); refine h41 _ ?_
    clear h41 K41
    refine W_seqK fun K42 h42 => ?_
    refine W_seqK fun K43 h43 => ?_
    refine W_reg ?_
    simp [go_sem, ty3, ty4, markE_add]
    first | refine h43 _ ?_ | refine ⟨by omega, h43 _ ?_⟩ | refine ⟨by omega, by omega, h43 _ ?_⟩ | (repeat (refine ⟨by first | omega | grind, ?_⟩)); refine h43 _ ?_
    clear h43 K43
    refine W_cond rfl (fun hb44 => by first | (simp at hb44; done) | (simp at hb44; omega) | (simp at hb44; exact absurd hb44 (Int.not_lt.2 (markE_nn _ (by omega))))) fun hb44 => ?_
    clear hb44
    refine W_skip ?_
    first | refine h42 _ ?_ | refine ⟨by omega, h42 _ ?_⟩ | refine ⟨by omega, by omega, h42 _ ?_⟩ | (repeat (refine ⟨by first | omega | grind, ?_⟩)); refine h42 _ ?_
    clear h42 K42
    refine W_seqK fun K45 h45 => ?_
    refine W_seqK fun K46 h46 => ?_
    refine W_reg ?_
    simp [go_sem, ty3, ty4, markE_add]
    first | refine h46 _ ?_ | refine ⟨by omega, h46 _ ?_⟩ | refine ⟨by omega, by omega, h46 _ ?_⟩ | (repeat (refine ⟨by first | omega | grind, ?_⟩)); refine h46 _ ?_
    clear h46 K46
    refine W_cond rfl (fun hb47 => by first | (simp at hb47; done) | (simp at hb47; omega) | (simp at hb47; exact absurd hb47 (Int.not_lt.2 (markE_nn _ (by omega))))) fun hb47 => ?_
    clear hb47
    refine W_skip ?_
    first | refine h45 _ ?_ | refine ⟨by omega, h45 _ ?_⟩ | refine ⟨by omega, by omega, h45 _ ?_⟩ | (repeat (refine ⟨by first | omega | grind, ?_⟩)); refine h45 _ ?_
    clear h45 K45
    refine W_seqK fun K48 h48 => ?_
    refine W_reg ?_
    simp [go_sem, ty4, markE_add]
    first | refine h48 _ ?_ | refine ⟨by omega, h48 _ ?_⟩ | refine ⟨by omega, by omega, h48 _ ?_⟩ | (repeat (refine ⟨by first | omega | grind, ?_⟩)); refine h48 _ ?_
    clear h48 K48
    refine W_ret ?_
    simp [go_sem]
end Go.Tw
