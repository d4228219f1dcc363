/- Walks of functions: laws.FnExactFlockOk -/
import Derived.Test.YtddbdhaeoakhlaaGreatF5u
import Derived.Test.YtddbdhaeoakhlaaGreatF5L4
set_option linter.unusedSimpArgs false
set_option linter.unusedVariables false
namespace Go.Tw
open Go.Proofs

set_option maxRecDepth 100000 in
set_option maxHeartbeats 4000000 in
theorem pc_laws_FnExactFlockOk (f : GFlock) (ok_f : f.ok) : PC Tryz.prog 3 [(true, eFlock f)] [(false, [.bool true])] := by
  refine PC_of (n := 27) Tryz.func3 rfl rfl rfl rfl (by simp) ?_
  refine W_seqK fun K1 h1 => ?_
  refine W_reg ?_
  simp [go_sem, ty4, ty28, markE_add]
  first | refine h1 _ ?_ | refine ⟨by omega, h1 _ ?_⟩ | refine ⟨by omega, by omega, h1 _ ?_⟩ | (repeat (refine ⟨by first | omega | grind, ?_⟩)); refine h1 _ ?_
  clear h1 K1
  refine W_seqK fun K2 h2 => ?_
  refine W_reg ?_
  simp [go_sem, ty3, markE_add]
  first | refine h2 _ ?_ | refine ⟨by omega, h2 _ ?_⟩ | refine ⟨by omega, by omega, h2 _ ?_⟩ | (repeat (refine ⟨by first | omega | grind, ?_⟩)); refine h2 _ ?_
  clear h2 K2
  refine W_seqK fun K3 h3 => ?_
  refine W_reg ?_
  simp [go_sem, ty3, ty28, markE_add]
  refine callG_pc (fun hG => pc_laws_szFlock f 1048576 (by first | assumption | omega | (have h9 := hq_f; unfold GFlock.small at h9; first | exact h9.1 | exact h9.2.1 | exact h9.2.2)) (by first | assumption | omega | (have h9 := hq_f; unfold GFlock.small at h9; first | exact h9.1 | exact h9.2.1 | exact h9.2.2)) (by first | assumption | omega | (have h9 := hq_f; unfold GFlock.small at h9; first | exact h9.1 | exact h9.2.1 | exact h9.2.2))) (by first | (simp; done) | (simp [inR_iff]; done) | (simp [inR_iff]; grind) | grind) (fun hG => by simp [go_sem, markE_add]) rfl rfl (by first | exact Or.inl rfl | exact Or.inr rfl) ?_
  simp [go_sem, ty3, markE_add]
  first | refine h3 _ ?_ | refine ⟨by omega, h3 _ ?_⟩ | refine ⟨by omega, by omega, h3 _ ?_⟩ | (repeat (refine ⟨by first | omega | grind, ?_⟩)); refine h3 _ ?_
  clear h3 K3
  refine W_seqK fun K4 h4 => ?_
  refine W_seqK fun K5 h5 => ?_
  refine W_reg ?_
  simp [go_sem, ty3, ty4, markE_add]
  first | refine h5 _ ?_ | refine ⟨by omega, h5 _ ?_⟩ | refine ⟨by omega, by omega, h5 _ ?_⟩ | (repeat (refine ⟨by first | omega | grind, ?_⟩)); refine h5 _ ?_
  clear h5 K5
  refine W_cond rfl (fun hb6 => ?_) fun hb6 => ?_
  · skip
    refine W_seqK fun K7 h7 => ?_
    refine W_reg ?_
    simp [go_sem, ty4, markE_add]
    first | refine h7 _ ?_ | refine ⟨by omega, h7 _ ?_⟩ | refine ⟨by omega, by omega, h7 _ ?_⟩ | (repeat (refine ⟨by first | omega | grind, ?_⟩)); refine h7 _ ?_
    clear h7 K7
    refine W_ret ?_
    simp [go_sem]
  · have hz_f := szL_pos hb6
    have hq_f := f.small_of (by omega)
    clear hb6
    have hn_f := nvFlock_le f
    simp only [nvFlock] at hn_f
    refine W_skip ?_
    first | refine h4 _ ?_ | refine ⟨by omega, h4 _ ?_⟩ | refine ⟨by omega, by omega, h4 _ ?_⟩ | (repeat (refine ⟨by first | omega | grind, ?_⟩)); refine h4 _ ?_
    clear h4 K4
    refine W_seqK fun K8 h8 => ?_
    refine W_reg ?_
    simp [go_sem, ty28, ty37, markE_add]
    refine callG_pc (fun hG => pc_laws_toFlock f (by first | assumption | omega | (have h9 := hq_f; unfold GFlock.small at h9; first | exact h9.1 | exact h9.2.1 | exact h9.2.2))) (by first | (simp; done) | (simp [inR_iff]; done) | (simp [inR_iff]; grind) | grind) (fun hG => by simp [go_sem, markE_add]) rfl rfl (by first | exact Or.inl rfl | exact Or.inr rfl) ?_
    simp [go_sem, ty4, ty37, markE_add]
    refine callG_pc (fun hG => pc_spec_FlockOk f (by first | assumption | omega | (have h9 := hq_f; unfold GFlock.small at h9; first | exact h9.1 | exact h9.2.1 | exact h9.2.2))) (by first | (simp; done) | (simp [inR_iff]; done) | (simp [inR_iff]; grind) | grind) (fun hG => by simp [go_sem, markE_add]) rfl rfl (by first | exact Or.inl rfl | exact Or.inr rfl) ?_
    simp [go_sem, ty4, markE_add]
    first | refine h8 _ ?_ | refine ⟨by omega, h8 _ ?_⟩ | refine ⟨by omega, by omega, h8 _ ?_⟩ | (repeat (refine ⟨by first | omega | grind, ?_⟩)); refine h8 _ ?_
    clear h8 K8
    refine W_seqK fun K9 h9 => ?_
    refine W_reg ?_
    simp [go_sem, ty28, ty37, markE_add]
    refine callG_pc (fun hG => pc_laws_toFlock f (by first | assumption | omega | (have h9 := hq_f; unfold GFlock.small at h9; first | exact h9.1 | exact h9.2.1 | exact h9.2.2))) (by first | (simp; done) | (simp [inR_iff]; done) | (simp [inR_iff]; grind) | grind) (fun hG => by simp [go_sem, markE_add]) rfl rfl (by first | exact Or.inl rfl | exact Or.inr rfl) ?_
    simp [go_sem, ty37, markE_add]
    first | refine h9 _ ?_ | refine ⟨by omega, h9 _ ?_⟩ | refine ⟨by omega, by omega, h9 _ ?_⟩ | (repeat (refine ⟨by first | omega | grind, ?_⟩)); refine h9 _ ?_
    clear h9 K9
    refine W_seqK fun K10 h10 => ?_
    refine W_reg ?_
    simp [go_sem, ty4, ty37, markE_add]
    refine callG_pc (fun hG => pc_impl_FlockOk f (by first | assumption | omega | (have h9 := hq_f; unfold GFlock.small at h9; first | exact h9.1 | exact h9.2.1 | exact h9.2.2))) (by first | (simp; done) | (simp [inR_iff]; done) | (simp [inR_iff]; grind) | grind) (fun hG => by simp [go_sem, markE_add]) rfl rfl (by first | exact Or.inl rfl | exact Or.inr rfl) ?_
    simp [go_sem, ty4, markE_add]
    first | refine h10 _ ?_ | refine ⟨by omega, h10 _ ?_⟩ | refine ⟨by omega, by omega, h10 _ ?_⟩ | (repeat (refine ⟨by first | omega | grind, ?_⟩)); refine h10 _ ?_
    clear h10 K10
    refine W_seqK fun K11 h11 => ?_
    refine W_seqK fun K12 h12 => ?_
    refine W_reg ?_
    simp [go_sem, ty4, markE_add]
    first | refine h12 _ ?_ | refine ⟨by omega, h12 _ ?_⟩ | refine ⟨by omega, by omega, h12 _ ?_⟩ | (repeat (refine ⟨by first | omega | grind, ?_⟩)); refine h12 _ ?_
    clear h12 K12
    refine W_cond rfl (fun hb13 => by first | (simp at hb13; done) | (simp at hb13; omega) | (simp at hb13; exact absurd hb13 (Int.not_lt.2 (markE_nn _ (by omega))))) fun hb13 => ?_
    clear hb13
    refine W_skip ?_
    first | refine h11 _ ?_ | refine ⟨by omega, h11 _ ?_⟩ | refine ⟨by omega, by omega, h11 _ ?_⟩ | (repeat (refine ⟨by first | omega | grind, ?_⟩)); refine h11 _ ?_
    clear h11 K11
    refine W_seqK fun K14 h14 => ?_
    refine W_seqK fun K15 h15 => ?_
    refine W_drawT true mixed (by decide +kernel) ?_
    simp [go_sem, ty28, ty37, markE_add]
    refine callG_pc (fun hG => pc_laws_toFlock f (by first | assumption | omega | (have h9 := hq_f; unfold GFlock.small at h9; first | exact h9.1 | exact h9.2.1 | exact h9.2.2))) (by first | (simp; done) | (simp [inR_iff]; done) | (simp [inR_iff]; grind) | grind) (fun hG => by simp [go_sem, markE_add]) rfl rfl (by first | exact Or.inl rfl | exact Or.inr rfl) ?_
    simp [go_sem, ty4, ty37, markE_add]
    refine callG_pc (fun hG => pc_laws_eqFlock f f (by first | assumption | omega | (have h9 := hq_f; unfold GFlock.small at h9; first | exact h9.1 | exact h9.2.1 | exact h9.2.2))) (by first | (simp; done) | (simp [inR_iff]; done) | (simp [inR_iff]; grind) | grind) (fun hG => by simp [go_sem, markE_add]) rfl rfl (by first | exact Or.inl rfl | exact Or.inr rfl) ?_
    simp [go_sem, ty4, markE_add]
    first | refine h15 _ ?_ | refine ⟨by omega, h15 _ ?_⟩ | refine ⟨by omega, by omega, h15 _ ?_⟩ | (repeat (refine ⟨by first | omega | grind, ?_⟩)); refine h15 _ ?_
    clear h15 K15
    refine W_cond rfl (fun hb16 => by first | (simp at hb16; done) | (simp at hb16; omega) | (simp at hb16; exact absurd hb16 (Int.not_lt.2 (markE_nn _ (by omega))))) fun hb16 => ?_
    clear hb16
    refine W_skip ?_
    first | refine h14 _ ?_ | refine ⟨by omega, h14 _ ?_⟩ | refine ⟨by omega, by omega, h14 _ ?_⟩ | (repeat (refine ⟨by first | omega | grind, ?_⟩)); refine h14 _ ?_
    clear h14 K14
    refine W_seqK fun K17 h17 => ?_
    refine W_reg ?_
    simp [go_sem, ty4, markE_add]
    first | refine h17 _ ?_ | refine ⟨by omega, h17 _ ?_⟩ | refine ⟨by omega, by omega, h17 _ ?_⟩ | (repeat (refine ⟨by first | omega | grind, ?_⟩)); refine h17 _ ?_
    clear h17 K17
    refine W_ret ?_
    simp [go_sem]
end Go.Tw
