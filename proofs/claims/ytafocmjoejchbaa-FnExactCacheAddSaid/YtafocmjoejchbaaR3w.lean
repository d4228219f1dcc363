/- Walks of functions: laws.FnExactCacheAdd -/
import Derived.Test.YtafocmjoejchbaaR3v
set_option linter.unusedSimpArgs false
set_option linter.unusedVariables false
namespace Go.Tw
open Go.Proofs

set_option maxRecDepth 100000 in
set_option maxHeartbeats 4000000 in
theorem pc_laws_FnExactCacheAdd (xs : List GBlock) (b : GBlock) (ol_xs : xs.length ≤ 9223372036854775807) (ok_xs : ∀ a ∈ xs, a.ok) (ok_b : b.ok) : PC Try.prog 3 [(false, [.sl 2 (enc eBlock xs)]), (true, eBlock b)] [(false, [.bool true])] := by
  refine PC_of (n := 92) Try.func3 rfl rfl rfl rfl (by simp) ?_
  refine W_seqK fun K1 h1 => ?_
  refine W_reg ?_
  simp [go_sem, ty4, ty25, markE_add]
  first | refine h1 _ ?_ | refine ⟨by omega, h1 _ ?_⟩ | refine ⟨by omega, by omega, h1 _ ?_⟩ | (repeat (refine ⟨by first | omega | grind, ?_⟩)); refine h1 _ ?_
  clear h1 K1
  refine W_seqK fun K2 h2 => ?_
  refine W_reg ?_
  simp [go_sem, ty3, markE_add]
  first | refine h2 _ ?_ | refine ⟨by omega, h2 _ ?_⟩ | refine ⟨by omega, by omega, h2 _ ?_⟩ | (repeat (refine ⟨by first | omega | grind, ?_⟩)); refine h2 _ ?_
  clear h2 K2
  refine W_seqK fun K3 h3 => ?_
  refine W_reg ?_
  simp [go_sem, ty3, ty22, ty25, markE_add]
  refine callG_pc (fun hG => pc_laws_szBlockS xs 1048576 (by first | assumption | omega) (by first | assumption | omega) (by first | assumption | omega) (by first | assumption | omega)) (by first | (simp; done) | (simp [inR_iff]; done) | (simp [inR_iff]; grind) | grind) (fun hG => by simp [go_sem, markE_add]) rfl rfl (by first | exact Or.inl rfl | exact Or.inr rfl) ?_
  simp [go_sem, ty3, markE_add]
  first | refine h3 _ ?_ | refine ⟨by omega, h3 _ ?_⟩ | refine ⟨by omega, by omega, h3 _ ?_⟩ | (repeat (refine ⟨by first | omega | grind, ?_⟩)); refine h3 _ ?_
  clear h3 K3
  refine W_seqK fun K4 h4 => ?_
  refine W_seqK fun K5 h5 => ?_
  refine W_reg ?_
  simp [go_sem, ty3, ty4, markE_add]
  first | refine h5 _ ?_ | refine ⟨by omega, h5 _ ?_⟩ | refine ⟨by omega, by omega, h5 _ ?_⟩ | (repeat (refine ⟨by first | omega | grind, ?_⟩)); refine h5 _ ?_
  clear h5 K5
  refine W_cond rfl (fun hb6 => ?_) fun hb6 => ?_
  · skip
    refine W_seqK fun K7 h7 => ?_
    refine W_reg ?_
    simp [go_sem, ty4, markE_add]
    first | refine h7 _ ?_ | refine ⟨by omega, h7 _ ?_⟩ | refine ⟨by omega, by omega, h7 _ ?_⟩ | (repeat (refine ⟨by first | omega | grind, ?_⟩)); refine h7 _ ?_
    clear h7 K7
    refine W_ret ?_
    simp [go_sem]
  · have hz_xs := szL_pos hb6
    have hq_xs : ∀ a ∈ xs, a.small := fun a ha => a.small_of (by have := mem_le_sum (f := fun a : GBlock => a.tot) ha; omega)
    have hn_xs := cnt_le (f := nBlock) (g := fun a => a.tot) nBlock_le xs
    clear hb6
    refine W_skip ?_
    first | refine h4 _ ?_ | refine ⟨by omega, h4 _ ?_⟩ | refine ⟨by omega, by omega, h4 _ ?_⟩ | (repeat (refine ⟨by first | omega | grind, ?_⟩)); refine h4 _ ?_
    clear h4 K4
    refine W_seqK fun K8 h8 => ?_
    refine W_reg ?_
    simp [go_sem, ty3, ty25, markE_add]
    refine callG_pc (fun hG => pc_laws_szBlock b (szL 1048576 (xs.length + (xs.map fun a => a.tot).sum)) (by first | assumption | omega) (by first | assumption | omega) (by first | assumption | omega)) (by first | (simp; done) | (simp [inR_iff]; done) | (simp [inR_iff]; grind) | grind) (fun hG => by simp [go_sem, markE_add]) rfl rfl (by first | exact Or.inl rfl | exact Or.inr rfl) ?_
    simp [go_sem, ty3, markE_add]
    first | refine h8 _ ?_ | refine ⟨by omega, h8 _ ?_⟩ | refine ⟨by omega, by omega, h8 _ ?_⟩ | (repeat (refine ⟨by first | omega | grind, ?_⟩)); refine h8 _ ?_
    clear h8 K8
    refine W_seqK fun K9 h9 => ?_
    refine W_seqK fun K10 h10 => ?_
    refine W_reg ?_
    simp [go_sem, ty3, ty4, markE_add]
    first | refine h10 _ ?_ | refine ⟨by omega, h10 _ ?_⟩ | refine ⟨by omega, by omega, h10 _ ?_⟩ | (repeat (refine ⟨by first | omega | grind, ?_⟩)); refine h10 _ ?_
    clear h10 K10
    refine W_cond rfl (fun hb11 => ?_) fun hb11 => ?_
    · skip
      refine W_seqK fun K12 h12 => ?_
      refine W_reg ?_
      simp [go_sem, ty4, markE_add]
      first | refine h12 _ ?_ | refine ⟨by omega, h12 _ ?_⟩ | refine ⟨by omega, by omega, h12 _ ?_⟩ | (repeat (refine ⟨by first | omega | grind, ?_⟩)); refine h12 _ ?_
      clear h12 K12
      refine W_ret ?_
      simp [go_sem]
    · have hz_b := szL_pos hb11
      have hq_b := b.small_of (by omega)
      clear hb11
      have hn_b := nvBlock_le b
      simp only [nvBlock] at hn_b
      have hl := cacheAdd_len xs b
      have hc := cacheAdd_sum nBlock xs b
      have hb9 := nBlock_le b
      have hr : ∀ a ∈ cacheAdd xs b, a.small := fun a ha => (cacheAdd_mem ha).elim (hq_xs a) fun e => e ▸ hq_b
      refine W_skip ?_
      first | refine h9 _ ?_ | refine ⟨by omega, h9 _ ?_⟩ | refine ⟨by omega, by omega, h9 _ ?_⟩ | (repeat (refine ⟨by first | omega | grind, ?_⟩)); refine h9 _ ?_
      clear h9 K9
      refine W_seqK fun K13 h13 => ?_
      refine W_drawO true [0, 2, 1, 3, 4, 5] mixed (by decide +kernel) ?_
      simp [go_sem, ty22, ty25, ty28, ty33, markE_add]
      refine callG_pc (fun hG => pc_laws_toBlockS xs (by first | assumption | omega) (by first | assumption | omega)) (by first | (simp; done) | (simp [inR_iff]; done) | (simp [inR_iff]; grind) | grind) (fun hG => by simp [go_sem, markE_add]) rfl rfl (by first | exact Or.inl rfl | exact Or.inr rfl) ?_
      simp [go_sem, ty25, ty33, markE_add]
      refine callG_pc (fun hG => pc_laws_toBlock b (by first | assumption | omega)) (by first | (simp; done) | (simp [inR_iff]; done) | (simp [inR_iff]; grind) | grind) (fun hG => by simp [go_sem, markE_add]) rfl rfl (by first | exact Or.inl rfl | exact Or.inr rfl) ?_
      simp [go_sem, ty28, ty33, markE_add]
      refine callG_pc (fun hG => pc_spec_CacheAdd xs b (by first | assumption | omega) (by first | assumption | omega) (by first | assumption | omega)) (by first | (simp; done) | (simp [inR_iff]; done) | (simp [inR_iff]; grind) | grind) (fun hG => by simp [go_sem, markE_add]) rfl rfl (by first | exact Or.inl rfl | exact Or.inr rfl) ?_
      simp [go_sem, ty28, ty33, markE_add]
      first | refine h13 _ ?_ | refine ⟨by omega, h13 _ ?_⟩ | refine ⟨by omega, by omega, h13 _ ?_⟩ | (repeat (refine ⟨by first | omega | grind, ?_⟩)); refine h13 _ ?_
      clear h13 K13
      refine W_seqK fun K14 h14 => ?_
      refine W_reg ?_
      simp [go_sem, ty22, ty25, ty28, ty33, markE_add]
      refine callG_pc (fun hG => pc_laws_toBlockS xs (by first | assumption | omega) (by first | assumption | omega)) (by first | (simp; done) | (simp [inR_iff]; done) | (simp [inR_iff]; grind) | grind) (fun hG => by simp [go_sem, markE_add]) rfl rfl (by first | exact Or.inl rfl | exact Or.inr rfl) ?_
      simp [go_sem, ty28, ty33, markE_add]
      first | refine h14 _ ?_ | refine ⟨by omega, h14 _ ?_⟩ | refine ⟨by omega, by omega, h14 _ ?_⟩ | (repeat (refine ⟨by first | omega | grind, ?_⟩)); refine h14 _ ?_
      clear h14 K14
      refine W_seqK fun K15 h15 => ?_
      refine W_reg ?_
      simp [go_sem, ty25, ty33, markE_add]
      refine callG_pc (fun hG => pc_laws_toBlock b (by first | assumption | omega)) (by first | (simp; done) | (simp [inR_iff]; done) | (simp [inR_iff]; grind) | grind) (fun hG => by simp [go_sem, markE_add]) rfl rfl (by first | exact Or.inl rfl | exact Or.inr rfl) ?_
      simp [go_sem, ty33, markE_add]
      first | refine h15 _ ?_ | refine ⟨by omega, h15 _ ?_⟩ | refine ⟨by omega, by omega, h15 _ ?_⟩ | (repeat (refine ⟨by first | omega | grind, ?_⟩)); refine h15 _ ?_
      clear h15 K15
      refine W_seqK fun K16 h16 => ?_
      refine W_reg ?_
      simp [go_sem, ty28, ty33, markE_add]
      refine callG_pc (fun hG => pc_impl_CacheAdd xs b (by first | assumption | omega) (by first | assumption | omega) (by first | assumption | omega)) (by first | (simp; done) | (simp [inR_iff]; done) | (simp [inR_iff]; grind) | grind) (fun hG => by simp [go_sem, markE_add]) rfl rfl (by first | exact Or.inl rfl | exact Or.inr rfl) ?_
      simp [go_sem, ty28, ty33, markE_add]
      first | refine h16 _ ?_ | refine ⟨by omega, h16 _ ?_⟩ | refine ⟨by omega, by omega, h16 _ ?_⟩ | (repeat (refine ⟨by first | omega | grind, ?_⟩)); refine h16 _ ?_
      clear h16 K16
      refine W_seqK fun K17 h17 => ?_
      refine W_seqK fun K18 h18 => ?_
      refine W_reg ?_
      simp [go_sem, ty4, ty28, ty33, markE_add]
      refine callG_pc (fun hG => pc_laws_eqBlockS (cacheAdd xs b) (cacheAdd xs b) (by first | assumption | omega) (by first | assumption | omega)) (by first | (simp; done) | (simp [inR_iff]; done) | (simp [inR_iff]; grind) | grind) (fun hG => by simp [go_sem, markE_add]) rfl rfl (by first | exact Or.inl rfl | exact Or.inr rfl) ?_
      simp [go_sem, ty4, markE_add]
      first | refine h18 _ ?_ | refine ⟨by omega, h18 _ ?_⟩ | refine ⟨by omega, by omega, h18 _ ?_⟩ | (repeat (refine ⟨by first | omega | grind, ?_⟩)); refine h18 _ ?_
      clear h18 K18
      refine W_cond rfl (fun hb19 => by first | (simp at hb19; done) | (simp at hb19; omega) | (simp at hb19; exact absurd hb19 (Int.not_lt.2 (markE_nn _ (by omega))))) fun hb19 => ?_
      clear hb19
      refine W_skip ?_
      first | refine h17 _ ?_ | refine ⟨by omega, h17 _ ?_⟩ | refine ⟨by omega, by omega, h17 _ ?_⟩ | (repeat (refine ⟨by first | omega | grind, ?_⟩)); refine h17 _ ?_
      clear h17 K17
      refine W_seqK fun K20 h20 => ?_
      refine W_seqK fun K21 h21 => ?_
      refine W_reg ?_
      simp [go_sem, ty22, ty25, ty28, ty33, markE_add]
      refine callG_pc (fun hG => pc_laws_toBlockS xs (by first | assumption | omega) (by first | assumption | omega)) (by first | (simp; done) | (simp [inR_iff]; done) | (simp [inR_iff]; grind) | grind) (fun hG => by simp [go_sem, markE_add]) rfl rfl (by first | exact Or.inl rfl | exact Or.inr rfl) ?_
      simp [go_sem, ty4, ty28, ty33, markE_add]
      refine callG_pc (fun hG => pc_laws_eqBlockS xs xs (by first | assumption | omega) (by first | assumption | omega)) (by first | (simp; done) | (simp [inR_iff]; done) | (simp [inR_iff]; grind) | grind) (fun hG => by simp [go_sem, markE_add]) rfl rfl (by first | exact Or.inl rfl | exact Or.inr rfl) ?_
      simp [go_sem, ty4, markE_add]
      first | refine h21 _ ?_ | refine ⟨by omega, h21 _ ?_⟩ | refine ⟨by omega, by omega, h21 _ ?_⟩ | (repeat (refine ⟨by first | omega | grind, ?_⟩)); refine h21 _ ?_
      clear h21 K21
      refine W_cond rfl (fun hb22 => by first | (simp at hb22; done) | (simp at hb22; omega) | (simp at hb22; exact absurd hb22 (Int.not_lt.2 (markE_nn _ (by omega))))) fun hb22 => ?_
      clear hb22
      refine W_skip ?_
      first | refine h20 _ ?_ | refine ⟨by omega, h20 _ ?_⟩ | refine ⟨by omega, by omega, h20 _ ?_⟩ | (repeat (refine ⟨by first | omega | grind, ?_⟩)); refine h20 _ ?_
      clear h20 K20
      refine W_seqK fun K23 h23 => ?_
      refine W_seqK fun K24 h24 => ?_
      refine W_drawT true mixed (by decide +kernel) ?_
      simp [go_sem, ty25, ty33, markE_add]
      refine callG_pc (fun hG => pc_laws_toBlock b (by first | assumption | omega)) (by first | (simp; done) | (simp [inR_iff]; done) | (simp [inR_iff]; grind) | grind) (fun hG => by simp [go_sem, markE_add]) rfl rfl (by first | exact Or.inl rfl | exact Or.inr rfl) ?_
      simp [go_sem, ty4, ty33, markE_add]
      refine callG_pc (fun hG => pc_laws_eqBlock b b (by first | assumption | omega)) (by first | (simp; done) | (simp [inR_iff]; done) | (simp [inR_iff]; grind) | grind) (fun hG => by simp [go_sem, markE_add]) rfl rfl (by first | exact Or.inl rfl | exact Or.inr rfl) ?_
      simp [go_sem, ty4, markE_add]
      first | refine h24 _ ?_ | refine ⟨by omega, h24 _ ?_⟩ | refine ⟨by omega, by omega, h24 _ ?_⟩ | (repeat (refine ⟨by first | omega | grind, ?_⟩)); refine h24 _ ?_
      clear h24 K24
      refine W_cond rfl (fun hb25 => by first | (simp at hb25; done) | (simp at hb25; omega) | (simp at hb25; exact absurd hb25 (Int.not_lt.2 (markE_nn _ (by omega))))) fun hb25 => ?_
      clear hb25
      refine W_skip ?_
      first | refine h23 _ ?_ | refine ⟨by omega, h23 _ ?_⟩ | refine ⟨by omega, by omega, h23 _ ?_⟩ | (repeat (refine ⟨by first | omega | grind, ?_⟩)); refine h23 _ ?_
      clear h23 K23
      refine W_seqK fun K26 h26 => ?_
      refine W_reg ?_
      simp [go_sem, ty3, markE_add]
      first | refine h26 _ ?_ | refine ⟨by omega, h26 _ ?_⟩ | refine ⟨by omega, by omega, h26 _ ?_⟩ | (repeat (refine ⟨by first | omega | grind, ?_⟩)); refine h26 _ ?_
      clear h26 K26
      refine W_seqK fun K27 h27 => ?_
      refine W_reg ?_
      simp [go_sem, ty3, ty28, ty33, markE_add]
      refine callG_true (by simp) (CallW_mut (mc_laws_markBlockS xs 1 (by first | assumption | omega) (by first | assumption | omega)) rfl rfl rfl (by simp [go_sem, markE_add]) rfl ?_)
      simp [go_sem, ty3, markE_add]
      first | refine h27 _ ?_ | refine ⟨by omega, h27 _ ?_⟩ | refine ⟨by omega, by omega, h27 _ ?_⟩ | (repeat (refine ⟨by first | omega | grind, ?_⟩)); refine h27 _ ?_
      clear h27 K27
      refine W_seqK fun K28 h28 => ?_
      refine W_reg ?_
      simp [go_sem, ty3, ty33, markE_add]
      refine callG_true (by simp) (CallW_inline (n := 10) Try.func20 rfl rfl rfl rfl (by simp) fun a_ => ?_)
      refine W_seqK fun K29 h29 => ?_
      refine W_reg ?_
      simp [go_sem, ty3, ty33, markE_add]
      first | refine h29 _ ?_ | refine ⟨by omega, h29 _ ?_⟩ | refine ⟨by omega, by omega, h29 _ ?_⟩ | (repeat (refine ⟨by first | omega | grind, ?_⟩)); refine h29 _ ?_
      clear h29 K29
      refine W_seqK fun K30 h30 => ?_
      refine W_reg ?_
      simp [go_sem, ty3, ty31, ty33, ty123, markE_add]
      refine callG_true (by simp) (CallW_mut (mc_laws_markInsS b.list (markE 1 ((xs.map nBlock).sum)) (by first | assumption | omega)) rfl rfl rfl (by simp [go_sem, markE_add]) rfl ?_)
      simp [go_sem, ty3, markE_add]
      first | refine h30 _ ?_ | refine ⟨by omega, h30 _ ?_⟩ | refine ⟨by omega, by omega, h30 _ ?_⟩ | (repeat (refine ⟨by first | omega | grind, ?_⟩)); refine h30 _ ?_
      clear h30 K30
      refine W_seqK fun K31 h31 => ?_
      refine W_reg ?_
      simp [go_sem, ty3, markE_add]
      first | refine h31 _ ?_ | refine ⟨by omega, h31 _ ?_⟩ | refine ⟨by omega, by omega, h31 _ ?_⟩ | (repeat (refine ⟨by first | omega | grind, ?_⟩)); refine h31 _ ?_
      clear h31 K31
      refine W_ret ?_
      simp [go_sem]
      refine ⟨_, _, ⟨rfl, rfl⟩, ?_⟩
      simp [go_sem, ty3, markE_add]
      first | refine h28 _ ?_ | refine ⟨by omega, h28 _ ?_⟩ | refine ⟨by omega, by omega, h28 _ ?_⟩ | (repeat (refine ⟨by first | omega | grind, ?_⟩)); refine h28 _ ?_
      clear h28 K28
      refine W_seqK fun K32 h32 => ?_
      refine W_seqK fun K33 h33 => ?_
      refine W_reg ?_
      simp [go_sem, ty3, ty4, ty28, ty33, markE_add]
      refine callG_pc (fun hG => pc_laws_eqBlockS (cacheAdd xs b) (cacheAdd xs b) (by first | assumption | omega) (by first | assumption | omega)) (by first | (simp; done) | (simp [inR_iff]; done) | (simp [inR_iff]; grind) | grind) (fun hG => by simp [go_sem, markE_add]) rfl rfl (by first | exact Or.inl rfl | exact Or.inr rfl) ?_
      simp [go_sem, ty4, markE_add]
      first | refine h33 _ ?_ | refine ⟨by omega, h33 _ ?_⟩ | refine ⟨by omega, by omega, h33 _ ?_⟩ | (repeat (refine ⟨by first | omega | grind, ?_⟩)); refine h33 _ ?_
      clear h33 K33
      refine W_cond rfl (fun hb34 => by first | (simp at hb34; done) | (simp at hb34; omega) | (simp at hb34; exact absurd hb34 (Int.not_lt.2 (markE_nn _ (by omega))))) fun hb34 => ?_
      clear hb34
      refine W_skip ?_
      first | refine h32 _ ?_ | refine ⟨by omega, h32 _ ?_⟩ | refine ⟨by omega, by omega, h32 _ ?_⟩ | (repeat (refine ⟨by first | omega | grind, ?_⟩)); refine h32 _ ?_
      clear h32 K32
      refine W_seqK fun K35 h35 => ?_
      refine W_reg ?_
      simp [go_sem, ty3, markE_add]
      first | refine h35 _ ?_ | refine ⟨by omega, h35 _ ?_⟩ | refine ⟨by omega, by omega, h35 _ ?_⟩ | (repeat (refine ⟨by first | omega | grind, ?_⟩)); refine h35 _ ?_
      clear h35 K35
      refine W_seqK fun K36 h36 => ?_
      refine W_reg ?_
      simp [go_sem, ty3, ty28, ty33, markE_add]
      refine callG_true (by simp) (CallW_mut (mc_laws_markBlockS (cacheAdd xs b) 1 (by first | assumption | omega) (by first | assumption | omega)) rfl rfl rfl (by simp [go_sem, markE_add]) rfl ?_)
      simp [go_sem, ty3, markE_add]
      first | refine h36 _ ?_ | refine ⟨by omega, h36 _ ?_⟩ | refine ⟨by omega, by omega, h36 _ ?_⟩ | (repeat (refine ⟨by first | omega | grind, ?_⟩)); refine h36 _ ?_
      clear h36 K36
      refine W_seqK fun K37 h37 => ?_
      refine W_reg ?_
      simp [go_sem, ty3, markE_add]
      first | refine h37 _ ?_ | refine ⟨by omega, h37 _ ?_⟩ | refine ⟨by omega, by omega, h37 _ ?_⟩ | (repeat (refine ⟨by first | omega | grind, ?_⟩)); refine h37 _ ?_
      clear h37 K37
      refine W_seqK fun K38 h38 => ?_
      refine W_reg ?_
      simp [go_sem, ty3, ty28, ty33, markE_add]
      refine callG_pc (fun hG => pc_laws_heldBlockS (cacheAdd xs b) 1 (by first | assumption | omega) (by first | assumption | omega) (fun m hm => by (try simp only [nvMsg, nvSender, nvPacket, nvFrame, nvHome, nvNode, nvWorld, nvHart, nvBlock, nvCore, nvFlock] at hm); first | exact hp m (by omega) | (rw [markE_add]; exact hp _ (by omega)) | exact markE_nn m (by omega) | (rw [markE_add]; exact markE_nn _ (by omega)))) (by first | (simp; done) | (simp [inR_iff]; done) | (simp [inR_iff]; grind) | grind) (fun hG => by simp [go_sem, markE_add]) rfl rfl (by first | exact Or.inl rfl | exact Or.inr rfl) ?_
      simp [go_sem, ty3, markE_add]
      first | refine h38 _ ?_ | refine ⟨by omega, h38 _ ?_⟩ | refine ⟨by omega, by omega, h38 _ ?_⟩ | (repeat (refine ⟨by first | omega | grind, ?_⟩)); refine h38 _ ?_
      clear h38 K38
      refine W_seqK fun K39 h39 => ?_
      refine W_seqK fun K40 h40 => ?_
      refine W_reg ?_
      simp [go_sem, ty3, ty4, markE_add]
      first | refine h40 _ ?_ | refine ⟨by omega, h40 _ ?_⟩ | refine ⟨by omega, by omega, h40 _ ?_⟩ | (repeat (refine ⟨by first | omega | grind, ?_⟩)); refine h40 _ ?_
      clear h40 K40
      refine W_cond rfl (fun hb41 => by first | (simp at hb41; done) | (simp at hb41; omega) | (simp at hb41; exact absurd hb41 (Int.not_lt.2 (markE_nn _ (by omega))))) fun hb41 => ?_
      clear hb41
      refine W_skip ?_
      first | refine h39 _ ?_ | refine ⟨by omega, h39 _ ?_⟩ | refine ⟨by omega, by omega, h39 _ ?_⟩ | (repeat (refine ⟨by first | omega | grind, ?_⟩)); refine h39 _ ?_
      clear h39 K39
      refine W_seqK fun K42 h42 => ?_
      refine W_seqK fun K43 h43 => ?_
      refine W_reg ?_
      simp [go_sem, ty3, ty4, markE_add]
      first | refine h43 _ ?_ | refine ⟨by omega, h43 _ ?_⟩ | refine ⟨by omega, by omega, h43 _ ?_⟩ | (repeat (refine ⟨by first | omega | grind, ?_⟩)); refine h43 _ ?_
      clear h43 K43
      refine W_cond rfl (fun hb44 => by first | (simp at hb44; done) | (simp at hb44; omega) | (simp at hb44; exact absurd hb44 (Int.not_lt.2 (markE_nn _ (by omega))))) fun hb44 => ?_
      clear hb44
      refine W_skip ?_
      first | refine h42 _ ?_ | refine ⟨by omega, h42 _ ?_⟩ | refine ⟨by omega, by omega, h42 _ ?_⟩ | (repeat (refine ⟨by first | omega | grind, ?_⟩)); refine h42 _ ?_
      clear h42 K42
      refine W_seqK fun K45 h45 => ?_
      refine W_drawO true [0, 2, 1, 3, 4, 5] mixed (by decide +kernel) ?_
      simp [go_sem, ty22, ty25, ty28, ty33, markE_add]
      refine callG_pc (fun hG => pc_laws_toBlockS xs (by first | assumption | omega) (by first | assumption | omega)) (by first | (simp; done) | (simp [inR_iff]; done) | (simp [inR_iff]; grind) | grind) (fun hG => by simp [go_sem, markE_add]) rfl rfl (by first | exact Or.inl rfl | exact Or.inr rfl) ?_
      simp [go_sem, ty25, ty33, markE_add]
      refine callG_pc (fun hG => pc_laws_toBlock b (by first | assumption | omega)) (by first | (simp; done) | (simp [inR_iff]; done) | (simp [inR_iff]; grind) | grind) (fun hG => by simp [go_sem, markE_add]) rfl rfl (by first | exact Or.inl rfl | exact Or.inr rfl) ?_
      simp [go_sem, ty28, ty33, markE_add]
      refine callG_pc (fun hG => pc_impl_CacheAdd xs b (by first | assumption | omega) (by first | assumption | omega) (by first | assumption | omega)) (by first | (simp; done) | (simp [inR_iff]; done) | (simp [inR_iff]; grind) | grind) (fun hG => by simp [go_sem, markE_add]) rfl rfl (by first | exact Or.inl rfl | exact Or.inr rfl) ?_
      simp [go_sem, ty28, ty33, markE_add]
      first | refine h45 _ ?_ | refine ⟨by omega, h45 _ ?_⟩ | refine ⟨by omega, by omega, h45 _ ?_⟩ | (repeat (refine ⟨by first | omega | grind, ?_⟩)); refine h45 _ ?_
      clear h45 K45
      refine W_seqK fun K46 h46 => ?_
      refine W_seqK fun K47 h47 => ?_
      refine W_reg ?_
      simp [go_sem, ty4, ty28, ty33, markE_add]
      refine callG_pc (fun hG => pc_laws_eqBlockS (cacheAdd xs b) (cacheAdd xs b) (by first | assumption | omega) (by first | assumption | omega)) (by first | (simp; done) | (simp [inR_iff]; done) | (simp [inR_iff]; grind) | grind) (fun hG => by simp [go_sem, markE_add]) rfl rfl (by first | exact Or.inl rfl | exact Or.inr rfl) ?_
      simp [go_sem, ty4, markE_add]
      first | refine h47 _ ?_ | refine ⟨by omega, h47 _ ?_⟩ | refine ⟨by omega, by omega, h47 _ ?_⟩ | (repeat (refine ⟨by first | omega | grind, ?_⟩)); refine h47 _ ?_
      clear h47 K47
      refine W_cond rfl (fun hb48 => by first | (simp at hb48; done) | (simp at hb48; omega) | (simp at hb48; exact absurd hb48 (Int.not_lt.2 (markE_nn _ (by omega))))) fun hb48 => ?_
      clear hb48
      refine W_skip ?_
      first | refine h46 _ ?_ | refine ⟨by omega, h46 _ ?_⟩ | refine ⟨by omega, by omega, h46 _ ?_⟩ | (repeat (refine ⟨by first | omega | grind, ?_⟩)); refine h46 _ ?_
      clear h46 K46
      refine W_seqK fun K49 h49 => ?_
      refine W_reg ?_
      simp [go_sem, ty3, markE_add]
      first | refine h49 _ ?_ | refine ⟨by omega, h49 _ ?_⟩ | refine ⟨by omega, by omega, h49 _ ?_⟩ | (repeat (refine ⟨by first | omega | grind, ?_⟩)); refine h49 _ ?_
      clear h49 K49
      refine W_seqK fun K50 h50 => ?_
      refine W_reg ?_
      simp [go_sem, ty3, ty28, ty33, markE_add]
      refine callG_pc (fun hG => pc_laws_heldBlockS (cacheAdd xs b) 1 (by first | assumption | omega) (by first | assumption | omega) (fun m hm => by (try simp only [nvMsg, nvSender, nvPacket, nvFrame, nvHome, nvNode, nvWorld, nvHart, nvBlock, nvCore, nvFlock] at hm); first | exact hp m (by omega) | (rw [markE_add]; exact hp _ (by omega)) | exact markE_nn m (by omega) | (rw [markE_add]; exact markE_nn _ (by omega)))) (by first | (simp; done) | (simp [inR_iff]; done) | (simp [inR_iff]; grind) | grind) (fun hG => by simp [go_sem, markE_add]) rfl rfl (by first | exact Or.inl rfl | exact Or.inr rfl) ?_
      simp [go_sem, ty3, markE_add]
      first | refine h50 _ ?_ | refine ⟨by omega, h50 _ ?_⟩ | refine ⟨by omega, by omega, h50 _ ?_⟩ | (repeat (refine ⟨by first | omega | grind, ?_⟩)); refine h50 _ ?_
      clear h50 K50
      refine W_seqK fun K51 h51 => ?_
      refine W_seqK fun K52 h52 => ?_
      refine W_reg ?_
      simp [go_sem, ty3, ty4, markE_add]
      first | refine h52 _ ?_ | refine ⟨by omega, h52 _ ?_⟩ | refine ⟨by omega, by omega, h52 _ ?_⟩ | (repeat (refine ⟨by first | omega | grind, ?_⟩)); refine h52 _ ?_
      clear h52 K52
      refine W_cond rfl (fun hb53 => by first | (simp at hb53; done) | (simp at hb53; omega) | (simp at hb53; exact absurd hb53 (Int.not_lt.2 (markE_nn _ (by omega))))) fun hb53 => ?_
      clear hb53
      refine W_skip ?_
      first | refine h51 _ ?_ | refine ⟨by omega, h51 _ ?_⟩ | refine ⟨by omega, by omega, h51 _ ?_⟩ | (repeat (refine ⟨by first | omega | grind, ?_⟩)); refine h51 _ ?_
      clear h51 K51
      refine W_seqK fun K54 h54 => ?_
      refine W_seqK fun K55 h55 => ?_
      refine W_reg ?_
      simp [go_sem, ty3, ty4, markE_add]
      first | refine h55 _ ?_ | refine ⟨by omega, h55 _ ?_⟩ | refine ⟨by omega, by omega, h55 _ ?_⟩ | (repeat (refine ⟨by first | omega | grind, ?_⟩)); refine h55 _ ?_
      clear h55 K55
      refine W_cond rfl (fun hb56 => by first | (simp at hb56; done) | (simp at hb56; omega) | (simp at hb56; exact absurd hb56 (Int.not_lt.2 (markE_nn _ (by omega))))) fun hb56 => ?_
      clear hb56
      refine W_skip ?_
      first | refine h54 _ ?_ | refine ⟨by omega, h54 _ ?_⟩ | refine ⟨by omega, by omega, h54 _ ?_⟩ | (repeat (refine ⟨by first | omega | grind, ?_⟩)); refine h54 _ ?_
      clear h54 K54
      refine W_seqK fun K57 h57 => ?_
      refine W_reg ?_
      simp [go_sem, ty4, markE_add]
      first | refine h57 _ ?_ | refine ⟨by omega, h57 _ ?_⟩ | refine ⟨by omega, by omega, h57 _ ?_⟩ | (repeat (refine ⟨by first | omega | grind, ?_⟩)); refine h57 _ ?_
      clear h57 K57
      refine W_ret ?_
      simp [go_sem]
end Go.Tw
