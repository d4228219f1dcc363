/- Walks of functions: laws.FnPurgedTwice -/
import Derived.Test.YtfjoibkopjdomaaE6N
import Derived.Test.YtfjoibkopjdomaaE6F
import Derived.Test.YtfjoibkopjdomaaE6K
import Derived.Test.YtfjoibkopjdomaaE6k
set_option linter.unusedSimpArgs false
set_option linter.unusedVariables false
set_option linter.unnecessarySimpa false
namespace Go.Tw
open Go.Proofs

set_option maxRecDepth 100000 in
set_option maxHeartbeats 4000000 in
theorem pc_laws_FnPurgedTwice (code : List Int)  : PC Try.prog 7 [(false, [.sl 1 (enc eU code)])] [(false, [.bool true])] := by
  refine PC_of (n := 80) Try.func7 rfl rfl rfl rfl (by simp) ?_
  refine W_seqK fun K1 h1 => ?_
  refine W_reg ?_
  simp [go_sem, ty4]
  first | refine h1 _ ?_ | refine ⟨by omega, h1 _ ?_⟩ | refine ⟨by omega, by omega, h1 _ ?_⟩ | (repeat (refine ⟨by first | omega | grind, ?_⟩)); refine h1 _ ?_
  clear h1 K1
  refine W_seqK fun K2 h2 => ?_
  refine W_seqK fun K3 h3 => ?_
  refine W_reg ?_
  simp [go_sem, ty4, ty5, ty22]
  refine callG_pc (fun hG => pc_laws_big code) (by first | (simp; done) | (simp [inR_iff]; done) | (simp [inR_iff]; grind) | grind) (fun hG => by simp [go_sem]) rfl rfl (by first | exact Or.inl rfl | exact Or.inr rfl) ?_
  simp [go_sem]
  first | refine h3 _ ?_ | refine ⟨by omega, h3 _ ?_⟩ | refine ⟨by omega, by omega, h3 _ ?_⟩ | (repeat (refine ⟨by first | omega | grind, ?_⟩)); refine h3 _ ?_
  clear h3 K3
  refine W_cond rfl (fun hb4 => ?_) fun hb4 => ?_
  · skip
    refine W_seqK fun K5 h5 => ?_
    refine W_reg ?_
    simp [go_sem, ty4]
    first | refine h5 _ ?_ | refine ⟨by omega, h5 _ ?_⟩ | refine ⟨by omega, by omega, h5 _ ?_⟩ | (repeat (refine ⟨by first | omega | grind, ?_⟩)); refine h5 _ ?_
    clear h5 K5
    refine W_ret ?_
    simp [go_sem]
  · first | have hs4 := szL_pos hb4 | simp at hb4
    refine W_skip ?_
    first | refine h2 _ ?_ | refine ⟨by omega, h2 _ ?_⟩ | refine ⟨by omega, by omega, h2 _ ?_⟩ | (repeat (refine ⟨by first | omega | grind, ?_⟩)); refine h2 _ ?_
    clear h2 K2
    refine W_seqK fun K6 h6 => ?_
    refine W_reg ?_
    simp [go_sem, ty5, ty22]
    refine callG_true (by simp) (CallW_E (pe_spec_DrawPurge code (by first | first | assumption | omega | (simp; done) | (simp; omega))) (by simp [go_sem]) _ (fun _ => rfl) rfl ?_)
    rintro ⟨l7, n7⟩ hq7
    try dsimp only at hq7
    obtain ⟨hfP, hlP⟩ := hq7
    have hsP : ∀ a ∈ l7, a.small := fun a ha => (hfP a ha).small
    have hsPP : ∀ a ∈ purge l7 n7, a.small := fun a ha => hsP a (purge_mem ha)
    have hlPP := purge_len l7 n7
    have hsP3 : ∀ a ∈ purge (purge l7 n7) n7, a.small := fun a ha => hsPP a (purge_mem ha)
    have hlP3 := purge_len (purge l7 n7) n7
    simp [go_sem, ty3, ty56, ty62]
    first | refine h6 _ ?_ | refine ⟨by omega, h6 _ ?_⟩ | refine ⟨by omega, by omega, h6 _ ?_⟩ | (repeat (refine ⟨by first | omega | grind, ?_⟩)); refine h6 _ ?_
    clear h6 K6
    refine W_seqK fun K8 h8 => ?_
    refine W_reg ?_
    simp [go_sem, ty3, ty56, ty62]
    refine callG_pc (fun hG => pc_impl_Purge l7 n7 (by first | assumption | omega) (by first | assumption | omega)) (by first | (simp; done) | (simp [inR_iff]; done) | (simp [inR_iff]; grind) | grind) (fun hG => by simp [go_sem]) rfl rfl (by first | exact Or.inl rfl | exact Or.inr rfl) ?_
    simp [go_sem, ty56, ty62]
    first | refine h8 _ ?_ | refine ⟨by omega, h8 _ ?_⟩ | refine ⟨by omega, by omega, h8 _ ?_⟩ | (repeat (refine ⟨by first | omega | grind, ?_⟩)); refine h8 _ ?_
    clear h8 K8
    refine W_seqK fun K9 h9 => ?_
    refine W_reg ?_
    simp [go_sem, ty5, ty22]
    refine callG_true (by simp) (CallW_E (pe_spec_DrawCacheAdd code (by first | first | assumption | omega | (simp; done) | (simp; omega))) (by simp [go_sem]) _ (fun _ => rfl) rfl ?_)
    rintro ⟨l10, b10⟩ hq10
    try dsimp only at hq10
    obtain ⟨hfA, hlA, hbf⟩ := hq10
    have hsA : ∀ a ∈ l10, a.small := fun a ha => (hfA a ha).small
    have hbA : b10.small := hbf.small
    have hbA2 : b10.list.length ≤ 1048576 := by unfold GBlock.few at hbf; omega
    have hsC : ∀ a ∈ cacheAdd l10 b10, a.small := fun a ha => by rcases cacheAdd_mem ha with h | rfl; exact hsA a h; exact hbA
    have hlC := cacheAdd_le l10 b10
    simp [go_sem, ty56, ty62]
    first | refine h9 _ ?_ | refine ⟨by omega, h9 _ ?_⟩ | refine ⟨by omega, by omega, h9 _ ?_⟩ | (repeat (refine ⟨by first | omega | grind, ?_⟩)); refine h9 _ ?_
    clear h9 K9
    refine W_seqK fun K11 h11 => ?_
    refine W_reg ?_
    simp [go_sem, ty56, ty62]
    refine callG_pc (fun hG => pc_impl_CacheAdd l10 b10 (by first | assumption | omega) (by first | assumption | omega) (by first | assumption | omega)) (by first | (simp; done) | (simp [inR_iff]; done) | (simp [inR_iff]; grind) | grind) (fun hG => by simp [go_sem]) rfl rfl (by first | exact Or.inl rfl | exact Or.inr rfl) ?_
    simp [go_sem, ty56, ty62]
    first | refine h11 _ ?_ | refine ⟨by omega, h11 _ ?_⟩ | refine ⟨by omega, by omega, h11 _ ?_⟩ | (repeat (refine ⟨by first | omega | grind, ?_⟩)); refine h11 _ ?_
    clear h11 K11
    refine W_seqK fun K12 h12 => ?_
    refine W_seqK fun K13 h13 => ?_
    refine W_reg ?_
    simp [go_sem, ty3, ty56, ty62, purge_purge]
    refine callG_pc (fun hG => pc_spec_Purge l7 n7 (by first | assumption | omega) (by first | assumption | omega)) (by first | (simp; done) | (simp [inR_iff]; done) | (simp [inR_iff]; grind) | grind) (fun hG => by simp [go_sem]) rfl rfl (by first | exact Or.inl rfl | exact Or.inr rfl) ?_
    simp [go_sem, ty4, ty56, ty62, purge_purge]
    refine callG_pc (fun hG => pc_laws_sameBlocks (purge l7 n7) (purge l7 n7) (by first | assumption | omega) (by first | assumption | omega)) (by first | (simp; done) | (simp [inR_iff]; done) | (simp [inR_iff]; grind) | grind) (fun hG => by simp [go_sem]) rfl rfl (by first | exact Or.inl rfl | exact Or.inr rfl) ?_
    simp [go_sem, ty3, ty4, ty56, ty62, purge_purge]
    refine callG_pc (fun hG => pc_impl_Purge (purge l7 n7) n7 (by first | assumption | omega) (by first | assumption | omega)) (by first | (simp; done) | (simp [inR_iff]; done) | (simp [inR_iff]; grind) | grind) (fun hG => by simp [go_sem]) rfl rfl (by first | exact Or.inl rfl | exact Or.inr rfl) ?_
    simp [go_sem, ty4, ty56, ty62, purge_purge]
    refine callG_pc (fun hG => pc_laws_sameBlocks (purge (purge l7 n7) n7) (purge l7 n7) (by first | assumption | omega) (by first | assumption | omega)) (by first | (simp; done) | (simp [inR_iff]; done) | (simp [inR_iff]; grind) | grind) (fun hG => by simp [go_sem, purge_purge]) rfl rfl (by first | exact Or.inl rfl | exact Or.inr rfl) ?_
    simp [go_sem, ty4, ty56, ty62, purge_purge]
    refine callG_pc (fun hG => pc_spec_CacheAdd l10 b10 (by first | assumption | omega) (by first | assumption | omega) (by first | assumption | omega)) (by first | (simp; done) | (simp [inR_iff]; done) | (simp [inR_iff]; grind) | grind) (fun hG => by simp [go_sem]) rfl rfl (by first | exact Or.inl rfl | exact Or.inr rfl) ?_
    simp [go_sem, ty4, ty56, ty62, purge_purge]
    refine callG_pc (fun hG => pc_laws_sameBlocks (cacheAdd l10 b10) (cacheAdd l10 b10) (by first | assumption | omega) (by first | assumption | omega)) (by first | (simp; done) | (simp [inR_iff]; done) | (simp [inR_iff]; grind) | grind) (fun hG => by simp [go_sem]) rfl rfl (by first | exact Or.inl rfl | exact Or.inr rfl) ?_
    simp [go_sem, ty4, purge_purge]
    first | refine h13 _ ?_ | refine ⟨by omega, h13 _ ?_⟩ | refine ⟨by omega, by omega, h13 _ ?_⟩ | (repeat (refine ⟨by first | omega | grind, ?_⟩)); refine h13 _ ?_
    clear h13 K13
    refine W_cond rfl (fun hb14 => by first | (simp at hb14; done) | (simp at hb14; omega)) fun hb14 => ?_
    clear hb14
    refine W_skip ?_
    first | refine h12 _ ?_ | refine ⟨by omega, h12 _ ?_⟩ | refine ⟨by omega, by omega, h12 _ ?_⟩ | (repeat (refine ⟨by first | omega | grind, ?_⟩)); refine h12 _ ?_
    clear h12 K12
    refine W_seqK fun K15 h15 => ?_
    refine W_seqK fun K16 h16 => ?_
    refine W_reg ?_
    simp [go_sem, ty4, ty62]
    refine callG_pc (fun hG => pc_impl_BlockOk b10 (by first | assumption | omega)) (by first | (simp; done) | (simp [inR_iff]; done) | (simp [inR_iff]; grind) | grind) (fun hG => by simp [go_sem]) rfl rfl (by first | exact Or.inl rfl | exact Or.inr rfl) ?_
    simp [go_sem, ty4]
    first | refine h16 _ ?_ | refine ⟨by omega, h16 _ ?_⟩ | refine ⟨by omega, by omega, h16 _ ?_⟩ | (repeat (refine ⟨by first | omega | grind, ?_⟩)); refine h16 _ ?_
    clear h16 K16
    refine W_cond rfl (fun hb17 => ?_) fun hb17 => ?_
    · have hb0 : blockOk b10 = false := by simpa using hb17
      have w1 := cacheAdd_no (l := l10) hb0
      clear hb17
      refine W_seqK fun K18 h18 => ?_
      refine W_reg ?_
      simp [go_sem, ty4, ty56, ty62, w1]
      refine callG_pc (fun hG => pc_laws_sameBlocks (cacheAdd l10 b10) l10 (by first | assumption | omega) (by first | assumption | omega)) (by first | (simp; done) | (simp [inR_iff]; done) | (simp [inR_iff]; grind) | grind) (fun hG => by simp [go_sem, w1]) rfl rfl (by first | exact Or.inl rfl | exact Or.inr rfl) ?_
      simp [go_sem, ty4, w1]
      first | refine h18 _ ?_ | refine ⟨by omega, h18 _ ?_⟩ | refine ⟨by omega, by omega, h18 _ ?_⟩ | (repeat (refine ⟨by first | omega | grind, ?_⟩)); refine h18 _ ?_
      clear h18 K18
      refine W_ret ?_
      simp [go_sem, w1]
    · have hb1 : blockOk b10 = true := by simpa using hb17
      have w1 := added_found (l := l10) hb1
      have w2 := added_len (l := l10) hb1
      clear hb17
      refine W_skip ?_
      first | refine h15 _ ?_ | refine ⟨by omega, h15 _ ?_⟩ | refine ⟨by omega, by omega, h15 _ ?_⟩ | (repeat (refine ⟨by first | omega | grind, ?_⟩)); refine h15 _ ?_
      clear h15 K15
      refine W_seqK fun K19 h19 => ?_
      refine W_reg ?_
      simp [go_sem, ty3, ty56, ty62, w1]
      refine callG_pc (fun hG => pc_impl_CacheFind (cacheAdd l10 b10) b10.start (by first | assumption | omega) (by first | assumption | omega)) (by first | (simp; done) | (simp [inR_iff]; done) | (simp [inR_iff]; grind) | grind) (fun hG => by simp [go_sem]) rfl rfl (by first | exact Or.inl rfl | exact Or.inr rfl) ?_
      simp [go_sem, ty4, ty69, w1]
      first | refine h19 _ ?_ | refine ⟨by omega, h19 _ ?_⟩ | refine ⟨by omega, by omega, h19 _ ?_⟩ | (repeat (refine ⟨by first | omega | grind, ?_⟩)); refine h19 _ ?_
      clear h19 K19
      refine W_seqK fun K20 h20 => ?_
      refine W_reg ?_
      simp [go_sem, ty3, ty4, ty56, ty62]
      first | refine h20 _ ?_ | refine ⟨by omega, h20 _ ?_⟩ | refine ⟨by omega, by omega, h20 _ ?_⟩ | (repeat (refine ⟨by first | omega | grind, ?_⟩)); refine h20 _ ?_
      clear h20 K20
      refine W_ret ?_
      simp [go_sem, w1]
      grind
end Go.Tw
