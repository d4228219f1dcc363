/- Walks of functions: laws.FnCaches -/
import Derived.Test.YtfjoibkopjdomaaE6N
import Derived.Test.YtfjoibkopjdomaaE6F
import Derived.Test.YtfjoibkopjdomaaE6K
import Derived.Test.YtfjoibkopjdomaaE6k
import Derived.Test.YtfjoibkopjdomaaE6Q
set_option linter.unusedSimpArgs false
set_option linter.unusedVariables false
set_option linter.unnecessarySimpa false
namespace Go.Tw
open Go.Proofs

set_option maxRecDepth 100000 in
set_option maxHeartbeats 4000000 in
theorem pc_laws_FnCaches (code : List Int)  : PC Try.prog 8 [(false, [.sl 1 (enc eU code)])] [(false, [.bool true])] := by
  refine PC_of (n := 137) Try.func8 rfl rfl rfl rfl (by simp) ?_
  refine W_seqK fun K1 h1 => ?_
  refine W_reg ?_
  simp [go_sem, ty4]
  first | refine h1 _ ?_ | refine ⟨by omega, h1 _ ?_⟩ | refine ⟨by omega, by omega, h1 _ ?_⟩ | (repeat (refine ⟨by first | omega | grind, ?_⟩)); refine h1 _ ?_
  clear h1 K1
  refine W_seqK fun K2 h2 => ?_
  refine W_seqK fun K3 h3 => ?_
  refine W_reg ?_
  simp [go_sem, ty4, ty5, ty22]
  refine callG_pc (fun hG => pc_laws_big code) (by first | (simp; done) | (simp [inR_iff]; done) | (simp [inR_iff]; grind) | grind) (fun hG => by simp [go_sem]) rfl rfl (by first | exact Or.inl rfl | exact Or.inr rfl) ?_
  simp [go_sem]
  first | refine h3 _ ?_ | refine ⟨by omega, h3 _ ?_⟩ | refine ⟨by omega, by omega, h3 _ ?_⟩ | (repeat (refine ⟨by first | omega | grind, ?_⟩)); refine h3 _ ?_
  clear h3 K3
  refine W_cond rfl (fun hb4 => ?_) fun hb4 => ?_
  · skip
    refine W_seqK fun K5 h5 => ?_
    refine W_reg ?_
    simp [go_sem, ty4]
    first | refine h5 _ ?_ | refine ⟨by omega, h5 _ ?_⟩ | refine ⟨by omega, by omega, h5 _ ?_⟩ | (repeat (refine ⟨by first | omega | grind, ?_⟩)); refine h5 _ ?_
    clear h5 K5
    refine W_ret ?_
    simp [go_sem]
  · first | have hs4 := szL_pos hb4 | simp at hb4
    refine W_skip ?_
    first | refine h2 _ ?_ | refine ⟨by omega, h2 _ ?_⟩ | refine ⟨by omega, by omega, h2 _ ?_⟩ | (repeat (refine ⟨by first | omega | grind, ?_⟩)); refine h2 _ ?_
    clear h2 K2
    refine W_seqK fun K6 h6 => ?_
    refine W_reg ?_
    simp [go_sem, ty5, ty22]
    refine callG_true (by simp) (CallW_E (pe_spec_DrawCacheAdd code (by first | first | assumption | omega | (simp; done) | (simp; omega))) (by simp [go_sem]) _ (fun _ => rfl) rfl ?_)
    rintro ⟨l7, b7⟩ hq7
    try dsimp only at hq7
    obtain ⟨hfA, hlA, hbf⟩ := hq7
    have hsA : ∀ a ∈ l7, a.small := fun a ha => (hfA a ha).small
    have hbA : b7.small := hbf.small
    have hbA2 : b7.list.length ≤ 1048576 := by unfold GBlock.few at hbf; omega
    have hsC : ∀ a ∈ cacheAdd l7 b7, a.small := fun a ha => by rcases cacheAdd_mem ha with h | rfl; exact hsA a h; exact hbA
    have hlC := cacheAdd_le l7 b7
    simp [go_sem, ty56, ty62]
    first | refine h6 _ ?_ | refine ⟨by omega, h6 _ ?_⟩ | refine ⟨by omega, by omega, h6 _ ?_⟩ | (repeat (refine ⟨by first | omega | grind, ?_⟩)); refine h6 _ ?_
    clear h6 K6
    refine W_seqK fun K8 h8 => ?_
    refine W_reg ?_
    simp [go_sem, ty56, ty62]
    refine callG_pc (fun hG => pc_impl_CacheAdd l7 b7 (by first | assumption | omega) (by first | assumption | omega) (by first | assumption | omega)) (by first | (simp; done) | (simp [inR_iff]; done) | (simp [inR_iff]; grind) | grind) (fun hG => by simp [go_sem]) rfl rfl (by first | exact Or.inl rfl | exact Or.inr rfl) ?_
    simp [go_sem, ty56, ty62]
    first | refine h8 _ ?_ | refine ⟨by omega, h8 _ ?_⟩ | refine ⟨by omega, by omega, h8 _ ?_⟩ | (repeat (refine ⟨by first | omega | grind, ?_⟩)); refine h8 _ ?_
    clear h8 K8
    refine W_seqK fun K9 h9 => ?_
    refine W_seqK fun K10 h10 => ?_
    refine W_reg ?_
    simp [go_sem, ty56, ty62]
    refine callG_pc (fun hG => pc_spec_CacheAdd l7 b7 (by first | assumption | omega) (by first | assumption | omega) (by first | assumption | omega)) (by first | (simp; done) | (simp [inR_iff]; done) | (simp [inR_iff]; grind) | grind) (fun hG => by simp [go_sem]) rfl rfl (by first | exact Or.inl rfl | exact Or.inr rfl) ?_
    simp [go_sem, ty4, ty56, ty62]
    refine callG_pc (fun hG => pc_laws_sameBlocks (cacheAdd l7 b7) (cacheAdd l7 b7) (by first | assumption | omega) (by first | assumption | omega)) (by first | (simp; done) | (simp [inR_iff]; done) | (simp [inR_iff]; grind) | grind) (fun hG => by simp [go_sem]) rfl rfl (by first | exact Or.inl rfl | exact Or.inr rfl) ?_
    simp [go_sem, ty4]
    first | refine h10 _ ?_ | refine ⟨by omega, h10 _ ?_⟩ | refine ⟨by omega, by omega, h10 _ ?_⟩ | (repeat (refine ⟨by first | omega | grind, ?_⟩)); refine h10 _ ?_
    clear h10 K10
    refine W_cond rfl (fun hb11 => by first | (simp at hb11; done) | (simp at hb11; omega)) fun hb11 => ?_
    clear hb11
    refine W_skip ?_
    first | refine h9 _ ?_ | refine ⟨by omega, h9 _ ?_⟩ | refine ⟨by omega, by omega, h9 _ ?_⟩ | (repeat (refine ⟨by first | omega | grind, ?_⟩)); refine h9 _ ?_
    clear h9 K9
    refine W_seqK fun K12 h12 => ?_
    refine W_reg ?_
    simp [go_sem, ty5, ty22]
    refine callG_true (by simp) (CallW_E (pe_spec_DrawCacheOk code (by first | first | assumption | omega | (simp; done) | (simp; omega))) (by simp [go_sem]) _ (fun _ => rfl) rfl ?_)
    rintro ⟨l13, f13⟩ hq13
    try dsimp only at hq13
    obtain ⟨hfO, hlO, hgO, hmO⟩ := hq13
    have hsO : ∀ a ∈ l13, a.small := fun a ha => (hfO a ha).small
    have hsG : ∀ a ∈ f13, a.small := fun a ha => (hgO a ha).small
    simp [go_sem, ty56, ty62, ty72, ty130]
    first | refine h12 _ ?_ | refine ⟨by omega, h12 _ ?_⟩ | refine ⟨by omega, by omega, h12 _ ?_⟩ | (repeat (refine ⟨by first | omega | grind, ?_⟩)); refine h12 _ ?_
    clear h12 K12
    refine W_seqK fun K14 h14 => ?_
    refine W_reg ?_
    simp [go_sem, ty5, ty22]
    refine callG_true (by simp) (CallW_E (pe_spec_DrawCacheFind code (by first | first | assumption | omega | (simp; done) | (simp; omega))) (by simp [go_sem]) _ (fun _ => rfl) rfl ?_)
    rintro ⟨l15, n15⟩ hq15
    try dsimp only at hq15
    obtain ⟨hfF, hlF⟩ := hq15
    have hsF : ∀ a ∈ l15, a.small := fun a ha => (hfF a ha).small
    simp [go_sem, ty3, ty56, ty62]
    first | refine h14 _ ?_ | refine ⟨by omega, h14 _ ?_⟩ | refine ⟨by omega, by omega, h14 _ ?_⟩ | (repeat (refine ⟨by first | omega | grind, ?_⟩)); refine h14 _ ?_
    clear h14 K14
    refine W_seqK fun K16 h16 => ?_
    refine W_reg ?_
    simp [go_sem, ty3, ty56, ty62]
    refine callG_pc (fun hG => pc_impl_CacheFind l15 n15 (by first | assumption | omega) (by first | assumption | omega)) (by first | (simp; done) | (simp [inR_iff]; done) | (simp [inR_iff]; grind) | grind) (fun hG => by simp [go_sem]) rfl rfl (by first | exact Or.inl rfl | exact Or.inr rfl) ?_
    simp [go_sem, ty4, ty69]
    first | refine h16 _ ?_ | refine ⟨by omega, h16 _ ?_⟩ | refine ⟨by omega, by omega, h16 _ ?_⟩ | (repeat (refine ⟨by first | omega | grind, ?_⟩)); refine h16 _ ?_
    clear h16 K16
    refine W_seqK fun K17 h17 => ?_
    refine W_reg ?_
    simp [go_sem, ty3, ty56, ty62]
    refine callG_pc (fun hG => pc_spec_CacheFind l15 n15 (by first | assumption | omega) (by first | assumption | omega)) (by first | (simp; done) | (simp [inR_iff]; done) | (simp [inR_iff]; grind) | grind) (fun hG => by simp [go_sem]) rfl rfl (by first | exact Or.inl rfl | exact Or.inr rfl) ?_
    simp [go_sem, ty4, ty69]
    first | refine h17 _ ?_ | refine ⟨by omega, h17 _ ?_⟩ | refine ⟨by omega, by omega, h17 _ ?_⟩ | (repeat (refine ⟨by first | omega | grind, ?_⟩)); refine h17 _ ?_
    clear h17 K17
    refine W_seqK fun K18 h18 => ?_
    refine W_reg ?_
    simp [go_sem, ty5, ty22]
    refine callG_true (by simp) (CallW_E (pe_spec_DrawPurge code (by first | first | assumption | omega | (simp; done) | (simp; omega))) (by simp [go_sem]) _ (fun _ => rfl) rfl ?_)
    rintro ⟨l19, n19⟩ hq19
    try dsimp only at hq19
    obtain ⟨hfP, hlP⟩ := hq19
    have hsP : ∀ a ∈ l19, a.small := fun a ha => (hfP a ha).small
    have hsPP : ∀ a ∈ purge l19 n19, a.small := fun a ha => hsP a (purge_mem ha)
    have hlPP := purge_len l19 n19
    have hsP3 : ∀ a ∈ purge (purge l19 n19) n19, a.small := fun a ha => hsPP a (purge_mem ha)
    have hlP3 := purge_len (purge l19 n19) n19
    have hsOP : ∀ a ∈ purge l13 n19, a.small := fun a ha => hsO a (purge_mem ha)
    have hlOP := purge_len l13 n19
    have w9 := @cacheOk_purge l13 f13 n19
    simp [go_sem, ty3, ty56, ty62]
    first | refine h18 _ ?_ | refine ⟨by omega, h18 _ ?_⟩ | refine ⟨by omega, by omega, h18 _ ?_⟩ | (repeat (refine ⟨by first | omega | grind, ?_⟩)); refine h18 _ ?_
    clear h18 K18
    refine W_seqK fun K20 h20 => ?_
    refine W_reg ?_
    simp [go_sem, ty3, ty56, ty62]
    refine callG_pc (fun hG => pc_impl_Purge l19 n19 (by first | assumption | omega) (by first | assumption | omega)) (by first | (simp; done) | (simp [inR_iff]; done) | (simp [inR_iff]; grind) | grind) (fun hG => by simp [go_sem]) rfl rfl (by first | exact Or.inl rfl | exact Or.inr rfl) ?_
    simp [go_sem, ty56, ty62]
    first | refine h20 _ ?_ | refine ⟨by omega, h20 _ ?_⟩ | refine ⟨by omega, by omega, h20 _ ?_⟩ | (repeat (refine ⟨by first | omega | grind, ?_⟩)); refine h20 _ ?_
    clear h20 K20
    refine W_seqK fun K21 h21 => ?_
    refine W_seqK fun K22 h22 => ?_
    refine W_reg ?_
    simp [go_sem, ty4, ty56, ty62, ty72, ty130]
    refine callG_pc (fun hG => pc_impl_CacheOk l13 f13 (by first | assumption | omega) (by first | assumption | omega) (by first | assumption | omega) (by first | assumption | omega)) (by first | (simp; done) | (simp [inR_iff]; done) | (simp [inR_iff]; grind) | grind) (fun hG => by simp [go_sem]) rfl rfl (by first | exact Or.inl rfl | exact Or.inr rfl) ?_
    simp [go_sem, ty4, ty56, ty62, ty72, ty130]
    refine callG_pc (fun hG => pc_spec_CacheOk l13 f13 (by first | assumption | omega) (by first | assumption | omega) (by first | assumption | omega) (by first | assumption | omega)) (by first | (simp; done) | (simp [inR_iff]; done) | (simp [inR_iff]; grind) | grind) (fun hG => by simp [go_sem]) rfl rfl (by first | exact Or.inl rfl | exact Or.inr rfl) ?_
    simp [go_sem, ty3, ty4, ty56, ty62, ty69, fk69]
    refine callG_pc (fun hG => pc_spec_Purge l19 n19 (by first | assumption | omega) (by first | assumption | omega)) (by first | (simp; done) | (simp [inR_iff]; done) | (simp [inR_iff]; grind) | grind) (fun hG => by simp [go_sem]) rfl rfl (by first | exact Or.inl rfl | exact Or.inr rfl) ?_
    simp [go_sem, ty4, ty56, ty62, fk69]
    refine callG_pc (fun hG => pc_laws_sameBlocks (purge l19 n19) (purge l19 n19) (by first | assumption | omega) (by first | assumption | omega)) (by first | (simp; done) | (simp [inR_iff]; done) | (simp [inR_iff]; grind) | grind) (fun hG => by simp [go_sem]) rfl rfl (by first | exact Or.inl rfl | exact Or.inr rfl) ?_
    simp [go_sem, ty4, fk69]
    first | refine h22 _ ?_ | refine ⟨by omega, h22 _ ?_⟩ | refine ⟨by omega, by omega, h22 _ ?_⟩ | (repeat (refine ⟨by first | omega | grind, ?_⟩)); refine h22 _ ?_
    clear h22 K22
    refine W_cond rfl (fun hb23 => by first | (simp at hb23; done) | (simp at hb23; omega)) fun hb23 => ?_
    clear hb23
    refine W_skip ?_
    first | refine h21 _ ?_ | refine ⟨by omega, h21 _ ?_⟩ | refine ⟨by omega, by omega, h21 _ ?_⟩ | (repeat (refine ⟨by first | omega | grind, ?_⟩)); refine h21 _ ?_
    clear h21 K21
    refine W_seqK fun K24 h24 => ?_
    refine W_seqK fun K25 h25 => ?_
    refine W_reg ?_
    simp [go_sem, ty3]
    first | refine h25 _ ?_ | refine ⟨by omega, h25 _ ?_⟩ | refine ⟨by omega, by omega, h25 _ ?_⟩ | (repeat (refine ⟨by first | omega | grind, ?_⟩)); refine h25 _ ?_
    clear h25 K25
    refine W_block ?_
    refine W_loopI (α := Nat) (fun i => ({ env := [(4, true, .l (.ptr 5 0)), (5, true, .l (.ref 7 [] 2 0 (cacheAdd l7 b7).length)), (6, true, .l (.ref 10 [] 2 0 (l13).length)), (7, true, .l (.ref 11 [] 3 0 (f13).length)), (15, true, .l (.t (.int .i64 (n19)))), (16, true, .l (.ref 32 [] 2 0 (purge l19 n19).length)), (17, true, .l (.t (.int .i64 (i))))], box := [(5, [.t (.int .i64 b7.start), .ref 4 [] 5 0 (b7.list).length])], row := [(4, ⟨.own, 5, enc eIns b7.list⟩), (7, ⟨.own, 2, enc eBlock (cacheAdd l7 b7)⟩), (10, ⟨.own, 2, enc eBlock l13⟩), (11, ⟨.own, 3, enc eFrame f13⟩), (32, ⟨.own, 2, enc eBlock (purge l19 n19)⟩)], nxt := 60, sav := [] } : St)) (fun i => i ≤ 4) (fun i => 4 - i) 0 ?_ ?_ ?_
    · exact Sub.of_neat [4, 5, 6, 7, 15, 16, 17] [4, 7, 10, 11, 32] [5] 60 (by decide) (by simp [go_sem])
    · exact Nat.zero_le _
    rintro i hinv
    refine W_seqK fun K27 h27 => ?_
    refine W_seqK fun K28 h28 => ?_
    refine W_reg ?_
    simp [go_sem, ty3, ty4]
    first | refine h28 _ ?_ | refine ⟨by omega, h28 _ ?_⟩ | refine ⟨by omega, by omega, h28 _ ?_⟩ | (repeat (refine ⟨by first | omega | grind, ?_⟩)); refine h28 _ ?_
    clear h28 K28
    refine W_cond rfl (fun hb29 => ?_) fun hb29 => ?_
    · obtain ⟨hi4, hn0, hn6⟩ : i < 4 ∧ 0 ≤ n19 ∧ n19 < 6 := by simp at hb29; omega
      have hw1 : IntKind.wrap .i64 (n19 * 4) = n19 * 4 := wrap_ok (by omega) (by omega)
      have hw2 : IntKind.wrap .i64 (n19 * 4 + (i : Int)) = n19 * 4 + (i : Int) := wrap_ok (by omega) (by omega)
      have w3 : cfB (purge l19 n19) (n19 * 4 + (i : Int)) = false := purged_away (by omega)
      clear hb29
      refine W_skip ?_
      first | refine h27 _ ?_ | refine ⟨by omega, h27 _ ?_⟩ | refine ⟨by omega, by omega, h27 _ ?_⟩ | (repeat (refine ⟨by first | omega | grind, ?_⟩)); refine h27 _ ?_
      clear h27 K27
      refine W_seqK fun K30 h30 => ?_
      refine W_block ?_
      refine W_seqK fun K31 h31 => ?_
      refine W_reg ?_
      simp [go_sem, ty3, ty56, ty62, hw1, hw2]
      refine callG_pc (fun hG => pc_impl_CacheFind (purge l19 n19) (n19 * 4 + (i : Int)) (by omega) (by assumption)) (by first | (simp; done) | (simp [inR_iff]; done) | (simp [inR_iff]; grind) | grind) (fun hG => by simp [go_sem, hw1, hw2]) rfl rfl (by first | exact Or.inl rfl | exact Or.inr rfl) ?_
      simp [go_sem, ty4, ty69, hw1, hw2]
      first | refine h31 _ ?_ | refine ⟨by omega, h31 _ ?_⟩ | refine ⟨by omega, by omega, h31 _ ?_⟩ | (repeat (refine ⟨by first | omega | grind, ?_⟩)); refine h31 _ ?_
      clear h31 K31
      refine W_seqK fun K32 h32 => ?_
      refine W_reg ?_
      simp [go_sem, ty4]
      first | refine h32 _ ?_ | refine ⟨by omega, h32 _ ?_⟩ | refine ⟨by omega, by omega, h32 _ ?_⟩ | (repeat (refine ⟨by first | omega | grind, ?_⟩)); refine h32 _ ?_
      clear h32 K32
      refine W_cond rfl (fun hb33 => by rw [w3] at hb33; exact absurd hb33 (by decide)) fun hb33 => ?_
      clear hb33
      refine W_skip ?_
      first | refine h30 _ ?_ | refine ⟨by omega, h30 _ ?_⟩ | refine ⟨by omega, by omega, h30 _ ?_⟩ | (repeat (refine ⟨by first | omega | grind, ?_⟩)); refine h30 _ ?_
      clear h30 K30
      refine W_reg ?_
      simp [go_sem, ty3]
      refine ⟨i + 1, ?_, ?_, ?_⟩
      · exact Sub.of_neat [4, 5, 6, 7, 15, 16, 17] [4, 7, 10, 11, 32] [5] 60 (by decide) (by simp [go_sem, wrap_succ (show i < 9223372036854775807 by omega)])
      · omega
      · omega
    · clear hb29
      refine W_exit ?_
      simp [go_sem]
      first | refine h24 _ ?_ | refine ⟨by omega, h24 _ ?_⟩ | refine ⟨by omega, by omega, h24 _ ?_⟩ | (repeat (refine ⟨by first | omega | grind, ?_⟩)); refine h24 _ ?_
      clear h27 K27 h24 K24
      refine W_seqK fun K34 h34 => ?_
      refine W_seqK fun K35 h35 => ?_
      refine W_reg ?_
      simp [go_sem, ty4, ty62]
      refine callG_pc (fun hG => pc_impl_BlockOk b7 (by first | assumption | omega)) (by first | (simp; done) | (simp [inR_iff]; done) | (simp [inR_iff]; grind) | grind) (fun hG => by simp [go_sem]) rfl rfl (by first | exact Or.inl rfl | exact Or.inr rfl) ?_
      simp [go_sem]
      first | refine h35 _ ?_ | refine ⟨by omega, h35 _ ?_⟩ | refine ⟨by omega, by omega, h35 _ ?_⟩ | (repeat (refine ⟨by first | omega | grind, ?_⟩)); refine h35 _ ?_
      clear h35 K35
      refine W_cond rfl (fun hb36 => ?_) fun hb36 => ?_
      · have hb1 : blockOk b7 = true := by simpa using hb36
        have w4 := added_found (l := l7) hb1
        clear hb36
        refine W_seqK fun K37 h37 => ?_
        refine W_reg ?_
        simp [go_sem, ty3, ty56, ty62]
        refine callG_pc (fun hG => pc_impl_CacheFind (cacheAdd l7 b7) b7.start (by first | assumption | omega) (by first | assumption | omega)) (by first | (simp; done) | (simp [inR_iff]; done) | (simp [inR_iff]; grind) | grind) (fun hG => by simp [go_sem]) rfl rfl (by first | exact Or.inl rfl | exact Or.inr rfl) ?_
        simp [go_sem, ty4, ty69]
        first | refine h37 _ ?_ | refine ⟨by omega, h37 _ ?_⟩ | refine ⟨by omega, by omega, h37 _ ?_⟩ | (repeat (refine ⟨by first | omega | grind, ?_⟩)); refine h37 _ ?_
        clear h37 K37
        refine W_seqK fun K38 h38 => ?_
        refine W_reg ?_
        simp [go_sem, ty4]
        first | refine h38 _ ?_ | refine ⟨by omega, h38 _ ?_⟩ | refine ⟨by omega, by omega, h38 _ ?_⟩ | (repeat (refine ⟨by first | omega | grind, ?_⟩)); refine h38 _ ?_
        clear h38 K38
        refine W_cond rfl (fun hb39 => by simp [w4] at hb39) fun hb39 => ?_
        clear hb39
        refine W_skip ?_
        first | refine h34 _ ?_ | refine ⟨by omega, h34 _ ?_⟩ | refine ⟨by omega, by omega, h34 _ ?_⟩ | (repeat (refine ⟨by first | omega | grind, ?_⟩)); refine h34 _ ?_
        clear h34 K34
        refine W_seqK fun K40 h40 => ?_
        rcases Bool.eq_false_or_eq_true (cacheOk l13 f13) with hco | hco
        · refine W_reg ?_
          simp [go_sem, ty4, ty56, ty62, ty72, ty130, hco]
          refine callG_pc (fun hG => pc_impl_CacheOk l13 f13 (by first | assumption | omega) (by first | assumption | omega) (by first | assumption | omega) (by first | assumption | omega)) (by first | (simp; done) | (simp [inR_iff]; done) | (simp [inR_iff]; grind) | grind) (fun hG => by simp [go_sem]) rfl rfl (by first | exact Or.inl rfl | exact Or.inr rfl) ?_
          simp [go_sem, ty3, ty4, ty56, ty62, hco]
          first | refine callG_false (.l (.nil)) ?_ | refine callG_pc (fun hG => pc_impl_Purge l13 n19 (by first | assumption | omega) (by first | assumption | omega)) (by first | (simp; done) | (simp [inR_iff]; done) | (simp [inR_iff]; grind) | grind) (fun hG => by simp [go_sem]) rfl rfl (by first | exact Or.inl rfl | exact Or.inr rfl) ?_
          simp [go_sem, ty4, ty56, ty62, ty72, ty130, hco]
          first | refine callG_false (.l (.t (.bool false))) ?_ | refine callG_pc (fun hG => pc_impl_CacheOk (purge l13 n19) f13 (by first | assumption | omega) (by first | assumption | omega) (by first | assumption | omega) (by first | assumption | omega)) (by first | (simp; done) | (simp [inR_iff]; done) | (simp [inR_iff]; grind) | grind) (fun hG => by simp [go_sem]) rfl rfl (by first | exact Or.inl rfl | exact Or.inr rfl) ?_
          simp [go_sem, ty4, hco]
          first | refine h40 _ ?_ | refine ⟨by omega, h40 _ ?_⟩ | refine ⟨by omega, by omega, h40 _ ?_⟩ | (repeat (refine ⟨by first | omega | grind, ?_⟩)); refine h40 _ ?_
          clear h40 K40
          refine W_ret ?_
          simp [go_sem, hb4, hco]
          first | done | grind
        · refine W_reg ?_
          simp [go_sem, ty4, ty56, ty62, ty72, ty130, hco]
          refine callG_pc (fun hG => pc_impl_CacheOk l13 f13 (by first | assumption | omega) (by first | assumption | omega) (by first | assumption | omega) (by first | assumption | omega)) (by first | (simp; done) | (simp [inR_iff]; done) | (simp [inR_iff]; grind) | grind) (fun hG => by simp [go_sem]) rfl rfl (by first | exact Or.inl rfl | exact Or.inr rfl) ?_
          simp [go_sem, ty3, ty4, ty56, ty62, hco]
          first | refine callG_false (.l (.nil)) ?_ | refine callG_pc (fun hG => pc_impl_Purge l13 n19 (by first | assumption | omega) (by first | assumption | omega)) (by first | (simp; done) | (simp [inR_iff]; done) | (simp [inR_iff]; grind) | grind) (fun hG => by simp [go_sem]) rfl rfl (by first | exact Or.inl rfl | exact Or.inr rfl) ?_
          simp [go_sem, ty4, ty56, ty62, ty72, ty130, hco]
          first | refine callG_false (.l (.t (.bool false))) ?_ | refine callG_pc (fun hG => pc_impl_CacheOk (purge l13 n19) f13 (by first | assumption | omega) (by first | assumption | omega) (by first | assumption | omega) (by first | assumption | omega)) (by first | (simp; done) | (simp [inR_iff]; done) | (simp [inR_iff]; grind) | grind) (fun hG => by simp [go_sem]) rfl rfl (by first | exact Or.inl rfl | exact Or.inr rfl) ?_
          simp [go_sem, ty4, hco]
          first | refine h40 _ ?_ | refine ⟨by omega, h40 _ ?_⟩ | refine ⟨by omega, by omega, h40 _ ?_⟩ | (repeat (refine ⟨by first | omega | grind, ?_⟩)); refine h40 _ ?_
          clear h40 K40
          refine W_ret ?_
          simp [go_sem, hb4, hco]
          first | done | grind
      · clear hb36
        refine W_skip ?_
        first | refine h34 _ ?_ | refine ⟨by omega, h34 _ ?_⟩ | refine ⟨by omega, by omega, h34 _ ?_⟩ | (repeat (refine ⟨by first | omega | grind, ?_⟩)); refine h34 _ ?_
        clear h34 K34
        refine W_seqK fun K41 h41 => ?_
        rcases Bool.eq_false_or_eq_true (cacheOk l13 f13) with hco | hco
        · refine W_reg ?_
          simp [go_sem, ty4, ty56, ty62, ty72, ty130, hco]
          refine callG_pc (fun hG => pc_impl_CacheOk l13 f13 (by first | assumption | omega) (by first | assumption | omega) (by first | assumption | omega) (by first | assumption | omega)) (by first | (simp; done) | (simp [inR_iff]; done) | (simp [inR_iff]; grind) | grind) (fun hG => by simp [go_sem]) rfl rfl (by first | exact Or.inl rfl | exact Or.inr rfl) ?_
          simp [go_sem, ty3, ty4, ty56, ty62, hco]
          first | refine callG_false (.l (.nil)) ?_ | refine callG_pc (fun hG => pc_impl_Purge l13 n19 (by first | assumption | omega) (by first | assumption | omega)) (by first | (simp; done) | (simp [inR_iff]; done) | (simp [inR_iff]; grind) | grind) (fun hG => by simp [go_sem]) rfl rfl (by first | exact Or.inl rfl | exact Or.inr rfl) ?_
          simp [go_sem, ty4, ty56, ty62, ty72, ty130, hco]
          first | refine callG_false (.l (.t (.bool false))) ?_ | refine callG_pc (fun hG => pc_impl_CacheOk (purge l13 n19) f13 (by first | assumption | omega) (by first | assumption | omega) (by first | assumption | omega) (by first | assumption | omega)) (by first | (simp; done) | (simp [inR_iff]; done) | (simp [inR_iff]; grind) | grind) (fun hG => by simp [go_sem]) rfl rfl (by first | exact Or.inl rfl | exact Or.inr rfl) ?_
          simp [go_sem, ty4, hco]
          first | refine h41 _ ?_ | refine ⟨by omega, h41 _ ?_⟩ | refine ⟨by omega, by omega, h41 _ ?_⟩ | (repeat (refine ⟨by first | omega | grind, ?_⟩)); refine h41 _ ?_
          clear h41 K41
          refine W_ret ?_
          simp [go_sem, hb4, hco]
          first | done | grind
        · refine W_reg ?_
          simp [go_sem, ty4, ty56, ty62, ty72, ty130, hco]
          refine callG_pc (fun hG => pc_impl_CacheOk l13 f13 (by first | assumption | omega) (by first | assumption | omega) (by first | assumption | omega) (by first | assumption | omega)) (by first | (simp; done) | (simp [inR_iff]; done) | (simp [inR_iff]; grind) | grind) (fun hG => by simp [go_sem]) rfl rfl (by first | exact Or.inl rfl | exact Or.inr rfl) ?_
          simp [go_sem, ty3, ty4, ty56, ty62, hco]
          first | refine callG_false (.l (.nil)) ?_ | refine callG_pc (fun hG => pc_impl_Purge l13 n19 (by first | assumption | omega) (by first | assumption | omega)) (by first | (simp; done) | (simp [inR_iff]; done) | (simp [inR_iff]; grind) | grind) (fun hG => by simp [go_sem]) rfl rfl (by first | exact Or.inl rfl | exact Or.inr rfl) ?_
          simp [go_sem, ty4, ty56, ty62, ty72, ty130, hco]
          first | refine callG_false (.l (.t (.bool false))) ?_ | refine callG_pc (fun hG => pc_impl_CacheOk (purge l13 n19) f13 (by first | assumption | omega) (by first | assumption | omega) (by first | assumption | omega) (by first | assumption | omega)) (by first | (simp; done) | (simp [inR_iff]; done) | (simp [inR_iff]; grind) | grind) (fun hG => by simp [go_sem]) rfl rfl (by first | exact Or.inl rfl | exact Or.inr rfl) ?_
          simp [go_sem, ty4, hco]
          first | refine h41 _ ?_ | refine ⟨by omega, h41 _ ?_⟩ | refine ⟨by omega, by omega, h41 _ ?_⟩ | (repeat (refine ⟨by first | omega | grind, ?_⟩)); refine h41 _ ?_
          clear h41 K41
          refine W_ret ?_
          simp [go_sem, hb4, hco]
          first | done | grind
end Go.Tw
