/- Walks of functions: laws.FnExactClocks -/
import Derived.Test.YtgcjdkgddnnlpaaE7H
import Derived.Test.YtgcjdkgddnnlpaaE7J
import Derived.Test.YtgcjdkgddnnlpaaE7K
import Derived.Test.YtgcjdkgddnnlpaaBaseG
set_option linter.unusedSimpArgs false
set_option linter.unusedVariables false
set_option linter.unnecessarySimpa false
namespace Go.Tw
open Go.Proofs

set_option maxRecDepth 100000 in
set_option maxHeartbeats 4000000 in
theorem pc_laws_FnExactClocks (n : Int) (list : List GEvent) (ol_list : list.length ≤ 9223372036854775807) : PC Try.prog 5 [(false, [.int .i64 n]), (false, [.sl 5 (enc eEvent list)])] [(false, [.bool true])] := by
  refine PC_of (n := 74) Try.func5 rfl rfl rfl rfl (by simp) ?_
  refine W_seqK fun K1 h1 => ?_
  refine W_reg ?_
  simp [go_sem, ty4, markE_add]
  repeat refine ⟨by first | omega | grind, ?_⟩
  refine h1 _ ?_
  clear h1 K1
  refine W_seqK fun K2 h2 => ?_
  refine W_reg ?_
  simp [go_sem, ty3, markE_add]
  repeat refine ⟨by first | omega | grind, ?_⟩
  refine h2 _ ?_
  clear h2 K2
  refine W_seqK fun K3 h3 => ?_
  refine W_reg ?_
  simp [go_sem, ty3, ty38, ty52, markE_add]
  refine callG_pc (fun hG => pc_laws_szEventS list 1048576 (by first | assumption | omega) (by first | assumption | omega) (by first | assumption | omega)) (by first | (simp; done) | (simp [inR_iff]; done) | (simp [inR_iff]; grind) | grind) (fun hG => by simp [go_sem, markE_add]) rfl rfl (by first | exact Or.inl rfl | exact Or.inr rfl) ?_
  simp [go_sem, ty3, markE_add]
  repeat refine ⟨by first | omega | grind, ?_⟩
  refine h3 _ ?_
  clear h3 K3
  refine W_seqK fun K4 h4 => ?_
  refine W_seqK fun K5 h5 => ?_
  refine W_reg ?_
  simp [go_sem, ty3, ty4, markE_add]
  repeat refine ⟨by first | omega | grind, ?_⟩
  refine h5 _ ?_
  clear h5 K5
  refine W_cond rfl (fun hb6 => ?_) fun hb6 => ?_
  · skip
    refine W_seqK fun K7 h7 => ?_
    refine W_reg ?_
    simp [go_sem, ty4, markE_add]
    repeat refine ⟨by first | omega | grind, ?_⟩
    refine h7 _ ?_
    clear h7 K7
    refine W_ret ?_
    simp [go_sem]
  · have hz_list := szL_pos hb6
    clear hb6
    have hl := clocks_len n list
    have hc : ∀ a ∈ clocks n list, a.length ≤ 1048576 := fun a ha => by have := clocks_each n list a ha; omega
    have hsum := sum_le_mul (f := List.length) (c := 8) (clocks n list) (clocks_each n list)
    refine W_skip ?_
    repeat refine ⟨by first | omega | grind, ?_⟩
    refine h4 _ ?_
    clear h4 K4
    refine W_seqK fun K8 h8 => ?_
    refine W_reg ?_
    simp [go_sem, ty3, ty38, ty41, ty52, ty54, markE_add]
    refine callG_pc (fun hG => pc_laws_toEventS list (by first | assumption | omega)) (by first | (simp; done) | (simp [inR_iff]; done) | (simp [inR_iff]; grind) | grind) (fun hG => by simp [go_sem, markE_add]) rfl rfl (by first | exact Or.inl rfl | exact Or.inr rfl) ?_
    simp [go_sem, ty3, ty22, ty41, ty45, ty54, markE_add]
    refine callG_pc (fun hG => pc_spec_Clocks n list (by first | assumption | omega)) (by first | (simp; done) | (simp [inR_iff]; done) | (simp [inR_iff]; grind) | grind) (fun hG => by simp [go_sem, markE_add]) rfl rfl (by first | exact Or.inl rfl | exact Or.inr rfl) ?_
    simp [go_sem, ty22, ty45, markE_add]
    repeat refine ⟨by first | omega | grind, ?_⟩
    refine h8 _ ?_
    clear h8 K8
    refine W_seqK fun K9 h9 => ?_
    refine W_reg ?_
    simp [go_sem, ty38, ty41, ty52, ty54, markE_add]
    refine callG_pc (fun hG => pc_laws_toEventS list (by first | assumption | omega)) (by first | (simp; done) | (simp [inR_iff]; done) | (simp [inR_iff]; grind) | grind) (fun hG => by simp [go_sem, markE_add]) rfl rfl (by first | exact Or.inl rfl | exact Or.inr rfl) ?_
    simp [go_sem, ty41, ty54, markE_add]
    repeat refine ⟨by first | omega | grind, ?_⟩
    refine h9 _ ?_
    clear h9 K9
    refine W_seqK fun K10 h10 => ?_
    refine W_reg ?_
    simp [go_sem, ty3, ty22, ty41, ty45, ty54, markE_add]
    refine callG_pc (fun hG => pc_impl_Clocks n list (by first | assumption | omega)) (by first | (simp; done) | (simp [inR_iff]; done) | (simp [inR_iff]; grind) | grind) (fun hG => by simp [go_sem, markE_add]) rfl rfl (by first | exact Or.inl rfl | exact Or.inr rfl) ?_
    simp [go_sem, ty22, ty45, markE_add]
    repeat refine ⟨by first | omega | grind, ?_⟩
    refine h10 _ ?_
    clear h10 K10
    refine W_seqK fun K11 h11 => ?_
    refine W_seqK fun K12 h12 => ?_
    refine W_reg ?_
    simp [go_sem, ty4, ty22, ty45, markE_add]
    refine callG_pc (fun hG => pc_laws_eqIntSS (clocks n list) (clocks n list) (by first | assumption | omega) (by first | assumption | omega)) (by first | (simp; done) | (simp [inR_iff]; done) | (simp [inR_iff]; grind) | grind) (fun hG => by simp [go_sem, markE_add]) rfl rfl (by first | exact Or.inl rfl | exact Or.inr rfl) ?_
    simp [go_sem, ty4, markE_add]
    repeat refine ⟨by first | omega | grind, ?_⟩
    refine h12 _ ?_
    clear h12 K12
    refine W_cond rfl (fun hb13 => by first | (simp at hb13; done) | (simp at hb13; omega) | (simp at hb13; exact absurd hb13 (Int.not_lt.2 (markE_nn _ (by omega))))) fun hb13 => ?_
    clear hb13
    refine W_skip ?_
    repeat refine ⟨by first | omega | grind, ?_⟩
    refine h11 _ ?_
    clear h11 K11
    refine W_seqK fun K14 h14 => ?_
    refine W_seqK fun K15 h15 => ?_
    refine W_reg ?_
    simp [go_sem, ty38, ty41, ty52, ty54, markE_add]
    refine callG_pc (fun hG => pc_laws_toEventS list (by first | assumption | omega)) (by first | (simp; done) | (simp [inR_iff]; done) | (simp [inR_iff]; grind) | grind) (fun hG => by simp [go_sem, markE_add]) rfl rfl (by first | exact Or.inl rfl | exact Or.inr rfl) ?_
    simp [go_sem, ty4, ty41, ty54, markE_add]
    refine callG_pc (fun hG => pc_laws_eqEventS list list (by first | assumption | omega)) (by first | (simp; done) | (simp [inR_iff]; done) | (simp [inR_iff]; grind) | grind) (fun hG => by simp [go_sem, markE_add]) rfl rfl (by first | exact Or.inl rfl | exact Or.inr rfl) ?_
    simp [go_sem, ty4, markE_add]
    repeat refine ⟨by first | omega | grind, ?_⟩
    refine h15 _ ?_
    clear h15 K15
    refine W_cond rfl (fun hb16 => by first | (simp at hb16; done) | (simp at hb16; omega) | (simp at hb16; exact absurd hb16 (Int.not_lt.2 (markE_nn _ (by omega))))) fun hb16 => ?_
    clear hb16
    refine W_skip ?_
    repeat refine ⟨by first | omega | grind, ?_⟩
    refine h14 _ ?_
    clear h14 K14
    refine W_seqK fun K17 h17 => ?_
    refine W_reg ?_
    simp [go_sem, ty3, markE_add]
    repeat refine ⟨by first | omega | grind, ?_⟩
    refine h17 _ ?_
    clear h17 K17
    refine W_seqK fun K18 h18 => ?_
    refine W_reg ?_
    simp [go_sem, ty3, ty41, ty54, markE_add]
    refine callG_true (by simp) (CallW_mut (mc_laws_markEventS list 1 (by first | assumption | omega)) rfl rfl rfl (by simp [go_sem, markE_add]) rfl ?_)
    simp [go_sem, ty3, markE_add]
    repeat refine ⟨by first | omega | grind, ?_⟩
    refine h18 _ ?_
    clear h18 K18
    refine W_seqK fun K19 h19 => ?_
    refine W_seqK fun K20 h20 => ?_
    refine W_reg ?_
    simp [go_sem, ty3, ty4, ty22, ty45, markE_add]
    refine callG_pc (fun hG => pc_laws_eqIntSS (clocks n list) (clocks n list) (by first | assumption | omega) (by first | assumption | omega)) (by first | (simp; done) | (simp [inR_iff]; done) | (simp [inR_iff]; grind) | grind) (fun hG => by simp [go_sem, markE_add]) rfl rfl (by first | exact Or.inl rfl | exact Or.inr rfl) ?_
    simp [go_sem, ty4, markE_add]
    repeat refine ⟨by first | omega | grind, ?_⟩
    refine h20 _ ?_
    clear h20 K20
    refine W_cond rfl (fun hb21 => by first | (simp at hb21; done) | (simp at hb21; omega) | (simp at hb21; exact absurd hb21 (Int.not_lt.2 (markE_nn _ (by omega))))) fun hb21 => ?_
    clear hb21
    refine W_skip ?_
    repeat refine ⟨by first | omega | grind, ?_⟩
    refine h19 _ ?_
    clear h19 K19
    refine W_seqK fun K22 h22 => ?_
    refine W_reg ?_
    simp [go_sem, ty3, markE_add]
    repeat refine ⟨by first | omega | grind, ?_⟩
    refine h22 _ ?_
    clear h22 K22
    refine W_seqK fun K23 h23 => ?_
    refine W_reg ?_
    simp [go_sem, ty3, ty22, ty45, markE_add]
    refine callG_true (by simp) (CallW_mut (mc_laws_markIntSS (clocks n list) 1 (by first | assumption | omega) (by first | assumption | omega)) rfl rfl rfl (by simp [go_sem, markE_add]) rfl ?_)
    simp [go_sem, ty3, markE_add]
    repeat refine ⟨by first | omega | grind, ?_⟩
    refine h23 _ ?_
    clear h23 K23
    refine W_seqK fun K24 h24 => ?_
    refine W_reg ?_
    simp [go_sem, ty3, markE_add]
    repeat refine ⟨by first | omega | grind, ?_⟩
    refine h24 _ ?_
    clear h24 K24
    refine W_seqK fun K25 h25 => ?_
    refine W_reg ?_
    simp [go_sem, ty3, ty22, ty45, markE_add]
    refine callG_pc (fun hG => pc_laws_heldIntSS (clocks n list) 1 (by first | assumption | omega) (by first | assumption | omega) (fun m hm => by (try simp only [nvMsg, nvSender, nvPacket, nvFrame, nvHome, nvNode, nvWorld, nvHart, nvBlock, nvCore, nvFlock] at hm); first | exact hp m (by omega) | (rw [markE_add]; exact hp _ (by omega)) | exact markE_nn m (by omega) | (rw [markE_add]; exact markE_nn _ (by omega)))) (by first | (simp; done) | (simp [inR_iff]; done) | (simp [inR_iff]; grind) | grind) (fun hG => by simp [go_sem, markE_add]) rfl rfl (by first | exact Or.inl rfl | exact Or.inr rfl) ?_
    simp [go_sem, ty3, markE_add]
    repeat refine ⟨by first | omega | grind, ?_⟩
    refine h25 _ ?_
    clear h25 K25
    refine W_seqK fun K26 h26 => ?_
    refine W_seqK fun K27 h27 => ?_
    refine W_reg ?_
    simp [go_sem, ty3, ty4, markE_add]
    repeat refine ⟨by first | omega | grind, ?_⟩
    refine h27 _ ?_
    clear h27 K27
    refine W_cond rfl (fun hb28 => by first | (simp at hb28; done) | (simp at hb28; omega) | (simp at hb28; exact absurd hb28 (Int.not_lt.2 (markE_nn _ (by omega))))) fun hb28 => ?_
    clear hb28
    refine W_skip ?_
    repeat refine ⟨by first | omega | grind, ?_⟩
    refine h26 _ ?_
    clear h26 K26
    refine W_seqK fun K29 h29 => ?_
    refine W_seqK fun K30 h30 => ?_
    refine W_reg ?_
    simp [go_sem, ty3, ty4, markE_add]
    repeat refine ⟨by first | omega | grind, ?_⟩
    refine h30 _ ?_
    clear h30 K30
    refine W_cond rfl (fun hb31 => by first | (simp at hb31; done) | (simp at hb31; omega) | (simp at hb31; exact absurd hb31 (Int.not_lt.2 (markE_nn _ (by omega))))) fun hb31 => ?_
    clear hb31
    refine W_skip ?_
    repeat refine ⟨by first | omega | grind, ?_⟩
    refine h29 _ ?_
    clear h29 K29
    refine W_seqK fun K32 h32 => ?_
    refine W_reg ?_
    simp [go_sem, ty3, ty38, ty41, ty52, ty54, markE_add]
    refine callG_pc (fun hG => pc_laws_toEventS list (by first | assumption | omega)) (by first | (simp; done) | (simp [inR_iff]; done) | (simp [inR_iff]; grind) | grind) (fun hG => by simp [go_sem, markE_add]) rfl rfl (by first | exact Or.inl rfl | exact Or.inr rfl) ?_
    simp [go_sem, ty3, ty22, ty41, ty45, ty54, markE_add]
    refine callG_pc (fun hG => pc_impl_Clocks n list (by first | assumption | omega)) (by first | (simp; done) | (simp [inR_iff]; done) | (simp [inR_iff]; grind) | grind) (fun hG => by simp [go_sem, markE_add]) rfl rfl (by first | exact Or.inl rfl | exact Or.inr rfl) ?_
    simp [go_sem, ty22, ty45, markE_add]
    repeat refine ⟨by first | omega | grind, ?_⟩
    refine h32 _ ?_
    clear h32 K32
    refine W_seqK fun K33 h33 => ?_
    refine W_seqK fun K34 h34 => ?_
    refine W_reg ?_
    simp [go_sem, ty4, ty22, ty45, markE_add]
    refine callG_pc (fun hG => pc_laws_eqIntSS (clocks n list) (clocks n list) (by first | assumption | omega) (by first | assumption | omega)) (by first | (simp; done) | (simp [inR_iff]; done) | (simp [inR_iff]; grind) | grind) (fun hG => by simp [go_sem, markE_add]) rfl rfl (by first | exact Or.inl rfl | exact Or.inr rfl) ?_
    simp [go_sem, ty4, markE_add]
    repeat refine ⟨by first | omega | grind, ?_⟩
    refine h34 _ ?_
    clear h34 K34
    refine W_cond rfl (fun hb35 => by first | (simp at hb35; done) | (simp at hb35; omega) | (simp at hb35; exact absurd hb35 (Int.not_lt.2 (markE_nn _ (by omega))))) fun hb35 => ?_
    clear hb35
    refine W_skip ?_
    repeat refine ⟨by first | omega | grind, ?_⟩
    refine h33 _ ?_
    clear h33 K33
    refine W_seqK fun K36 h36 => ?_
    refine W_reg ?_
    simp [go_sem, ty3, markE_add]
    repeat refine ⟨by first | omega | grind, ?_⟩
    refine h36 _ ?_
    clear h36 K36
    refine W_seqK fun K37 h37 => ?_
    refine W_reg ?_
    simp [go_sem, ty3, ty22, ty45, markE_add]
    refine callG_pc (fun hG => pc_laws_heldIntSS (clocks n list) 1 (by first | assumption | omega) (by first | assumption | omega) (fun m hm => by (try simp only [nvMsg, nvSender, nvPacket, nvFrame, nvHome, nvNode, nvWorld, nvHart, nvBlock, nvCore, nvFlock] at hm); first | exact hp m (by omega) | (rw [markE_add]; exact hp _ (by omega)) | exact markE_nn m (by omega) | (rw [markE_add]; exact markE_nn _ (by omega)))) (by first | (simp; done) | (simp [inR_iff]; done) | (simp [inR_iff]; grind) | grind) (fun hG => by simp [go_sem, markE_add]) rfl rfl (by first | exact Or.inl rfl | exact Or.inr rfl) ?_
    simp [go_sem, ty3, markE_add]
    repeat refine ⟨by first | omega | grind, ?_⟩
    refine h37 _ ?_
    clear h37 K37
    refine W_seqK fun K38 h38 => ?_
    refine W_seqK fun K39 h39 => ?_
    refine W_reg ?_
    simp [go_sem, ty3, ty4, markE_add]
    repeat refine ⟨by first | omega | grind, ?_⟩
    refine h39 _ ?_
    clear h39 K39
    refine W_cond rfl (fun hb40 => by first | (simp at hb40; done) | (simp at hb40; omega) | (simp at hb40; exact absurd hb40 (Int.not_lt.2 (markE_nn _ (by omega))))) fun hb40 => ?_
    clear hb40
    refine W_skip ?_
    repeat refine ⟨by first | omega | grind, ?_⟩
    refine h38 _ ?_
    clear h38 K38
    refine W_seqK fun K41 h41 => ?_
    refine W_seqK fun K42 h42 => ?_
    refine W_reg ?_
    simp [go_sem, ty3, ty4, markE_add]
    repeat refine ⟨by first | omega | grind, ?_⟩
    refine h42 _ ?_
    clear h42 K42
    refine W_cond rfl (fun hb43 => by first | (simp at hb43; done) | (simp at hb43; omega) | (simp at hb43; exact absurd hb43 (Int.not_lt.2 (markE_nn _ (by omega))))) fun hb43 => ?_
    clear hb43
    refine W_skip ?_
    repeat refine ⟨by first | omega | grind, ?_⟩
    refine h41 _ ?_
    clear h41 K41
    refine W_seqK fun K44 h44 => ?_
    refine W_reg ?_
    simp [go_sem, ty4, markE_add]
    repeat refine ⟨by first | omega | grind, ?_⟩
    refine h44 _ ?_
    clear h44 K44
    refine W_ret ?_
    simp [go_sem]
end Go.Tw
