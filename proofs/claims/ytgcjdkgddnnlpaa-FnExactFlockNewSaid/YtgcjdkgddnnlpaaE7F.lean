/- Walks of functions: laws.FnExactFlockNew -/
import Derived.Test.YtgcjdkgddnnlpaaE7C
import Derived.Test.YtgcjdkgddnnlpaaE7D
import Derived.Test.YtgcjdkgddnnlpaaE7me
import Derived.Test.YtgcjdkgddnnlpaaE7L4
import Derived.Test.YtgcjdkgddnnlpaaBaseF
set_option linter.unusedSimpArgs false
set_option linter.unusedVariables false
set_option linter.unnecessarySimpa false
namespace Go.Tw
open Go.Proofs

set_option maxRecDepth 100000 in
set_option maxHeartbeats 4000000 in
theorem pc_laws_FnExactFlockNew (n : Int) (mem : List Int) (starts : List Int)  : PC Try.prog 3 [(false, [.int .i64 n]), (false, [.sl 1 (enc eI mem)]), (false, [.sl 1 (enc eI starts)])] [(false, [.bool true])] := by
  refine PC_of (n := 119) Try.func3 rfl rfl rfl rfl (by simp) ?_
  refine W_seqK fun K1 h1 => ?_
  refine W_reg ?_
  simp [go_sem, ty4, markE_add, mvFlock, nvFlock, mvWorld, nvWorld]
  repeat refine ⟨by first | omega | grind, ?_⟩
  refine h1 _ ?_
  clear h1 K1
  refine W_seqK fun K2 h2 => ?_
  refine W_seqK fun K3 h3 => ?_
  refine W_reg ?_
  simp [go_sem, ty3, ty4, ty22, markE_add, mvFlock, nvFlock, mvWorld, nvWorld]
  repeat refine ⟨by first | omega | grind, ?_⟩
  refine h3 _ ?_
  clear h3 K3
  refine W_cond rfl (fun hb4 => ?_) fun hb4 => ?_
  · skip
    refine W_seqK fun K5 h5 => ?_
    refine W_reg ?_
    simp [go_sem, ty4, markE_add, mvFlock, nvFlock, mvWorld, nvWorld]
    repeat refine ⟨by first | omega | grind, ?_⟩
    refine h5 _ ?_
    clear h5 K5
    refine W_ret ?_
    simp [go_sem]
  · have hz_mem : mem.length ≤ 1048576 := by simp at hb4; omega
    clear hb4
    refine W_skip ?_
    repeat refine ⟨by first | omega | grind, ?_⟩
    refine h2 _ ?_
    clear h2 K2
    refine W_seqK fun K6 h6 => ?_
    refine W_seqK fun K7 h7 => ?_
    refine W_reg ?_
    simp [go_sem, ty3, ty4, ty22, markE_add, mvFlock, nvFlock, mvWorld, nvWorld]
    repeat refine ⟨by first | omega | grind, ?_⟩
    refine h7 _ ?_
    clear h7 K7
    refine W_cond rfl (fun hb8 => ?_) fun hb8 => ?_
    · skip
      refine W_seqK fun K9 h9 => ?_
      refine W_reg ?_
      simp [go_sem, ty4, markE_add, mvFlock, nvFlock, mvWorld, nvWorld]
      repeat refine ⟨by first | omega | grind, ?_⟩
      refine h9 _ ?_
      clear h9 K9
      refine W_ret ?_
      simp [go_sem]
    · have hz_starts : starts.length ≤ 1048576 := by simp at hb8; omega
      clear hb8
      have ht := flockNew_tot n mem starts
      have hsm : (flockNew n mem starts).small := GFlock.small_of _ (by omega)
      have hnv := nvFlock_le (flockNew n mem starts)
      simp only [nvFlock] at hnv
      have hs2 := hsm
      unfold GFlock.small GWorld.small at hs2
      obtain ⟨⟨w1, w2, w3, w4⟩, w5, w6⟩ := hs2
      refine W_skip ?_
      repeat refine ⟨by first | omega | grind, ?_⟩
      refine h6 _ ?_
      clear h6 K6
      refine W_seqK fun K10 h10 => ?_
      refine W_reg ?_
      simp [go_sem, ty3, ty22, markE_add, mvFlock, nvFlock, mvWorld, nvWorld]
      refine callG_pc (fun hG => pc_laws_toIntS mem (by first | assumption | omega)) (by first | (simp; done) | (simp [inR_iff]; done) | (simp [inR_iff]; grind) | grind) (fun hG => by simp [go_sem, markE_add, mvFlock, nvFlock, mvWorld, nvWorld]) rfl rfl (by first | exact Or.inl rfl | exact Or.inr rfl) ?_
      simp [go_sem, ty3, ty22, markE_add, mvFlock, nvFlock, mvWorld, nvWorld]
      refine callG_pc (fun hG => pc_laws_toIntS starts (by first | assumption | omega)) (by first | (simp; done) | (simp [inR_iff]; done) | (simp [inR_iff]; grind) | grind) (fun hG => by simp [go_sem, markE_add, mvFlock, nvFlock, mvWorld, nvWorld]) rfl rfl (by first | exact Or.inl rfl | exact Or.inr rfl) ?_
      simp [go_sem, ty3, ty22, markE_add, mvFlock, nvFlock, mvWorld, nvWorld]
      refine callG_pc (fun hG => pc_spec_FlockNew n mem starts (by first | assumption | omega) (by first | assumption | omega)) (by first | (simp; done) | (simp [inR_iff]; done) | (simp [inR_iff]; grind) | grind) (fun hG => by simp [go_sem, markE_add, mvFlock, nvFlock, mvWorld, nvWorld]) rfl rfl (by first | exact Or.inl rfl | exact Or.inr rfl) ?_
      simp [go_sem, ty4, ty29, markE_add, mvFlock, nvFlock, mvWorld, nvWorld]
      repeat refine ⟨by first | omega | grind, ?_⟩
      refine h10 _ ?_
      clear h10 K10
      refine W_seqK fun K11 h11 => ?_
      refine W_reg ?_
      simp [go_sem, ty3, ty22, markE_add, mvFlock, nvFlock, mvWorld, nvWorld]
      refine callG_pc (fun hG => pc_laws_toIntS mem (by first | assumption | omega)) (by first | (simp; done) | (simp [inR_iff]; done) | (simp [inR_iff]; grind) | grind) (fun hG => by simp [go_sem, markE_add, mvFlock, nvFlock, mvWorld, nvWorld]) rfl rfl (by first | exact Or.inl rfl | exact Or.inr rfl) ?_
      simp [go_sem, ty3, ty22, markE_add, mvFlock, nvFlock, mvWorld, nvWorld]
      repeat refine ⟨by first | omega | grind, ?_⟩
      refine h11 _ ?_
      clear h11 K11
      refine W_seqK fun K12 h12 => ?_
      refine W_reg ?_
      simp [go_sem, ty3, ty22, markE_add, mvFlock, nvFlock, mvWorld, nvWorld]
      refine callG_pc (fun hG => pc_laws_toIntS starts (by first | assumption | omega)) (by first | (simp; done) | (simp [inR_iff]; done) | (simp [inR_iff]; grind) | grind) (fun hG => by simp [go_sem, markE_add, mvFlock, nvFlock, mvWorld, nvWorld]) rfl rfl (by first | exact Or.inl rfl | exact Or.inr rfl) ?_
      simp [go_sem, ty3, ty22, markE_add, mvFlock, nvFlock, mvWorld, nvWorld]
      repeat refine ⟨by first | omega | grind, ?_⟩
      refine h12 _ ?_
      clear h12 K12
      refine W_seqK fun K13 h13 => ?_
      refine W_reg ?_
      simp [go_sem, ty3, ty22, markE_add, mvFlock, nvFlock, mvWorld, nvWorld]
      refine callG_pc (fun hG => pc_impl_FlockNew n mem starts (by first | assumption | omega) (by first | assumption | omega)) (by first | (simp; done) | (simp [inR_iff]; done) | (simp [inR_iff]; grind) | grind) (fun hG => by simp [go_sem, markE_add, mvFlock, nvFlock, mvWorld, nvWorld]) rfl rfl (by first | exact Or.inl rfl | exact Or.inr rfl) ?_
      simp [go_sem, ty4, ty29, markE_add, mvFlock, nvFlock, mvWorld, nvWorld]
      repeat refine ⟨by first | omega | grind, ?_⟩
      refine h13 _ ?_
      clear h13 K13
      refine W_seqK fun K14 h14 => ?_
      refine W_seqK fun K15 h15 => ?_
      refine W_reg ?_
      simp [go_sem, ty4, ty29, markE_add, mvFlock, nvFlock, mvWorld, nvWorld]
      refine callG_pc (fun hG => pc_laws_eqFlock (flockNew n mem starts) (flockNew n mem starts) (by first | assumption | omega)) (by first | (simp; done) | (simp [inR_iff]; done) | (simp [inR_iff]; grind) | grind) (fun hG => by simp [go_sem, markE_add, mvFlock, nvFlock, mvWorld, nvWorld]) rfl rfl (by first | exact Or.inl rfl | exact Or.inr rfl) ?_
      simp [go_sem, ty4, markE_add, mvFlock, nvFlock, mvWorld, nvWorld]
      repeat refine ⟨by first | omega | grind, ?_⟩
      refine h15 _ ?_
      clear h15 K15
      refine W_cond rfl (fun hb16 => by first | (simp at hb16; done) | (simp at hb16; omega) | (simp at hb16; exact absurd hb16 (Int.not_lt.2 (markE_nn _ (by omega))))) fun hb16 => ?_
      clear hb16
      refine W_skip ?_
      repeat refine ⟨by first | omega | grind, ?_⟩
      refine h14 _ ?_
      clear h14 K14
      refine W_seqK fun K17 h17 => ?_
      refine W_seqK fun K18 h18 => ?_
      refine W_reg ?_
      simp [go_sem, ty3, ty22, markE_add, mvFlock, nvFlock, mvWorld, nvWorld]
      refine callG_pc (fun hG => pc_laws_toIntS mem (by first | assumption | omega)) (by first | (simp; done) | (simp [inR_iff]; done) | (simp [inR_iff]; grind) | grind) (fun hG => by simp [go_sem, markE_add, mvFlock, nvFlock, mvWorld, nvWorld]) rfl rfl (by first | exact Or.inl rfl | exact Or.inr rfl) ?_
      simp [go_sem, ty3, ty4, ty22, markE_add, mvFlock, nvFlock, mvWorld, nvWorld]
      refine callG_pc (fun hG => pc_laws_eqIntS mem mem (by first | assumption | omega)) (by first | (simp; done) | (simp [inR_iff]; done) | (simp [inR_iff]; grind) | grind) (fun hG => by simp [go_sem, markE_add, mvFlock, nvFlock, mvWorld, nvWorld]) rfl rfl (by first | exact Or.inl rfl | exact Or.inr rfl) ?_
      simp [go_sem, ty4, markE_add, mvFlock, nvFlock, mvWorld, nvWorld]
      repeat refine ⟨by first | omega | grind, ?_⟩
      refine h18 _ ?_
      clear h18 K18
      refine W_cond rfl (fun hb19 => by first | (simp at hb19; done) | (simp at hb19; omega) | (simp at hb19; exact absurd hb19 (Int.not_lt.2 (markE_nn _ (by omega))))) fun hb19 => ?_
      clear hb19
      refine W_skip ?_
      repeat refine ⟨by first | omega | grind, ?_⟩
      refine h17 _ ?_
      clear h17 K17
      refine W_seqK fun K20 h20 => ?_
      refine W_seqK fun K21 h21 => ?_
      refine W_reg ?_
      simp [go_sem, ty3, ty22, markE_add, mvFlock, nvFlock, mvWorld, nvWorld]
      refine callG_pc (fun hG => pc_laws_toIntS starts (by first | assumption | omega)) (by first | (simp; done) | (simp [inR_iff]; done) | (simp [inR_iff]; grind) | grind) (fun hG => by simp [go_sem, markE_add, mvFlock, nvFlock, mvWorld, nvWorld]) rfl rfl (by first | exact Or.inl rfl | exact Or.inr rfl) ?_
      simp [go_sem, ty3, ty4, ty22, markE_add, mvFlock, nvFlock, mvWorld, nvWorld]
      refine callG_pc (fun hG => pc_laws_eqIntS starts starts (by first | assumption | omega)) (by first | (simp; done) | (simp [inR_iff]; done) | (simp [inR_iff]; grind) | grind) (fun hG => by simp [go_sem, markE_add, mvFlock, nvFlock, mvWorld, nvWorld]) rfl rfl (by first | exact Or.inl rfl | exact Or.inr rfl) ?_
      simp [go_sem, ty4, markE_add, mvFlock, nvFlock, mvWorld, nvWorld]
      repeat refine ⟨by first | omega | grind, ?_⟩
      refine h21 _ ?_
      clear h21 K21
      refine W_cond rfl (fun hb22 => by first | (simp at hb22; done) | (simp at hb22; omega) | (simp at hb22; exact absurd hb22 (Int.not_lt.2 (markE_nn _ (by omega))))) fun hb22 => ?_
      clear hb22
      refine W_skip ?_
      repeat refine ⟨by first | omega | grind, ?_⟩
      refine h20 _ ?_
      clear h20 K20
      refine W_seqK fun K23 h23 => ?_
      refine W_reg ?_
      simp [go_sem, ty3, markE_add, mvFlock, nvFlock, mvWorld, nvWorld]
      repeat refine ⟨by first | omega | grind, ?_⟩
      refine h23 _ ?_
      clear h23 K23
      refine W_seqK fun K24 h24 => ?_
      refine W_reg ?_
      simp [go_sem, ty3, ty22, markE_add, mvFlock, nvFlock, mvWorld, nvWorld]
      refine callG_true (by simp) (CallW_mut (mc_laws_markIntS mem 1 (by first | assumption | omega)) rfl rfl rfl (by simp [go_sem, markE_add, mvFlock, nvFlock, mvWorld, nvWorld]) rfl ?_)
      simp [go_sem, ty3, markE_add, mvFlock, nvFlock, mvWorld, nvWorld]
      repeat refine ⟨by first | omega | grind, ?_⟩
      refine h24 _ ?_
      clear h24 K24
      refine W_seqK fun K25 h25 => ?_
      refine W_reg ?_
      simp [go_sem, ty3, ty22, markE_add, mvFlock, nvFlock, mvWorld, nvWorld]
      refine callG_true (by simp) (CallW_mut (mc_laws_markIntS starts (markE 1 (mem.length)) (by first | assumption | omega)) rfl rfl rfl (by simp [go_sem, markE_add, mvFlock, nvFlock, mvWorld, nvWorld]) rfl ?_)
      simp [go_sem, ty3, markE_add, mvFlock, nvFlock, mvWorld, nvWorld]
      repeat refine ⟨by first | omega | grind, ?_⟩
      refine h25 _ ?_
      clear h25 K25
      refine W_seqK fun K26 h26 => ?_
      refine W_seqK fun K27 h27 => ?_
      refine W_reg ?_
      simp [go_sem, ty3, ty4, ty29, markE_add, mvFlock, nvFlock, mvWorld, nvWorld]
      refine callG_pc (fun hG => pc_laws_eqFlock (flockNew n mem starts) (flockNew n mem starts) (by first | assumption | omega)) (by first | (simp; done) | (simp [inR_iff]; done) | (simp [inR_iff]; grind) | grind) (fun hG => by simp [go_sem, markE_add, mvFlock, nvFlock, mvWorld, nvWorld]) rfl rfl (by first | exact Or.inl rfl | exact Or.inr rfl) ?_
      simp [go_sem, ty4, markE_add, mvFlock, nvFlock, mvWorld, nvWorld]
      repeat refine ⟨by first | omega | grind, ?_⟩
      refine h27 _ ?_
      clear h27 K27
      refine W_cond rfl (fun hb28 => by first | (simp at hb28; done) | (simp at hb28; omega) | (simp at hb28; exact absurd hb28 (Int.not_lt.2 (markE_nn _ (by omega))))) fun hb28 => ?_
      clear hb28
      refine W_skip ?_
      repeat refine ⟨by first | omega | grind, ?_⟩
      refine h26 _ ?_
      clear h26 K26
      refine W_seqK fun K29 h29 => ?_
      refine W_reg ?_
      simp [go_sem, ty3, markE_add, mvFlock, nvFlock, mvWorld, nvWorld]
      repeat refine ⟨by first | omega | grind, ?_⟩
      refine h29 _ ?_
      clear h29 K29
      refine W_seqK fun K30 h30 => ?_
      refine W_reg ?_
      simp [go_sem, ty3, ty29, markE_add, mvFlock, nvFlock, mvWorld, nvWorld]
      refine callG_true (by simp) ((CallW_inline (n := 14) Try.func16 rfl rfl rfl rfl (by simp) fun a_ => ?_))
      refine W_seqK fun K31 h31 => ?_
      refine W_reg ?_
      simp [go_sem, ty3, ty29, markE_add, mvFlock, nvFlock, mvWorld, nvWorld]
      repeat refine ⟨by first | omega | grind, ?_⟩
      refine h31 _ ?_
      clear h31 K31
      refine W_seqK fun K32 h32 => ?_
      refine W_reg ?_
      simp [go_sem, ty3, ty26, ty29, markE_add, mvFlock, nvFlock, mvWorld, nvWorld]
      refine callG_true (by simp) ((CallW_inline (n := 14) Try.func67 rfl rfl rfl rfl (by simp) fun a_ => ?_))
      refine W_seqK fun K33 h33 => ?_
      refine W_reg ?_
      simp [go_sem, ty3, ty26, markE_add, mvFlock, nvFlock, mvWorld, nvWorld]
      repeat refine ⟨by first | omega | grind, ?_⟩
      refine h33 _ ?_
      clear h33 K33
      refine W_seqK fun K34 h34 => ?_
      refine W_reg ?_
      simp [go_sem, ty3, ty23, ty26, ty103, markE_add, mvFlock, nvFlock, mvWorld, nvWorld]
      refine callG_true (by simp) (CallW_mut (mc_laws_markNodeS (((flockNew n mem starts).world).nodes) 1 (by first | assumption | omega) (by first | assumption | omega)) rfl rfl rfl (by simp [go_sem, markE_add, mvFlock, nvFlock, mvWorld, nvWorld]) rfl ?_)
      simp [go_sem, ty3, markE_add, mvFlock, nvFlock, mvWorld, nvWorld]
      repeat refine ⟨by first | omega | grind, ?_⟩
      refine h34 _ ?_
      clear h34 K34
      refine W_seqK fun K35 h35 => ?_
      refine W_reg ?_
      simp [go_sem, ty3, ty24, ty26, ty191, markE_add, mvFlock, nvFlock, mvWorld, nvWorld]
      refine callG_true (by simp) (CallW_mut (mc_laws_markPacketS (((flockNew n mem starts).world).net) (markE 1 (((((flockNew n mem starts).world).nodes).map nNode).sum)) (by first | assumption | omega) (by first | assumption | omega)) rfl rfl rfl (by simp [go_sem, markE_add, mvFlock, nvFlock, mvWorld, nvWorld]) rfl ?_)
      simp [go_sem, ty3, markE_add, mvFlock, nvFlock, mvWorld, nvWorld]
      repeat refine ⟨by first | omega | grind, ?_⟩
      refine h35 _ ?_
      clear h35 K35
      refine W_seqK fun K36 h36 => ?_
      refine W_reg ?_
      simp [go_sem, ty3, markE_add, mvFlock, nvFlock, mvWorld, nvWorld]
      repeat refine ⟨by first | omega | grind, ?_⟩
      refine h36 _ ?_
      clear h36 K36
      refine W_ret ?_
      simp [go_sem]
      refine ⟨_, _, ⟨rfl, rfl⟩, ?_⟩
      simp [go_sem, ty3, markE_add, mvFlock, nvFlock, mvWorld, nvWorld]
      repeat refine ⟨by first | omega | grind, ?_⟩
      refine h32 _ ?_
      clear h32 K32
      refine W_seqK fun K37 h37 => ?_
      refine W_reg ?_
      simp [go_sem, ty3, ty27, ty29, ty107, markE_add, mvFlock, nvFlock, mvWorld, nvWorld]
      refine callG_true (by simp) (CallW_mut (mc_laws_markCoreS ((flockNew n mem starts).cores) (markE 1 (((((flockNew n mem starts).world).nodes).map nNode).sum + ((((flockNew n mem starts).world).net).map nPacket).sum)) (by first | assumption | omega) (by first | assumption | omega)) rfl rfl rfl (by simp [go_sem, markE_add, mvFlock, nvFlock, mvWorld, nvWorld]) rfl ?_)
      simp [go_sem, ty3, markE_add, mvFlock, nvFlock, mvWorld, nvWorld]
      repeat refine ⟨by first | omega | grind, ?_⟩
      refine h37 _ ?_
      clear h37 K37
      refine W_seqK fun K38 h38 => ?_
      refine W_reg ?_
      simp [go_sem, ty3, markE_add, mvFlock, nvFlock, mvWorld, nvWorld]
      repeat refine ⟨by first | omega | grind, ?_⟩
      refine h38 _ ?_
      clear h38 K38
      refine W_ret ?_
      simp [go_sem]
      refine ⟨_, _, ⟨rfl, rfl⟩, ?_⟩
      simp [go_sem, ty3, markE_add, mvFlock, nvFlock, mvWorld, nvWorld]
      repeat refine ⟨by first | omega | grind, ?_⟩
      refine h30 _ ?_
      clear h30 K30
      refine W_seqK fun K39 h39 => ?_
      refine W_reg ?_
      simp [go_sem, ty3, markE_add, mvFlock, nvFlock, mvWorld, nvWorld]
      repeat refine ⟨by first | omega | grind, ?_⟩
      refine h39 _ ?_
      clear h39 K39
      refine W_seqK fun K40 h40 => ?_
      refine W_reg ?_
      simp [go_sem, ty3, ty29, markE_add, mvFlock, nvFlock, mvWorld, nvWorld]
      refine callG_pc (fun hG => pc_laws_heldFlock (flockNew n mem starts) 1 (by first | assumption | omega) (fun m hm => by (try simp only [nvMsg, nvSender, nvPacket, nvFrame, nvHome, nvNode, nvWorld, nvHart, nvBlock, nvCore, nvFlock] at hm); first | exact hp m (by omega) | (rw [markE_add]; exact hp _ (by omega)) | exact markE_nn m (by omega) | (rw [markE_add]; exact markE_nn _ (by omega)))) (by first | (simp; done) | (simp [inR_iff]; done) | (simp [inR_iff]; grind) | grind) (fun hG => by simp [go_sem, markE_add, mvFlock, nvFlock, mvWorld, nvWorld]) rfl rfl (by first | exact Or.inl rfl | exact Or.inr rfl) ?_
      simp [go_sem, ty3, markE_add, mvFlock, nvFlock, mvWorld, nvWorld]
      repeat refine ⟨by first | omega | grind, ?_⟩
      refine h40 _ ?_
      clear h40 K40
      refine W_seqK fun K41 h41 => ?_
      refine W_seqK fun K42 h42 => ?_
      refine W_reg ?_
      simp [go_sem, ty3, ty4, markE_add, mvFlock, nvFlock, mvWorld, nvWorld]
      repeat refine ⟨by first | omega | grind, ?_⟩
      refine h42 _ ?_
      clear h42 K42
      refine W_cond rfl (fun hb43 => by first | (simp at hb43; done) | (simp at hb43; omega) | (simp at hb43; exact absurd hb43 (Int.not_lt.2 (markE_nn _ (by omega))))) fun hb43 => ?_
      clear hb43
      refine W_skip ?_
      repeat refine ⟨by first | omega | grind, ?_⟩
      refine h41 _ ?_
      clear h41 K41
      refine W_seqK fun K44 h44 => ?_
      refine W_seqK fun K45 h45 => ?_
      refine W_reg ?_
      simp [go_sem, ty3, ty4, markE_add, mvFlock, nvFlock, mvWorld, nvWorld]
      repeat refine ⟨by first | omega | grind, ?_⟩
      refine h45 _ ?_
      clear h45 K45
      refine W_cond rfl (fun hb46 => by first | (simp at hb46; done) | (simp at hb46; omega) | (simp at hb46; exact absurd hb46 (Int.not_lt.2 (markE_nn _ (by omega))))) fun hb46 => ?_
      clear hb46
      refine W_skip ?_
      repeat refine ⟨by first | omega | grind, ?_⟩
      refine h44 _ ?_
      clear h44 K44
      refine W_seqK fun K47 h47 => ?_
      refine W_reg ?_
      simp [go_sem, ty3, ty22, markE_add, mvFlock, nvFlock, mvWorld, nvWorld]
      refine callG_pc (fun hG => pc_laws_toIntS mem (by first | assumption | omega)) (by first | (simp; done) | (simp [inR_iff]; done) | (simp [inR_iff]; grind) | grind) (fun hG => by simp [go_sem, markE_add, mvFlock, nvFlock, mvWorld, nvWorld]) rfl rfl (by first | exact Or.inl rfl | exact Or.inr rfl) ?_
      simp [go_sem, ty3, ty22, markE_add, mvFlock, nvFlock, mvWorld, nvWorld]
      refine callG_pc (fun hG => pc_laws_toIntS starts (by first | assumption | omega)) (by first | (simp; done) | (simp [inR_iff]; done) | (simp [inR_iff]; grind) | grind) (fun hG => by simp [go_sem, markE_add, mvFlock, nvFlock, mvWorld, nvWorld]) rfl rfl (by first | exact Or.inl rfl | exact Or.inr rfl) ?_
      simp [go_sem, ty3, ty22, markE_add, mvFlock, nvFlock, mvWorld, nvWorld]
      refine callG_pc (fun hG => pc_impl_FlockNew n mem starts (by first | assumption | omega) (by first | assumption | omega)) (by first | (simp; done) | (simp [inR_iff]; done) | (simp [inR_iff]; grind) | grind) (fun hG => by simp [go_sem, markE_add, mvFlock, nvFlock, mvWorld, nvWorld]) rfl rfl (by first | exact Or.inl rfl | exact Or.inr rfl) ?_
      simp [go_sem, ty4, ty29, markE_add, mvFlock, nvFlock, mvWorld, nvWorld]
      repeat refine ⟨by first | omega | grind, ?_⟩
      refine h47 _ ?_
      clear h47 K47
      refine W_seqK fun K48 h48 => ?_
      refine W_seqK fun K49 h49 => ?_
      refine W_reg ?_
      simp [go_sem, ty4, ty29, markE_add, mvFlock, nvFlock, mvWorld, nvWorld]
      refine callG_pc (fun hG => pc_laws_eqFlock (flockNew n mem starts) (flockNew n mem starts) (by first | assumption | omega)) (by first | (simp; done) | (simp [inR_iff]; done) | (simp [inR_iff]; grind) | grind) (fun hG => by simp [go_sem, markE_add, mvFlock, nvFlock, mvWorld, nvWorld]) rfl rfl (by first | exact Or.inl rfl | exact Or.inr rfl) ?_
      simp [go_sem, ty4, markE_add, mvFlock, nvFlock, mvWorld, nvWorld]
      repeat refine ⟨by first | omega | grind, ?_⟩
      refine h49 _ ?_
      clear h49 K49
      refine W_cond rfl (fun hb50 => by first | (simp at hb50; done) | (simp at hb50; omega) | (simp at hb50; exact absurd hb50 (Int.not_lt.2 (markE_nn _ (by omega))))) fun hb50 => ?_
      clear hb50
      refine W_skip ?_
      repeat refine ⟨by first | omega | grind, ?_⟩
      refine h48 _ ?_
      clear h48 K48
      refine W_seqK fun K51 h51 => ?_
      refine W_reg ?_
      simp [go_sem, ty3, markE_add, mvFlock, nvFlock, mvWorld, nvWorld]
      repeat refine ⟨by first | omega | grind, ?_⟩
      refine h51 _ ?_
      clear h51 K51
      refine W_seqK fun K52 h52 => ?_
      refine W_reg ?_
      simp [go_sem, ty3, ty29, markE_add, mvFlock, nvFlock, mvWorld, nvWorld]
      refine callG_pc (fun hG => pc_laws_heldFlock (flockNew n mem starts) 1 (by first | assumption | omega) (fun m hm => by (try simp only [nvMsg, nvSender, nvPacket, nvFrame, nvHome, nvNode, nvWorld, nvHart, nvBlock, nvCore, nvFlock] at hm); first | exact hp m (by omega) | (rw [markE_add]; exact hp _ (by omega)) | exact markE_nn m (by omega) | (rw [markE_add]; exact markE_nn _ (by omega)))) (by first | (simp; done) | (simp [inR_iff]; done) | (simp [inR_iff]; grind) | grind) (fun hG => by simp [go_sem, markE_add, mvFlock, nvFlock, mvWorld, nvWorld]) rfl rfl (by first | exact Or.inl rfl | exact Or.inr rfl) ?_
      simp [go_sem, ty3, markE_add, mvFlock, nvFlock, mvWorld, nvWorld]
      repeat refine ⟨by first | omega | grind, ?_⟩
      refine h52 _ ?_
      clear h52 K52
      refine W_seqK fun K53 h53 => ?_
      refine W_seqK fun K54 h54 => ?_
      refine W_reg ?_
      simp [go_sem, ty3, ty4, markE_add, mvFlock, nvFlock, mvWorld, nvWorld]
      repeat refine ⟨by first | omega | grind, ?_⟩
      refine h54 _ ?_
      clear h54 K54
      refine W_cond rfl (fun hb55 => by first | (simp at hb55; done) | (simp at hb55; omega) | (simp at hb55; exact absurd hb55 (Int.not_lt.2 (markE_nn _ (by omega))))) fun hb55 => ?_
      clear hb55
      refine W_skip ?_
      repeat refine ⟨by first | omega | grind, ?_⟩
      refine h53 _ ?_
      clear h53 K53
      refine W_seqK fun K56 h56 => ?_
      refine W_seqK fun K57 h57 => ?_
      refine W_reg ?_
      simp [go_sem, ty3, ty4, markE_add, mvFlock, nvFlock, mvWorld, nvWorld]
      repeat refine ⟨by first | omega | grind, ?_⟩
      refine h57 _ ?_
      clear h57 K57
      refine W_cond rfl (fun hb58 => by first | (simp at hb58; done) | (simp at hb58; omega) | (simp at hb58; exact absurd hb58 (Int.not_lt.2 (markE_nn _ (by omega))))) fun hb58 => ?_
      clear hb58
      refine W_skip ?_
      repeat refine ⟨by first | omega | grind, ?_⟩
      refine h56 _ ?_
      clear h56 K56
      refine W_seqK fun K59 h59 => ?_
      refine W_reg ?_
      simp [go_sem, ty4, markE_add, mvFlock, nvFlock, mvWorld, nvWorld]
      repeat refine ⟨by first | omega | grind, ?_⟩
      refine h59 _ ?_
      clear h59 K59
      refine W_ret ?_
      simp [go_sem]
end Go.Tw
