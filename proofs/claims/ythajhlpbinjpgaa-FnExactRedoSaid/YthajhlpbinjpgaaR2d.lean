/- Walks of functions: laws.FnExactRedo -/
import Derived.Test.YthajhlpbinjpgaaR2c
set_option linter.unusedSimpArgs false
set_option linter.unusedVariables false
namespace Go.Tw
open Go.Proofs

theorem pc_laws_FnExactRedo (xs : List Int) (es : List GEvent) (he : es.length ≤ 9223372036854775807) : PC Try.prog 7 [(false, [.sl 1 (enc eI xs)]), (false, [.sl 5 (enc eEvent es)])] [(false, [.bool true])] := by
  have hlen := redo_len xs es
  refine PC_of (n := 90) Try.func7 rfl rfl rfl rfl (by simp) ?_
  refine W_seqK fun K1 h1 => ?_
  refine W_reg ?_
  simp [go_sem, ty4]
  first | refine h1 _ ?_ | refine ⟨by omega, h1 _ ?_⟩ | refine ⟨by omega, by omega, h1 _ ?_⟩
  clear h1 K1
  refine W_seqK fun K2 h2 => ?_
  refine W_seqK fun K3 h3 => ?_
  refine W_reg ?_
  simp [go_sem, ty3, ty4, ty24]
  first | refine h3 _ ?_ | refine ⟨by omega, h3 _ ?_⟩ | refine ⟨by omega, by omega, h3 _ ?_⟩
  clear h3 K3
  refine W_cond rfl (fun hb4 => ?_) fun hb4 => ?_
  · simp at hb4
    refine W_seqK fun K5 h5 => ?_
    refine W_reg ?_
    simp [go_sem, ty4]
    first | refine h5 _ ?_ | refine ⟨by omega, h5 _ ?_⟩ | refine ⟨by omega, by omega, h5 _ ?_⟩
    clear h5 K5
    refine W_ret ?_
    simp [go_sem]
  · simp at hb4
    refine W_skip ?_
    first | refine h2 _ ?_ | refine ⟨by omega, h2 _ ?_⟩ | refine ⟨by omega, by omega, h2 _ ?_⟩
    clear h2 K2
    refine W_seqK fun K6 h6 => ?_
    refine W_reg ?_
    simp [go_sem, ty3]
    first | refine h6 _ ?_ | refine ⟨by omega, h6 _ ?_⟩ | refine ⟨by omega, by omega, h6 _ ?_⟩
    clear h6 K6
    refine W_seqK fun K7 h7 => ?_
    refine W_reg ?_
    simp [go_sem, ty3, ty31, ty44]
    refine callG_pc (fun hG => pc_laws_szEventS es 1048576 (by omega) (by omega) (by omega)) (by simp) (fun hG => by simp [go_sem]) rfl rfl (by first | exact Or.inl rfl | exact Or.inr rfl) ?_
    simp [go_sem, ty3]
    first | refine h7 _ ?_ | refine ⟨by omega, h7 _ ?_⟩ | refine ⟨by omega, by omega, h7 _ ?_⟩
    clear h7 K7
    refine W_seqK fun K8 h8 => ?_
    refine W_seqK fun K9 h9 => ?_
    refine W_reg ?_
    simp [go_sem, ty3, ty4]
    first | refine h9 _ ?_ | refine ⟨by omega, h9 _ ?_⟩ | refine ⟨by omega, by omega, h9 _ ?_⟩
    clear h9 K9
    refine W_cond rfl (fun hb10 => ?_) fun hb10 => ?_
    · skip
      refine W_seqK fun K11 h11 => ?_
      refine W_reg ?_
      simp [go_sem, ty4]
      first | refine h11 _ ?_ | refine ⟨by omega, h11 _ ?_⟩ | refine ⟨by omega, by omega, h11 _ ?_⟩
      clear h11 K11
      refine W_ret ?_
      simp [go_sem]
    · have hs0 := szL_pos hb10
      clear hb10
      have hm0 := markE_pos (1) (xs.length) (by omega) (by omega)
      have hn0 : ¬ ((1 : Int) + ((xs.length : Nat) : Int) < 0) := by omega
      have hm1 := markE_pos (1 + (xs.length : Int)) (5 * es.length) (by omega) (by omega)
      have hn1 : ¬ ((1 + (xs.length : Int) : Int) + ((5 * es.length : Nat) : Int) < 0) := by omega
      have hm2 := markE_pos (1) ((redo xs es).length) (by omega) (by omega)
      have hn2 : ¬ ((1 : Int) + (((redo xs es).length : Nat) : Int) < 0) := by omega
      refine W_skip ?_
      first | refine h8 _ ?_ | refine ⟨by omega, h8 _ ?_⟩ | refine ⟨by omega, by omega, h8 _ ?_⟩
      clear h8 K8
      refine W_seqK fun K12 h12 => ?_
      refine W_reg ?_
      simp [go_sem, ty3, ty24, hm0, hn0, hm1, hn1, hm2, hn2]
      refine callG_pc (fun hG => pc_laws_toIntS xs (by omega)) (by simp) (fun hG => by simp [go_sem, hm0, hn0, hm1, hn1, hm2, hn2]) rfl rfl (by first | exact Or.inl rfl | exact Or.inr rfl) ?_
      simp [go_sem, ty31, ty33, ty44, ty48, hm0, hn0, hm1, hn1, hm2, hn2]
      refine callG_pc (fun hG => pc_laws_toEventS es (by omega)) (by simp) (fun hG => by simp [go_sem, hm0, hn0, hm1, hn1, hm2, hn2]) rfl rfl (by first | exact Or.inl rfl | exact Or.inr rfl) ?_
      simp [go_sem, ty3, ty24, ty33, ty48, hm0, hn0, hm1, hn1, hm2, hn2]
      refine callG_pc (fun hG => pc_spec_Redo xs es (by omega) (by omega)) (by simp) (fun hG => by simp [go_sem, hm0, hn0, hm1, hn1, hm2, hn2]) rfl rfl (by first | exact Or.inl rfl | exact Or.inr rfl) ?_
      simp [go_sem, ty3, ty24, hm0, hn0, hm1, hn1, hm2, hn2]
      first | refine h12 _ ?_ | refine ⟨by omega, h12 _ ?_⟩ | refine ⟨by omega, by omega, h12 _ ?_⟩
      clear h12 K12
      refine W_seqK fun K13 h13 => ?_
      refine W_reg ?_
      simp [go_sem, ty3, ty24, hm0, hn0, hm1, hn1, hm2, hn2]
      refine callG_pc (fun hG => pc_laws_toIntS xs (by omega)) (by simp) (fun hG => by simp [go_sem, hm0, hn0, hm1, hn1, hm2, hn2]) rfl rfl (by first | exact Or.inl rfl | exact Or.inr rfl) ?_
      simp [go_sem, ty3, ty24, hm0, hn0, hm1, hn1, hm2, hn2]
      first | refine h13 _ ?_ | refine ⟨by omega, h13 _ ?_⟩ | refine ⟨by omega, by omega, h13 _ ?_⟩
      clear h13 K13
      refine W_seqK fun K14 h14 => ?_
      refine W_reg ?_
      simp [go_sem, ty31, ty33, ty44, ty48, hm0, hn0, hm1, hn1, hm2, hn2]
      refine callG_pc (fun hG => pc_laws_toEventS es (by omega)) (by simp) (fun hG => by simp [go_sem, hm0, hn0, hm1, hn1, hm2, hn2]) rfl rfl (by first | exact Or.inl rfl | exact Or.inr rfl) ?_
      simp [go_sem, ty33, ty48, hm0, hn0, hm1, hn1, hm2, hn2]
      first | refine h14 _ ?_ | refine ⟨by omega, h14 _ ?_⟩ | refine ⟨by omega, by omega, h14 _ ?_⟩
      clear h14 K14
      refine W_seqK fun K15 h15 => ?_
      refine W_reg ?_
      simp [go_sem, ty3, ty24, ty33, ty48, hm0, hn0, hm1, hn1, hm2, hn2]
      refine callG_pc (fun hG => pc_impl_Redo xs es (by omega) (by omega)) (by simp) (fun hG => by simp [go_sem, hm0, hn0, hm1, hn1, hm2, hn2]) rfl rfl (by first | exact Or.inl rfl | exact Or.inr rfl) ?_
      simp [go_sem, ty3, ty24, hm0, hn0, hm1, hn1, hm2, hn2]
      first | refine h15 _ ?_ | refine ⟨by omega, h15 _ ?_⟩ | refine ⟨by omega, by omega, h15 _ ?_⟩
      clear h15 K15
      refine W_seqK fun K16 h16 => ?_
      refine W_seqK fun K17 h17 => ?_
      refine W_reg ?_
      simp [go_sem, ty3, ty4, ty24, hm0, hn0, hm1, hn1, hm2, hn2]
      refine callG_pc (fun hG => pc_laws_eqIntS (redo xs es) (redo xs es) (by omega)) (by simp) (fun hG => by simp [go_sem, hm0, hn0, hm1, hn1, hm2, hn2]) rfl rfl (by first | exact Or.inl rfl | exact Or.inr rfl) ?_
      simp [go_sem, ty4, hm0, hn0, hm1, hn1, hm2, hn2]
      first | refine h17 _ ?_ | refine ⟨by omega, h17 _ ?_⟩ | refine ⟨by omega, by omega, h17 _ ?_⟩
      clear h17 K17
      refine W_cond rfl (fun hb18 => by first | (simp at hb18; done) | (simp at hb18; omega)) fun hb18 => ?_
      clear hb18
      refine W_skip ?_
      first | refine h16 _ ?_ | refine ⟨by omega, h16 _ ?_⟩ | refine ⟨by omega, by omega, h16 _ ?_⟩
      clear h16 K16
      refine W_seqK fun K19 h19 => ?_
      refine W_seqK fun K20 h20 => ?_
      refine W_reg ?_
      simp [go_sem, ty3, ty24, hm0, hn0, hm1, hn1, hm2, hn2]
      refine callG_pc (fun hG => pc_laws_toIntS xs (by omega)) (by simp) (fun hG => by simp [go_sem, hm0, hn0, hm1, hn1, hm2, hn2]) rfl rfl (by first | exact Or.inl rfl | exact Or.inr rfl) ?_
      simp [go_sem, ty3, ty4, ty24, hm0, hn0, hm1, hn1, hm2, hn2]
      refine callG_pc (fun hG => pc_laws_eqIntS xs xs (by omega)) (by simp) (fun hG => by simp [go_sem, hm0, hn0, hm1, hn1, hm2, hn2]) rfl rfl (by first | exact Or.inl rfl | exact Or.inr rfl) ?_
      simp [go_sem, ty4, hm0, hn0, hm1, hn1, hm2, hn2]
      first | refine h20 _ ?_ | refine ⟨by omega, h20 _ ?_⟩ | refine ⟨by omega, by omega, h20 _ ?_⟩
      clear h20 K20
      refine W_cond rfl (fun hb21 => by first | (simp at hb21; done) | (simp at hb21; omega)) fun hb21 => ?_
      clear hb21
      refine W_skip ?_
      first | refine h19 _ ?_ | refine ⟨by omega, h19 _ ?_⟩ | refine ⟨by omega, by omega, h19 _ ?_⟩
      clear h19 K19
      refine W_seqK fun K22 h22 => ?_
      refine W_seqK fun K23 h23 => ?_
      refine W_reg ?_
      simp [go_sem, ty31, ty33, ty44, ty48, hm0, hn0, hm1, hn1, hm2, hn2]
      refine callG_pc (fun hG => pc_laws_toEventS es (by omega)) (by simp) (fun hG => by simp [go_sem, hm0, hn0, hm1, hn1, hm2, hn2]) rfl rfl (by first | exact Or.inl rfl | exact Or.inr rfl) ?_
      simp [go_sem, ty4, ty33, ty48, hm0, hn0, hm1, hn1, hm2, hn2]
      refine callG_pc (fun hG => pc_laws_eqEventS es es (by omega)) (by simp) (fun hG => by simp [go_sem, hm0, hn0, hm1, hn1, hm2, hn2]) rfl rfl (by first | exact Or.inl rfl | exact Or.inr rfl) ?_
      simp [go_sem, ty4, hm0, hn0, hm1, hn1, hm2, hn2]
      first | refine h23 _ ?_ | refine ⟨by omega, h23 _ ?_⟩ | refine ⟨by omega, by omega, h23 _ ?_⟩
      clear h23 K23
      refine W_cond rfl (fun hb24 => by first | (simp at hb24; done) | (simp at hb24; omega)) fun hb24 => ?_
      clear hb24
      refine W_skip ?_
      first | refine h22 _ ?_ | refine ⟨by omega, h22 _ ?_⟩ | refine ⟨by omega, by omega, h22 _ ?_⟩
      clear h22 K22
      refine W_seqK fun K25 h25 => ?_
      refine W_reg ?_
      simp [go_sem, ty3, hm0, hn0, hm1, hn1, hm2, hn2]
      first | refine h25 _ ?_ | refine ⟨by omega, h25 _ ?_⟩ | refine ⟨by omega, by omega, h25 _ ?_⟩
      clear h25 K25
      refine W_seqK fun K26 h26 => ?_
      refine W_reg ?_
      simp [go_sem, ty3, ty24, hm0, hn0, hm1, hn1, hm2, hn2]
      refine callG_true (by simp) (CallW_mut (mc_laws_markIntS xs 1 (by omega)) rfl rfl rfl (by simp [go_sem, hm0, hn0, hm1, hn1, hm2, hn2]) rfl ?_)
      simp [go_sem, ty3, hm0, hn0, hm1, hn1, hm2, hn2]
      first | refine h26 _ ?_ | refine ⟨by omega, h26 _ ?_⟩ | refine ⟨by omega, by omega, h26 _ ?_⟩
      clear h26 K26
      refine W_seqK fun K27 h27 => ?_
      refine W_reg ?_
      simp [go_sem, ty3, ty33, ty48, hm0, hn0, hm1, hn1, hm2, hn2]
      refine callG_true (by simp) (CallW_mut (mc_laws_markEventS es (1 + (xs.length : Int)) (by omega)) rfl rfl rfl (by simp [go_sem, hm0, hn0, hm1, hn1, hm2, hn2]) rfl ?_)
      simp [go_sem, ty3, hm0, hn0, hm1, hn1, hm2, hn2]
      first | refine h27 _ ?_ | refine ⟨by omega, h27 _ ?_⟩ | refine ⟨by omega, by omega, h27 _ ?_⟩
      clear h27 K27
      refine W_seqK fun K28 h28 => ?_
      refine W_seqK fun K29 h29 => ?_
      refine W_reg ?_
      simp [go_sem, ty3, ty4, ty24, hm0, hn0, hm1, hn1, hm2, hn2]
      refine callG_pc (fun hG => pc_laws_eqIntS (redo xs es) (redo xs es) (by omega)) (by simp) (fun hG => by simp [go_sem, hm0, hn0, hm1, hn1, hm2, hn2]) rfl rfl (by first | exact Or.inl rfl | exact Or.inr rfl) ?_
      simp [go_sem, ty4, hm0, hn0, hm1, hn1, hm2, hn2]
      first | refine h29 _ ?_ | refine ⟨by omega, h29 _ ?_⟩ | refine ⟨by omega, by omega, h29 _ ?_⟩
      clear h29 K29
      refine W_cond rfl (fun hb30 => by first | (simp at hb30; done) | (simp at hb30; omega)) fun hb30 => ?_
      clear hb30
      refine W_skip ?_
      first | refine h28 _ ?_ | refine ⟨by omega, h28 _ ?_⟩ | refine ⟨by omega, by omega, h28 _ ?_⟩
      clear h28 K28
      refine W_seqK fun K31 h31 => ?_
      refine W_reg ?_
      simp [go_sem, ty3, hm0, hn0, hm1, hn1, hm2, hn2]
      first | refine h31 _ ?_ | refine ⟨by omega, h31 _ ?_⟩ | refine ⟨by omega, by omega, h31 _ ?_⟩
      clear h31 K31
      refine W_seqK fun K32 h32 => ?_
      refine W_reg ?_
      simp [go_sem, ty3, ty24, hm0, hn0, hm1, hn1, hm2, hn2]
      refine callG_true (by simp) (CallW_mut (mc_laws_markIntS (redo xs es) 1 (by omega)) rfl rfl rfl (by simp [go_sem, hm0, hn0, hm1, hn1, hm2, hn2]) rfl ?_)
      simp [go_sem, ty3, hm0, hn0, hm1, hn1, hm2, hn2]
      first | refine h32 _ ?_ | refine ⟨by omega, h32 _ ?_⟩ | refine ⟨by omega, by omega, h32 _ ?_⟩
      clear h32 K32
      refine W_seqK fun K33 h33 => ?_
      refine W_reg ?_
      simp [go_sem, ty3, hm0, hn0, hm1, hn1, hm2, hn2]
      first | refine h33 _ ?_ | refine ⟨by omega, h33 _ ?_⟩ | refine ⟨by omega, by omega, h33 _ ?_⟩
      clear h33 K33
      refine W_seqK fun K34 h34 => ?_
      refine W_reg ?_
      simp [go_sem, ty3, ty24, hm0, hn0, hm1, hn1, hm2, hn2]
      refine callG_pc (fun hG => pc_laws_heldIntS ((redo xs es).length) 1 (by omega)) (by simp) (fun hG => by simp [go_sem, hm0, hn0, hm1, hn1, hm2, hn2]) rfl rfl (by first | exact Or.inl rfl | exact Or.inr rfl) ?_
      simp [go_sem, ty3, hm0, hn0, hm1, hn1, hm2, hn2]
      first | refine h34 _ ?_ | refine ⟨by omega, h34 _ ?_⟩ | refine ⟨by omega, by omega, h34 _ ?_⟩
      clear h34 K34
      refine W_seqK fun K35 h35 => ?_
      refine W_seqK fun K36 h36 => ?_
      refine W_reg ?_
      simp [go_sem, ty3, ty4, hm0, hn0, hm1, hn1, hm2, hn2]
      first | refine h36 _ ?_ | refine ⟨by omega, h36 _ ?_⟩ | refine ⟨by omega, by omega, h36 _ ?_⟩
      clear h36 K36
      refine W_cond rfl (fun hb37 => by first | (simp at hb37; done) | (simp at hb37; omega)) fun hb37 => ?_
      clear hb37
      refine W_skip ?_
      first | refine h35 _ ?_ | refine ⟨by omega, h35 _ ?_⟩ | refine ⟨by omega, by omega, h35 _ ?_⟩
      clear h35 K35
      refine W_seqK fun K38 h38 => ?_
      refine W_seqK fun K39 h39 => ?_
      refine W_reg ?_
      simp [go_sem, ty3, ty4, hm0, hn0, hm1, hn1, hm2, hn2]
      first | refine h39 _ ?_ | refine ⟨by omega, h39 _ ?_⟩ | refine ⟨by omega, by omega, h39 _ ?_⟩
      clear h39 K39
      refine W_cond rfl (fun hb40 => by first | (simp at hb40; done) | (simp at hb40; omega)) fun hb40 => ?_
      clear hb40
      refine W_skip ?_
      first | refine h38 _ ?_ | refine ⟨by omega, h38 _ ?_⟩ | refine ⟨by omega, by omega, h38 _ ?_⟩
      clear h38 K38
      refine W_seqK fun K41 h41 => ?_
      refine W_reg ?_
      simp [go_sem, ty3, ty24, hm0, hn0, hm1, hn1, hm2, hn2]
      refine callG_pc (fun hG => pc_laws_toIntS xs (by omega)) (by simp) (fun hG => by simp [go_sem, hm0, hn0, hm1, hn1, hm2, hn2]) rfl rfl (by first | exact Or.inl rfl | exact Or.inr rfl) ?_
      simp [go_sem, ty31, ty33, ty44, ty48, hm0, hn0, hm1, hn1, hm2, hn2]
      refine callG_pc (fun hG => pc_laws_toEventS es (by omega)) (by simp) (fun hG => by simp [go_sem, hm0, hn0, hm1, hn1, hm2, hn2]) rfl rfl (by first | exact Or.inl rfl | exact Or.inr rfl) ?_
      simp [go_sem, ty3, ty24, ty33, ty48, hm0, hn0, hm1, hn1, hm2, hn2]
      refine callG_pc (fun hG => pc_impl_Redo xs es (by omega) (by omega)) (by simp) (fun hG => by simp [go_sem, hm0, hn0, hm1, hn1, hm2, hn2]) rfl rfl (by first | exact Or.inl rfl | exact Or.inr rfl) ?_
      simp [go_sem, ty3, ty24, hm0, hn0, hm1, hn1, hm2, hn2]
      first | refine h41 _ ?_ | refine ⟨by omega, h41 _ ?_⟩ | refine ⟨by omega, by omega, h41 _ ?_⟩
      clear h41 K41
      refine W_seqK fun K42 h42 => ?_
      refine W_seqK fun K43 h43 => ?_
      refine W_reg ?_
      simp [go_sem, ty3, ty4, ty24, hm0, hn0, hm1, hn1, hm2, hn2]
      refine callG_pc (fun hG => pc_laws_eqIntS (redo xs es) (redo xs es) (by omega)) (by simp) (fun hG => by simp [go_sem, hm0, hn0, hm1, hn1, hm2, hn2]) rfl rfl (by first | exact Or.inl rfl | exact Or.inr rfl) ?_
      simp [go_sem, ty4, hm0, hn0, hm1, hn1, hm2, hn2]
      first | refine h43 _ ?_ | refine ⟨by omega, h43 _ ?_⟩ | refine ⟨by omega, by omega, h43 _ ?_⟩
      clear h43 K43
      refine W_cond rfl (fun hb44 => by first | (simp at hb44; done) | (simp at hb44; omega)) fun hb44 => ?_
      clear hb44
      refine W_skip ?_
      first | refine h42 _ ?_ | refine ⟨by omega, h42 _ ?_⟩ | refine ⟨by omega, by omega, h42 _ ?_⟩
      clear h42 K42
      refine W_seqK fun K45 h45 => ?_
      refine W_reg ?_
      simp [go_sem, ty3, hm0, hn0, hm1, hn1, hm2, hn2]
      first | refine h45 _ ?_ | refine ⟨by omega, h45 _ ?_⟩ | refine ⟨by omega, by omega, h45 _ ?_⟩
      clear h45 K45
      refine W_seqK fun K46 h46 => ?_
      refine W_reg ?_
      simp [go_sem, ty3, ty24, hm0, hn0, hm1, hn1, hm2, hn2]
      refine callG_pc (fun hG => pc_laws_heldIntS ((redo xs es).length) 1 (by omega)) (by simp) (fun hG => by simp [go_sem, hm0, hn0, hm1, hn1, hm2, hn2]) rfl rfl (by first | exact Or.inl rfl | exact Or.inr rfl) ?_
      simp [go_sem, ty3, hm0, hn0, hm1, hn1, hm2, hn2]
      first | refine h46 _ ?_ | refine ⟨by omega, h46 _ ?_⟩ | refine ⟨by omega, by omega, h46 _ ?_⟩
      clear h46 K46
      refine W_seqK fun K47 h47 => ?_
      refine W_seqK fun K48 h48 => ?_
      refine W_reg ?_
      simp [go_sem, ty3, ty4, hm0, hn0, hm1, hn1, hm2, hn2]
      first | refine h48 _ ?_ | refine ⟨by omega, h48 _ ?_⟩ | refine ⟨by omega, by omega, h48 _ ?_⟩
      clear h48 K48
      refine W_cond rfl (fun hb49 => by first | (simp at hb49; done) | (simp at hb49; omega)) fun hb49 => ?_
      clear hb49
      refine W_skip ?_
      first | refine h47 _ ?_ | refine ⟨by omega, h47 _ ?_⟩ | refine ⟨by omega, by omega, h47 _ ?_⟩
      clear h47 K47
      refine W_seqK fun K50 h50 => ?_
      refine W_seqK fun K51 h51 => ?_
      refine W_reg ?_
      simp [go_sem, ty3, ty4, hm0, hn0, hm1, hn1, hm2, hn2]
      first | refine h51 _ ?_ | refine ⟨by omega, h51 _ ?_⟩ | refine ⟨by omega, by omega, h51 _ ?_⟩
      clear h51 K51
      refine W_cond rfl (fun hb52 => by first | (simp at hb52; done) | (simp at hb52; omega)) fun hb52 => ?_
      clear hb52
      refine W_skip ?_
      first | refine h50 _ ?_ | refine ⟨by omega, h50 _ ?_⟩ | refine ⟨by omega, by omega, h50 _ ?_⟩
      clear h50 K50
      refine W_seqK fun K53 h53 => ?_
      refine W_reg ?_
      simp [go_sem, ty4, hm0, hn0, hm1, hn1, hm2, hn2]
      first | refine h53 _ ?_ | refine ⟨by omega, h53 _ ?_⟩ | refine ⟨by omega, by omega, h53 _ ?_⟩
      clear h53 K53
      refine W_ret ?_
      simp [go_sem]
end Go.Tw
