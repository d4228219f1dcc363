/- Walks of functions: spec.TurnAt, impl.TurnAt, laws.FnExactTurnAt, laws.FnExactClockJoin -/
import Derived.Test.YtgchjiepbjkfpaaR1d
set_option linter.unusedSimpArgs false
set_option linter.unusedVariables false
namespace Go.Tw
open Go.Proofs

theorem pc_spec_TurnAt (xs : List Int) (i : Int) (hx : xs.length ≤ 1048576) : PC Try.prog 22 [(false, [.sl 1 (enc eI xs)]), (false, [.int .i64 i])] [(false, [.sl 1 (enc eI (turnAt xs i))])] := by
  refine PC_of (n := 31) Try.func22 rfl rfl rfl rfl (by simp) ?_
  refine W_seqK fun K1 h1 => ?_
  refine W_reg ?_
  simp [go_sem, ty3, ty22]
  first | refine h1 _ ?_ | refine ⟨by omega, h1 _ ?_⟩ | refine ⟨by omega, by omega, h1 _ ?_⟩
  clear h1 K1
  refine W_seqK fun K2 h2 => ?_
  refine W_reg ?_
  simp [go_sem, ty3, ty22]
  first | refine h2 _ ?_ | refine ⟨by omega, h2 _ ?_⟩ | refine ⟨by omega, by omega, h2 _ ?_⟩
  clear h2 K2
  refine W_seqK fun K3 h3 => ?_
  refine W_seqK fun K4 h4 => ?_
  refine W_reg ?_
  simp [go_sem, ty3, ty4, ty22]
  refine callG_pc (fun hG => pc_spec_l1In i 0 (IntKind.wrap .i64 (xs.length - 2))) (by simp) (fun hG => by simp [go_sem]) rfl rfl (by first | exact Or.inl rfl | exact Or.inr rfl) ?_
  simp [go_sem]
  first | refine h4 _ ?_ | refine ⟨by omega, h4 _ ?_⟩ | refine ⟨by omega, by omega, h4 _ ?_⟩
  clear h4 K4
  refine W_cond rfl (fun hb5 => ?_) fun hb5 => ?_
  · have h0 : 0 ≤ i ∧ i < xs.length - 1 := by simp [inR] at hb5; rw [wrap_ok (by omega) (by omega)] at hb5; omega
    clear hb5
    have hw : IntKind.wrap .i64 (i + 1) = i + 1 := wrap_ok (by omega) (by omega)
    obtain ⟨j, rfl⟩ : ∃ j : Nat, i = j := ⟨i.toNat, by omega⟩
    have hj1 : j + 1 < xs.length := by omega
    have hj : j < xs.length := by omega
    have ht : ((j : Int) + 1).toNat = j + 1 := by omega
    refine W_seqK fun K6 h6 => ?_
    refine W_reg ?_
    simp [go_sem, ty3, ty22, hw, ht, hj, hj1]
    refine ⟨by omega, ?_⟩
    first | refine h6 _ ?_ | refine ⟨by omega, h6 _ ?_⟩ | refine ⟨by omega, by omega, h6 _ ?_⟩
    clear h6 K6
    refine W_reg ?_
    simp [go_sem, ty3, ty22, hw, ht, hj, hj1]
    first | refine h3 _ ?_ | refine ⟨by omega, h3 _ ?_⟩ | refine ⟨by omega, by omega, h3 _ ?_⟩
    clear h3 K3
    refine W_seqK fun K7 h7 => ?_
    refine W_reg ?_
    simp [go_sem, ty3, ty22]
    first | refine h7 _ ?_ | refine ⟨by omega, h7 _ ?_⟩ | refine ⟨by omega, by omega, h7 _ ?_⟩
    clear h7 K7
    refine W_ret ?_
    simp [go_sem, turnAt, h0, hj, hj1]
  · have h0 : ¬ (0 ≤ i ∧ i < xs.length - 1) := by simp [inR] at hb5; rw [wrap_ok (by omega) (by omega)] at hb5; omega
    clear hb5
    refine W_skip ?_
    first | refine h3 _ ?_ | refine ⟨by omega, h3 _ ?_⟩ | refine ⟨by omega, by omega, h3 _ ?_⟩
    clear h3 K3
    refine W_seqK fun K8 h8 => ?_
    refine W_reg ?_
    simp [go_sem, ty3, ty22]
    first | refine h8 _ ?_ | refine ⟨by omega, h8 _ ?_⟩ | refine ⟨by omega, by omega, h8 _ ?_⟩
    clear h8 K8
    refine W_ret ?_
    simp [go_sem, turnAt, h0]

theorem pc_impl_TurnAt (xs : List Int) (i : Int) (hx : xs.length ≤ 1048576) : PC Try.prog 23 [(false, [.sl 1 (enc eI xs)]), (false, [.int .i64 i])] [(false, [.sl 1 (enc eI (turnAt xs i))])] := by
  refine PC_of (n := 30) Try.func23 rfl rfl rfl rfl (by simp) ?_
  refine W_seqK fun K1 h1 => ?_
  refine W_reg ?_
  simp [go_sem, ty3, ty22]
  first | refine h1 _ ?_ | refine ⟨by omega, h1 _ ?_⟩ | refine ⟨by omega, by omega, h1 _ ?_⟩
  clear h1 K1
  refine W_seqK fun K2 h2 => ?_
  refine W_reg ?_
  simp [go_sem, ty3, ty22]
  refine callG_pc (fun hG => pc_slices_Clone_int_int xs (by omega)) (by simp) (fun hG => by simp [go_sem]) rfl rfl (by first | exact Or.inl rfl | exact Or.inr rfl) ?_
  simp [go_sem, ty3, ty22]
  first | refine h2 _ ?_ | refine ⟨by omega, h2 _ ?_⟩ | refine ⟨by omega, by omega, h2 _ ?_⟩
  clear h2 K2
  refine W_seqK fun K3 h3 => ?_
  refine W_seqK fun K4 h4 => ?_
  refine W_reg ?_
  simp [go_sem, ty3, ty4, ty22]
  refine callG_pc (fun hG => pc_impl_from i 0 (IntKind.wrap .i64 (xs.length - 2))) (by simp) (fun hG => by simp [go_sem]) rfl rfl (by first | exact Or.inl rfl | exact Or.inr rfl) ?_
  simp [go_sem]
  first | refine h4 _ ?_ | refine ⟨by omega, h4 _ ?_⟩ | refine ⟨by omega, by omega, h4 _ ?_⟩
  clear h4 K4
  refine W_cond rfl (fun hb5 => ?_) fun hb5 => ?_
  · have h0 : 0 ≤ i ∧ i < xs.length - 1 := by simp [inR] at hb5; rw [wrap_ok (by omega) (by omega)] at hb5; omega
    clear hb5
    have hw : IntKind.wrap .i64 (i + 1) = i + 1 := wrap_ok (by omega) (by omega)
    obtain ⟨j, rfl⟩ : ∃ j : Nat, i = j := ⟨i.toNat, by omega⟩
    have hj1 : j + 1 < xs.length := by omega
    have hj : j < xs.length := by omega
    have ht : ((j : Int) + 1).toNat = j + 1 := by omega
    refine W_drawT mixed (by decide +kernel) ?_
    simp [go_sem, ty3, ty22, hw, ht, hj, hj1]
    first | refine h3 _ ?_ | refine ⟨by omega, h3 _ ?_⟩ | refine ⟨by omega, by omega, h3 _ ?_⟩
    clear h3 K3
    refine W_seqK fun K6 h6 => ?_
    refine W_reg ?_
    simp [go_sem, ty3, ty22]
    first | refine h6 _ ?_ | refine ⟨by omega, h6 _ ?_⟩ | refine ⟨by omega, by omega, h6 _ ?_⟩
    clear h6 K6
    refine W_ret ?_
    simp [go_sem, turnAt, h0, hj, hj1]
  · have h0 : ¬ (0 ≤ i ∧ i < xs.length - 1) := by simp [inR] at hb5; rw [wrap_ok (by omega) (by omega)] at hb5; omega
    clear hb5
    refine W_skip ?_
    first | refine h3 _ ?_ | refine ⟨by omega, h3 _ ?_⟩ | refine ⟨by omega, by omega, h3 _ ?_⟩
    clear h3 K3
    refine W_seqK fun K7 h7 => ?_
    refine W_reg ?_
    simp [go_sem, ty3, ty22]
    first | refine h7 _ ?_ | refine ⟨by omega, h7 _ ?_⟩ | refine ⟨by omega, by omega, h7 _ ?_⟩
    clear h7 K7
    refine W_ret ?_
    simp [go_sem, turnAt, h0]

theorem pc_laws_FnExactTurnAt (xs : List Int) (i : Int)  : PC Try.prog 7 [(false, [.sl 1 (enc eI xs)]), (false, [.int .i64 i])] [(false, [.bool true])] := by
  have hlen := turnAt_len xs i
  refine PC_of (n := 71) Try.func7 rfl rfl rfl rfl (by simp) ?_
  refine W_seqK fun K1 h1 => ?_
  refine W_reg ?_
  simp [go_sem, ty4]
  first | refine h1 _ ?_ | refine ⟨by omega, h1 _ ?_⟩ | refine ⟨by omega, by omega, h1 _ ?_⟩
  clear h1 K1
  refine W_seqK fun K2 h2 => ?_
  refine W_seqK fun K3 h3 => ?_
  refine W_reg ?_
  simp [go_sem, ty3, ty4, ty22]
  first | refine h3 _ ?_ | refine ⟨by omega, h3 _ ?_⟩ | refine ⟨by omega, by omega, h3 _ ?_⟩
  clear h3 K3
  refine W_cond rfl (fun hb4 => ?_) fun hb4 => ?_
  · simp at hb4
    refine W_seqK fun K5 h5 => ?_
    refine W_reg ?_
    simp [go_sem, ty4]
    first | refine h5 _ ?_ | refine ⟨by omega, h5 _ ?_⟩ | refine ⟨by omega, by omega, h5 _ ?_⟩
    clear h5 K5
    refine W_ret ?_
    simp [go_sem]
  · simp at hb4
    have hm0 := markE_pos (1) (xs.length) (by omega) (by omega)
    have hn0 : ¬ ((1 : Int) + ((xs.length : Nat) : Int) < 0) := by omega
    have hm1 := markE_pos (1) ((turnAt xs i).length) (by omega) (by omega)
    have hn1 : ¬ ((1 : Int) + (((turnAt xs i).length : Nat) : Int) < 0) := by omega
    refine W_skip ?_
    first | refine h2 _ ?_ | refine ⟨by omega, h2 _ ?_⟩ | refine ⟨by omega, by omega, h2 _ ?_⟩
    clear h2 K2
    refine W_seqK fun K6 h6 => ?_
    refine W_reg ?_
    simp [go_sem, ty3, ty22, hm0, hn0, hm1, hn1]
    refine callG_pc (fun hG => pc_laws_toIntS xs (by omega)) (by simp) (fun hG => by simp [go_sem, hm0, hn0, hm1, hn1]) rfl rfl (by first | exact Or.inl rfl | exact Or.inr rfl) ?_
    simp [go_sem, ty3, ty22, hm0, hn0, hm1, hn1]
    refine callG_pc (fun hG => pc_spec_TurnAt xs i (by omega)) (by simp) (fun hG => by simp [go_sem, hm0, hn0, hm1, hn1]) rfl rfl (by first | exact Or.inl rfl | exact Or.inr rfl) ?_
    simp [go_sem, ty3, ty22, hm0, hn0, hm1, hn1]
    first | refine h6 _ ?_ | refine ⟨by omega, h6 _ ?_⟩ | refine ⟨by omega, by omega, h6 _ ?_⟩
    clear h6 K6
    refine W_seqK fun K7 h7 => ?_
    refine W_reg ?_
    simp [go_sem, ty3, ty22, hm0, hn0, hm1, hn1]
    refine callG_pc (fun hG => pc_laws_toIntS xs (by omega)) (by simp) (fun hG => by simp [go_sem, hm0, hn0, hm1, hn1]) rfl rfl (by first | exact Or.inl rfl | exact Or.inr rfl) ?_
    simp [go_sem, ty3, ty22, hm0, hn0, hm1, hn1]
    first | refine h7 _ ?_ | refine ⟨by omega, h7 _ ?_⟩ | refine ⟨by omega, by omega, h7 _ ?_⟩
    clear h7 K7
    refine W_seqK fun K8 h8 => ?_
    refine W_reg ?_
    simp [go_sem, ty3, ty22, hm0, hn0, hm1, hn1]
    refine callG_pc (fun hG => pc_impl_TurnAt xs i (by omega)) (by simp) (fun hG => by simp [go_sem, hm0, hn0, hm1, hn1]) rfl rfl (by first | exact Or.inl rfl | exact Or.inr rfl) ?_
    simp [go_sem, ty3, ty22, hm0, hn0, hm1, hn1]
    first | refine h8 _ ?_ | refine ⟨by omega, h8 _ ?_⟩ | refine ⟨by omega, by omega, h8 _ ?_⟩
    clear h8 K8
    refine W_seqK fun K9 h9 => ?_
    refine W_seqK fun K10 h10 => ?_
    refine W_reg ?_
    simp [go_sem, ty3, ty4, ty22, hm0, hn0, hm1, hn1]
    refine callG_pc (fun hG => pc_laws_eqIntS (turnAt xs i) (turnAt xs i) (by omega)) (by simp) (fun hG => by simp [go_sem, hm0, hn0, hm1, hn1]) rfl rfl (by first | exact Or.inl rfl | exact Or.inr rfl) ?_
    simp [go_sem, ty4, hm0, hn0, hm1, hn1]
    first | refine h10 _ ?_ | refine ⟨by omega, h10 _ ?_⟩ | refine ⟨by omega, by omega, h10 _ ?_⟩
    clear h10 K10
    refine W_cond rfl (fun hb11 => by first | (simp at hb11; done) | (simp at hb11; omega)) fun hb11 => ?_
    clear hb11
    refine W_skip ?_
    first | refine h9 _ ?_ | refine ⟨by omega, h9 _ ?_⟩ | refine ⟨by omega, by omega, h9 _ ?_⟩
    clear h9 K9
    refine W_seqK fun K12 h12 => ?_
    refine W_seqK fun K13 h13 => ?_
    refine W_reg ?_
    simp [go_sem, ty3, ty22, hm0, hn0, hm1, hn1]
    refine callG_pc (fun hG => pc_laws_toIntS xs (by omega)) (by simp) (fun hG => by simp [go_sem, hm0, hn0, hm1, hn1]) rfl rfl (by first | exact Or.inl rfl | exact Or.inr rfl) ?_
    simp [go_sem, ty3, ty4, ty22, hm0, hn0, hm1, hn1]
    refine callG_pc (fun hG => pc_laws_eqIntS xs xs (by omega)) (by simp) (fun hG => by simp [go_sem, hm0, hn0, hm1, hn1]) rfl rfl (by first | exact Or.inl rfl | exact Or.inr rfl) ?_
    simp [go_sem, ty4, hm0, hn0, hm1, hn1]
    first | refine h13 _ ?_ | refine ⟨by omega, h13 _ ?_⟩ | refine ⟨by omega, by omega, h13 _ ?_⟩
    clear h13 K13
    refine W_cond rfl (fun hb14 => by first | (simp at hb14; done) | (simp at hb14; omega)) fun hb14 => ?_
    clear hb14
    refine W_skip ?_
    first | refine h12 _ ?_ | refine ⟨by omega, h12 _ ?_⟩ | refine ⟨by omega, by omega, h12 _ ?_⟩
    clear h12 K12
    refine W_seqK fun K15 h15 => ?_
    refine W_reg ?_
    simp [go_sem, ty3, hm0, hn0, hm1, hn1]
    first | refine h15 _ ?_ | refine ⟨by omega, h15 _ ?_⟩ | refine ⟨by omega, by omega, h15 _ ?_⟩
    clear h15 K15
    refine W_seqK fun K16 h16 => ?_
    refine W_reg ?_
    simp [go_sem, ty3, ty22, hm0, hn0, hm1, hn1]
    refine callG_true (by simp) (CallW_mut (mc_laws_markIntS xs 1 (by omega)) rfl rfl rfl (by simp [go_sem, hm0, hn0, hm1, hn1]) rfl ?_)
    simp [go_sem, ty3, hm0, hn0, hm1, hn1]
    first | refine h16 _ ?_ | refine ⟨by omega, h16 _ ?_⟩ | refine ⟨by omega, by omega, h16 _ ?_⟩
    clear h16 K16
    refine W_seqK fun K17 h17 => ?_
    refine W_seqK fun K18 h18 => ?_
    refine W_reg ?_
    simp [go_sem, ty3, ty4, ty22, hm0, hn0, hm1, hn1]
    refine callG_pc (fun hG => pc_laws_eqIntS (turnAt xs i) (turnAt xs i) (by omega)) (by simp) (fun hG => by simp [go_sem, hm0, hn0, hm1, hn1]) rfl rfl (by first | exact Or.inl rfl | exact Or.inr rfl) ?_
    simp [go_sem, ty4, hm0, hn0, hm1, hn1]
    first | refine h18 _ ?_ | refine ⟨by omega, h18 _ ?_⟩ | refine ⟨by omega, by omega, h18 _ ?_⟩
    clear h18 K18
    refine W_cond rfl (fun hb19 => by first | (simp at hb19; done) | (simp at hb19; omega)) fun hb19 => ?_
    clear hb19
    refine W_skip ?_
    first | refine h17 _ ?_ | refine ⟨by omega, h17 _ ?_⟩ | refine ⟨by omega, by omega, h17 _ ?_⟩
    clear h17 K17
    refine W_seqK fun K20 h20 => ?_
    refine W_reg ?_
    simp [go_sem, ty3, hm0, hn0, hm1, hn1]
    first | refine h20 _ ?_ | refine ⟨by omega, h20 _ ?_⟩ | refine ⟨by omega, by omega, h20 _ ?_⟩
    clear h20 K20
    refine W_seqK fun K21 h21 => ?_
    refine W_reg ?_
    simp [go_sem, ty3, ty22, hm0, hn0, hm1, hn1]
    refine callG_true (by simp) (CallW_mut (mc_laws_markIntS (turnAt xs i) 1 (by omega)) rfl rfl rfl (by simp [go_sem, hm0, hn0, hm1, hn1]) rfl ?_)
    simp [go_sem, ty3, hm0, hn0, hm1, hn1]
    first | refine h21 _ ?_ | refine ⟨by omega, h21 _ ?_⟩ | refine ⟨by omega, by omega, h21 _ ?_⟩
    clear h21 K21
    refine W_seqK fun K22 h22 => ?_
    refine W_reg ?_
    simp [go_sem, ty3, hm0, hn0, hm1, hn1]
    first | refine h22 _ ?_ | refine ⟨by omega, h22 _ ?_⟩ | refine ⟨by omega, by omega, h22 _ ?_⟩
    clear h22 K22
    refine W_seqK fun K23 h23 => ?_
    refine W_reg ?_
    simp [go_sem, ty3, ty22, hm0, hn0, hm1, hn1]
    refine callG_pc (fun hG => pc_laws_heldIntS ((turnAt xs i).length) 1 (by omega)) (by simp) (fun hG => by simp [go_sem, hm0, hn0, hm1, hn1]) rfl rfl (by first | exact Or.inl rfl | exact Or.inr rfl) ?_
    simp [go_sem, ty3, hm0, hn0, hm1, hn1]
    first | refine h23 _ ?_ | refine ⟨by omega, h23 _ ?_⟩ | refine ⟨by omega, by omega, h23 _ ?_⟩
    clear h23 K23
    refine W_seqK fun K24 h24 => ?_
    refine W_seqK fun K25 h25 => ?_
    refine W_reg ?_
    simp [go_sem, ty3, ty4, hm0, hn0, hm1, hn1]
    first | refine h25 _ ?_ | refine ⟨by omega, h25 _ ?_⟩ | refine ⟨by omega, by omega, h25 _ ?_⟩
    clear h25 K25
    refine W_cond rfl (fun hb26 => by first | (simp at hb26; done) | (simp at hb26; omega)) fun hb26 => ?_
    clear hb26
    refine W_skip ?_
    first | refine h24 _ ?_ | refine ⟨by omega, h24 _ ?_⟩ | refine ⟨by omega, by omega, h24 _ ?_⟩
    clear h24 K24
    refine W_seqK fun K27 h27 => ?_
    refine W_seqK fun K28 h28 => ?_
    refine W_reg ?_
    simp [go_sem, ty3, ty4, hm0, hn0, hm1, hn1]
    first | refine h28 _ ?_ | refine ⟨by omega, h28 _ ?_⟩ | refine ⟨by omega, by omega, h28 _ ?_⟩
    clear h28 K28
    refine W_cond rfl (fun hb29 => by first | (simp at hb29; done) | (simp at hb29; omega)) fun hb29 => ?_
    clear hb29
    refine W_skip ?_
    first | refine h27 _ ?_ | refine ⟨by omega, h27 _ ?_⟩ | refine ⟨by omega, by omega, h27 _ ?_⟩
    clear h27 K27
    refine W_seqK fun K30 h30 => ?_
    refine W_reg ?_
    simp [go_sem, ty3, ty22, hm0, hn0, hm1, hn1]
    refine callG_pc (fun hG => pc_laws_toIntS xs (by omega)) (by simp) (fun hG => by simp [go_sem, hm0, hn0, hm1, hn1]) rfl rfl (by first | exact Or.inl rfl | exact Or.inr rfl) ?_
    simp [go_sem, ty3, ty22, hm0, hn0, hm1, hn1]
    refine callG_pc (fun hG => pc_impl_TurnAt xs i (by omega)) (by simp) (fun hG => by simp [go_sem, hm0, hn0, hm1, hn1]) rfl rfl (by first | exact Or.inl rfl | exact Or.inr rfl) ?_
    simp [go_sem, ty3, ty22, hm0, hn0, hm1, hn1]
    first | refine h30 _ ?_ | refine ⟨by omega, h30 _ ?_⟩ | refine ⟨by omega, by omega, h30 _ ?_⟩
    clear h30 K30
    refine W_seqK fun K31 h31 => ?_
    refine W_seqK fun K32 h32 => ?_
    refine W_reg ?_
    simp [go_sem, ty3, ty4, ty22, hm0, hn0, hm1, hn1]
    refine callG_pc (fun hG => pc_laws_eqIntS (turnAt xs i) (turnAt xs i) (by omega)) (by simp) (fun hG => by simp [go_sem, hm0, hn0, hm1, hn1]) rfl rfl (by first | exact Or.inl rfl | exact Or.inr rfl) ?_
    simp [go_sem, ty4, hm0, hn0, hm1, hn1]
    first | refine h32 _ ?_ | refine ⟨by omega, h32 _ ?_⟩ | refine ⟨by omega, by omega, h32 _ ?_⟩
    clear h32 K32
    refine W_cond rfl (fun hb33 => by first | (simp at hb33; done) | (simp at hb33; omega)) fun hb33 => ?_
    clear hb33
    refine W_skip ?_
    first | refine h31 _ ?_ | refine ⟨by omega, h31 _ ?_⟩ | refine ⟨by omega, by omega, h31 _ ?_⟩
    clear h31 K31
    refine W_seqK fun K34 h34 => ?_
    refine W_reg ?_
    simp [go_sem, ty3, hm0, hn0, hm1, hn1]
    first | refine h34 _ ?_ | refine ⟨by omega, h34 _ ?_⟩ | refine ⟨by omega, by omega, h34 _ ?_⟩
    clear h34 K34
    refine W_seqK fun K35 h35 => ?_
    refine W_reg ?_
    simp [go_sem, ty3, ty22, hm0, hn0, hm1, hn1]
    refine callG_pc (fun hG => pc_laws_heldIntS ((turnAt xs i).length) 1 (by omega)) (by simp) (fun hG => by simp [go_sem, hm0, hn0, hm1, hn1]) rfl rfl (by first | exact Or.inl rfl | exact Or.inr rfl) ?_
    simp [go_sem, ty3, hm0, hn0, hm1, hn1]
    first | refine h35 _ ?_ | refine ⟨by omega, h35 _ ?_⟩ | refine ⟨by omega, by omega, h35 _ ?_⟩
    clear h35 K35
    refine W_seqK fun K36 h36 => ?_
    refine W_seqK fun K37 h37 => ?_
    refine W_reg ?_
    simp [go_sem, ty3, ty4, hm0, hn0, hm1, hn1]
    first | refine h37 _ ?_ | refine ⟨by omega, h37 _ ?_⟩ | refine ⟨by omega, by omega, h37 _ ?_⟩
    clear h37 K37
    refine W_cond rfl (fun hb38 => by first | (simp at hb38; done) | (simp at hb38; omega)) fun hb38 => ?_
    clear hb38
    refine W_skip ?_
    first | refine h36 _ ?_ | refine ⟨by omega, h36 _ ?_⟩ | refine ⟨by omega, by omega, h36 _ ?_⟩
    clear h36 K36
    refine W_seqK fun K39 h39 => ?_
    refine W_seqK fun K40 h40 => ?_
    refine W_reg ?_
    simp [go_sem, ty3, ty4, hm0, hn0, hm1, hn1]
    first | refine h40 _ ?_ | refine ⟨by omega, h40 _ ?_⟩ | refine ⟨by omega, by omega, h40 _ ?_⟩
    clear h40 K40
    refine W_cond rfl (fun hb41 => by first | (simp at hb41; done) | (simp at hb41; omega)) fun hb41 => ?_
    clear hb41
    refine W_skip ?_
    first | refine h39 _ ?_ | refine ⟨by omega, h39 _ ?_⟩ | refine ⟨by omega, by omega, h39 _ ?_⟩
    clear h39 K39
    refine W_seqK fun K42 h42 => ?_
    refine W_reg ?_
    simp [go_sem, ty4, hm0, hn0, hm1, hn1]
    first | refine h42 _ ?_ | refine ⟨by omega, h42 _ ?_⟩ | refine ⟨by omega, by omega, h42 _ ?_⟩
    clear h42 K42
    refine W_ret ?_
    simp [go_sem]

theorem pc_laws_FnExactClockJoin (xs : List Int) (ys : List Int)  : PC Try.prog 8 [(false, [.sl 1 (enc eI xs)]), (false, [.sl 1 (enc eI ys)])] [(false, [.bool true])] := by
  have hlen := clockJoin_len xs ys
  refine PC_of (n := 87) Try.func8 rfl rfl rfl rfl (by simp) ?_
  refine W_seqK fun K1 h1 => ?_
  refine W_reg ?_
  simp [go_sem, ty4]
  first | refine h1 _ ?_ | refine ⟨by omega, h1 _ ?_⟩ | refine ⟨by omega, by omega, h1 _ ?_⟩
  clear h1 K1
  refine W_seqK fun K2 h2 => ?_
  refine W_seqK fun K3 h3 => ?_
  refine W_reg ?_
  simp [go_sem, ty3, ty4, ty22]
  first | refine h3 _ ?_ | refine ⟨by omega, h3 _ ?_⟩ | refine ⟨by omega, by omega, h3 _ ?_⟩
  clear h3 K3
  refine W_cond rfl (fun hb4 => ?_) fun hb4 => ?_
  · simp at hb4
    refine W_seqK fun K5 h5 => ?_
    refine W_reg ?_
    simp [go_sem, ty4]
    first | refine h5 _ ?_ | refine ⟨by omega, h5 _ ?_⟩ | refine ⟨by omega, by omega, h5 _ ?_⟩
    clear h5 K5
    refine W_ret ?_
    simp [go_sem]
  · simp at hb4
    refine W_skip ?_
    first | refine h2 _ ?_ | refine ⟨by omega, h2 _ ?_⟩ | refine ⟨by omega, by omega, h2 _ ?_⟩
    clear h2 K2
    refine W_seqK fun K6 h6 => ?_
    refine W_seqK fun K7 h7 => ?_
    refine W_reg ?_
    simp [go_sem, ty3, ty4, ty22]
    first | refine h7 _ ?_ | refine ⟨by omega, h7 _ ?_⟩ | refine ⟨by omega, by omega, h7 _ ?_⟩
    clear h7 K7
    refine W_cond rfl (fun hb8 => ?_) fun hb8 => ?_
    · simp at hb8
      refine W_seqK fun K9 h9 => ?_
      refine W_reg ?_
      simp [go_sem, ty4]
      first | refine h9 _ ?_ | refine ⟨by omega, h9 _ ?_⟩ | refine ⟨by omega, by omega, h9 _ ?_⟩
      clear h9 K9
      refine W_ret ?_
      simp [go_sem]
    · simp at hb8
      have hm0 := markE_pos (1) (xs.length) (by omega) (by omega)
      have hn0 : ¬ ((1 : Int) + ((xs.length : Nat) : Int) < 0) := by omega
      have hm1 := markE_pos (1 + (xs.length : Int)) (ys.length) (by omega) (by omega)
      have hn1 : ¬ ((1 + (xs.length : Int) : Int) + ((ys.length : Nat) : Int) < 0) := by omega
      have hm2 := markE_pos (1) ((clockJoin xs ys).length) (by omega) (by omega)
      have hn2 : ¬ ((1 : Int) + (((clockJoin xs ys).length : Nat) : Int) < 0) := by omega
      refine W_skip ?_
      first | refine h6 _ ?_ | refine ⟨by omega, h6 _ ?_⟩ | refine ⟨by omega, by omega, h6 _ ?_⟩
      clear h6 K6
      refine W_seqK fun K10 h10 => ?_
      refine W_reg ?_
      simp [go_sem, ty3, ty22, hm0, hn0, hm1, hn1, hm2, hn2]
      refine callG_pc (fun hG => pc_laws_toIntS xs (by omega)) (by simp) (fun hG => by simp [go_sem, hm0, hn0, hm1, hn1, hm2, hn2]) rfl rfl (by first | exact Or.inl rfl | exact Or.inr rfl) ?_
      simp [go_sem, ty3, ty22, hm0, hn0, hm1, hn1, hm2, hn2]
      refine callG_pc (fun hG => pc_laws_toIntS ys (by omega)) (by simp) (fun hG => by simp [go_sem, hm0, hn0, hm1, hn1, hm2, hn2]) rfl rfl (by first | exact Or.inl rfl | exact Or.inr rfl) ?_
      simp [go_sem, ty3, ty22, hm0, hn0, hm1, hn1, hm2, hn2]
      refine callG_pc (fun hG => pc_spec_ClockJoin xs ys (by omega)) (by simp) (fun hG => by simp [go_sem, hm0, hn0, hm1, hn1, hm2, hn2]) rfl rfl (by first | exact Or.inl rfl | exact Or.inr rfl) ?_
      simp [go_sem, ty3, ty22, hm0, hn0, hm1, hn1, hm2, hn2]
      first | refine h10 _ ?_ | refine ⟨by omega, h10 _ ?_⟩ | refine ⟨by omega, by omega, h10 _ ?_⟩
      clear h10 K10
      refine W_seqK fun K11 h11 => ?_
      refine W_reg ?_
      simp [go_sem, ty3, ty22, hm0, hn0, hm1, hn1, hm2, hn2]
      refine callG_pc (fun hG => pc_laws_toIntS xs (by omega)) (by simp) (fun hG => by simp [go_sem, hm0, hn0, hm1, hn1, hm2, hn2]) rfl rfl (by first | exact Or.inl rfl | exact Or.inr rfl) ?_
      simp [go_sem, ty3, ty22, hm0, hn0, hm1, hn1, hm2, hn2]
      first | refine h11 _ ?_ | refine ⟨by omega, h11 _ ?_⟩ | refine ⟨by omega, by omega, h11 _ ?_⟩
      clear h11 K11
      refine W_seqK fun K12 h12 => ?_
      refine W_reg ?_
      simp [go_sem, ty3, ty22, hm0, hn0, hm1, hn1, hm2, hn2]
      refine callG_pc (fun hG => pc_laws_toIntS ys (by omega)) (by simp) (fun hG => by simp [go_sem, hm0, hn0, hm1, hn1, hm2, hn2]) rfl rfl (by first | exact Or.inl rfl | exact Or.inr rfl) ?_
      simp [go_sem, ty3, ty22, hm0, hn0, hm1, hn1, hm2, hn2]
      first | refine h12 _ ?_ | refine ⟨by omega, h12 _ ?_⟩ | refine ⟨by omega, by omega, h12 _ ?_⟩
      clear h12 K12
      refine W_seqK fun K13 h13 => ?_
      refine W_reg ?_
      simp [go_sem, ty3, ty22, hm0, hn0, hm1, hn1, hm2, hn2]
      refine callG_pc (fun hG => pc_impl_ClockJoin xs ys (by omega)) (by simp) (fun hG => by simp [go_sem, hm0, hn0, hm1, hn1, hm2, hn2]) rfl rfl (by first | exact Or.inl rfl | exact Or.inr rfl) ?_
      simp [go_sem, ty3, ty22, hm0, hn0, hm1, hn1, hm2, hn2]
      first | refine h13 _ ?_ | refine ⟨by omega, h13 _ ?_⟩ | refine ⟨by omega, by omega, h13 _ ?_⟩
      clear h13 K13
      refine W_seqK fun K14 h14 => ?_
      refine W_seqK fun K15 h15 => ?_
      refine W_reg ?_
      simp [go_sem, ty3, ty4, ty22, hm0, hn0, hm1, hn1, hm2, hn2]
      refine callG_pc (fun hG => pc_laws_eqIntS (clockJoin xs ys) (clockJoin xs ys) (by omega)) (by simp) (fun hG => by simp [go_sem, hm0, hn0, hm1, hn1, hm2, hn2]) rfl rfl (by first | exact Or.inl rfl | exact Or.inr rfl) ?_
      simp [go_sem, ty4, hm0, hn0, hm1, hn1, hm2, hn2]
      first | refine h15 _ ?_ | refine ⟨by omega, h15 _ ?_⟩ | refine ⟨by omega, by omega, h15 _ ?_⟩
      clear h15 K15
      refine W_cond rfl (fun hb16 => by first | (simp at hb16; done) | (simp at hb16; omega)) fun hb16 => ?_
      clear hb16
      refine W_skip ?_
      first | refine h14 _ ?_ | refine ⟨by omega, h14 _ ?_⟩ | refine ⟨by omega, by omega, h14 _ ?_⟩
      clear h14 K14
      refine W_seqK fun K17 h17 => ?_
      refine W_seqK fun K18 h18 => ?_
      refine W_reg ?_
      simp [go_sem, ty3, ty22, hm0, hn0, hm1, hn1, hm2, hn2]
      refine callG_pc (fun hG => pc_laws_toIntS xs (by omega)) (by simp) (fun hG => by simp [go_sem, hm0, hn0, hm1, hn1, hm2, hn2]) rfl rfl (by first | exact Or.inl rfl | exact Or.inr rfl) ?_
      simp [go_sem, ty3, ty4, ty22, hm0, hn0, hm1, hn1, hm2, hn2]
      refine callG_pc (fun hG => pc_laws_eqIntS xs xs (by omega)) (by simp) (fun hG => by simp [go_sem, hm0, hn0, hm1, hn1, hm2, hn2]) rfl rfl (by first | exact Or.inl rfl | exact Or.inr rfl) ?_
      simp [go_sem, ty4, hm0, hn0, hm1, hn1, hm2, hn2]
      first | refine h18 _ ?_ | refine ⟨by omega, h18 _ ?_⟩ | refine ⟨by omega, by omega, h18 _ ?_⟩
      clear h18 K18
      refine W_cond rfl (fun hb19 => by first | (simp at hb19; done) | (simp at hb19; omega)) fun hb19 => ?_
      clear hb19
      refine W_skip ?_
      first | refine h17 _ ?_ | refine ⟨by omega, h17 _ ?_⟩ | refine ⟨by omega, by omega, h17 _ ?_⟩
      clear h17 K17
      refine W_seqK fun K20 h20 => ?_
      refine W_seqK fun K21 h21 => ?_
      refine W_reg ?_
      simp [go_sem, ty3, ty22, hm0, hn0, hm1, hn1, hm2, hn2]
      refine callG_pc (fun hG => pc_laws_toIntS ys (by omega)) (by simp) (fun hG => by simp [go_sem, hm0, hn0, hm1, hn1, hm2, hn2]) rfl rfl (by first | exact Or.inl rfl | exact Or.inr rfl) ?_
      simp [go_sem, ty3, ty4, ty22, hm0, hn0, hm1, hn1, hm2, hn2]
      refine callG_pc (fun hG => pc_laws_eqIntS ys ys (by omega)) (by simp) (fun hG => by simp [go_sem, hm0, hn0, hm1, hn1, hm2, hn2]) rfl rfl (by first | exact Or.inl rfl | exact Or.inr rfl) ?_
      simp [go_sem, ty4, hm0, hn0, hm1, hn1, hm2, hn2]
      first | refine h21 _ ?_ | refine ⟨by omega, h21 _ ?_⟩ | refine ⟨by omega, by omega, h21 _ ?_⟩
      clear h21 K21
      refine W_cond rfl (fun hb22 => by first | (simp at hb22; done) | (simp at hb22; omega)) fun hb22 => ?_
      clear hb22
      refine W_skip ?_
      first | refine h20 _ ?_ | refine ⟨by omega, h20 _ ?_⟩ | refine ⟨by omega, by omega, h20 _ ?_⟩
      clear h20 K20
      refine W_seqK fun K23 h23 => ?_
      refine W_reg ?_
      simp [go_sem, ty3, hm0, hn0, hm1, hn1, hm2, hn2]
      first | refine h23 _ ?_ | refine ⟨by omega, h23 _ ?_⟩ | refine ⟨by omega, by omega, h23 _ ?_⟩
      clear h23 K23
      refine W_seqK fun K24 h24 => ?_
      refine W_reg ?_
      simp [go_sem, ty3, ty22, hm0, hn0, hm1, hn1, hm2, hn2]
      refine callG_true (by simp) (CallW_mut (mc_laws_markIntS xs 1 (by omega)) rfl rfl rfl (by simp [go_sem, hm0, hn0, hm1, hn1, hm2, hn2]) rfl ?_)
      simp [go_sem, ty3, hm0, hn0, hm1, hn1, hm2, hn2]
      first | refine h24 _ ?_ | refine ⟨by omega, h24 _ ?_⟩ | refine ⟨by omega, by omega, h24 _ ?_⟩
      clear h24 K24
      refine W_seqK fun K25 h25 => ?_
      refine W_reg ?_
      simp [go_sem, ty3, ty22, hm0, hn0, hm1, hn1, hm2, hn2]
      refine callG_true (by simp) (CallW_mut (mc_laws_markIntS ys (1 + (xs.length : Int)) (by omega)) rfl rfl rfl (by simp [go_sem, hm0, hn0, hm1, hn1, hm2, hn2]) rfl ?_)
      simp [go_sem, ty3, hm0, hn0, hm1, hn1, hm2, hn2]
      first | refine h25 _ ?_ | refine ⟨by omega, h25 _ ?_⟩ | refine ⟨by omega, by omega, h25 _ ?_⟩
      clear h25 K25
      refine W_seqK fun K26 h26 => ?_
      refine W_seqK fun K27 h27 => ?_
      refine W_reg ?_
      simp [go_sem, ty3, ty4, ty22, hm0, hn0, hm1, hn1, hm2, hn2]
      refine callG_pc (fun hG => pc_laws_eqIntS (clockJoin xs ys) (clockJoin xs ys) (by omega)) (by simp) (fun hG => by simp [go_sem, hm0, hn0, hm1, hn1, hm2, hn2]) rfl rfl (by first | exact Or.inl rfl | exact Or.inr rfl) ?_
      simp [go_sem, ty4, hm0, hn0, hm1, hn1, hm2, hn2]
      first | refine h27 _ ?_ | refine ⟨by omega, h27 _ ?_⟩ | refine ⟨by omega, by omega, h27 _ ?_⟩
      clear h27 K27
      refine W_cond rfl (fun hb28 => by first | (simp at hb28; done) | (simp at hb28; omega)) fun hb28 => ?_
      clear hb28
      refine W_skip ?_
      first | refine h26 _ ?_ | refine ⟨by omega, h26 _ ?_⟩ | refine ⟨by omega, by omega, h26 _ ?_⟩
      clear h26 K26
      refine W_seqK fun K29 h29 => ?_
      refine W_reg ?_
      simp [go_sem, ty3, hm0, hn0, hm1, hn1, hm2, hn2]
      first | refine h29 _ ?_ | refine ⟨by omega, h29 _ ?_⟩ | refine ⟨by omega, by omega, h29 _ ?_⟩
      clear h29 K29
      refine W_seqK fun K30 h30 => ?_
      refine W_reg ?_
      simp [go_sem, ty3, ty22, hm0, hn0, hm1, hn1, hm2, hn2]
      refine callG_true (by simp) (CallW_mut (mc_laws_markIntS (clockJoin xs ys) 1 (by omega)) rfl rfl rfl (by simp [go_sem, hm0, hn0, hm1, hn1, hm2, hn2]) rfl ?_)
      simp [go_sem, ty3, hm0, hn0, hm1, hn1, hm2, hn2]
      first | refine h30 _ ?_ | refine ⟨by omega, h30 _ ?_⟩ | refine ⟨by omega, by omega, h30 _ ?_⟩
      clear h30 K30
      refine W_seqK fun K31 h31 => ?_
      refine W_reg ?_
      simp [go_sem, ty3, hm0, hn0, hm1, hn1, hm2, hn2]
      first | refine h31 _ ?_ | refine ⟨by omega, h31 _ ?_⟩ | refine ⟨by omega, by omega, h31 _ ?_⟩
      clear h31 K31
      refine W_seqK fun K32 h32 => ?_
      refine W_reg ?_
      simp [go_sem, ty3, ty22, hm0, hn0, hm1, hn1, hm2, hn2]
      refine callG_pc (fun hG => pc_laws_heldIntS ((clockJoin xs ys).length) 1 (by omega)) (by simp) (fun hG => by simp [go_sem, hm0, hn0, hm1, hn1, hm2, hn2]) rfl rfl (by first | exact Or.inl rfl | exact Or.inr rfl) ?_
      simp [go_sem, ty3, hm0, hn0, hm1, hn1, hm2, hn2]
      first | refine h32 _ ?_ | refine ⟨by omega, h32 _ ?_⟩ | refine ⟨by omega, by omega, h32 _ ?_⟩
      clear h32 K32
      refine W_seqK fun K33 h33 => ?_
      refine W_seqK fun K34 h34 => ?_
      refine W_reg ?_
      simp [go_sem, ty3, ty4, hm0, hn0, hm1, hn1, hm2, hn2]
      first | refine h34 _ ?_ | refine ⟨by omega, h34 _ ?_⟩ | refine ⟨by omega, by omega, h34 _ ?_⟩
      clear h34 K34
      refine W_cond rfl (fun hb35 => by first | (simp at hb35; done) | (simp at hb35; omega)) fun hb35 => ?_
      clear hb35
      refine W_skip ?_
      first | refine h33 _ ?_ | refine ⟨by omega, h33 _ ?_⟩ | refine ⟨by omega, by omega, h33 _ ?_⟩
      clear h33 K33
      refine W_seqK fun K36 h36 => ?_
      refine W_seqK fun K37 h37 => ?_
      refine W_reg ?_
      simp [go_sem, ty3, ty4, hm0, hn0, hm1, hn1, hm2, hn2]
      first | refine h37 _ ?_ | refine ⟨by omega, h37 _ ?_⟩ | refine ⟨by omega, by omega, h37 _ ?_⟩
      clear h37 K37
      refine W_cond rfl (fun hb38 => by first | (simp at hb38; done) | (simp at hb38; omega)) fun hb38 => ?_
      clear hb38
      refine W_skip ?_
      first | refine h36 _ ?_ | refine ⟨by omega, h36 _ ?_⟩ | refine ⟨by omega, by omega, h36 _ ?_⟩
      clear h36 K36
      refine W_seqK fun K39 h39 => ?_
      refine W_reg ?_
      simp [go_sem, ty3, ty22, hm0, hn0, hm1, hn1, hm2, hn2]
      refine callG_pc (fun hG => pc_laws_toIntS xs (by omega)) (by simp) (fun hG => by simp [go_sem, hm0, hn0, hm1, hn1, hm2, hn2]) rfl rfl (by first | exact Or.inl rfl | exact Or.inr rfl) ?_
      simp [go_sem, ty3, ty22, hm0, hn0, hm1, hn1, hm2, hn2]
      refine callG_pc (fun hG => pc_laws_toIntS ys (by omega)) (by simp) (fun hG => by simp [go_sem, hm0, hn0, hm1, hn1, hm2, hn2]) rfl rfl (by first | exact Or.inl rfl | exact Or.inr rfl) ?_
      simp [go_sem, ty3, ty22, hm0, hn0, hm1, hn1, hm2, hn2]
      refine callG_pc (fun hG => pc_impl_ClockJoin xs ys (by omega)) (by simp) (fun hG => by simp [go_sem, hm0, hn0, hm1, hn1, hm2, hn2]) rfl rfl (by first | exact Or.inl rfl | exact Or.inr rfl) ?_
      simp [go_sem, ty3, ty22, hm0, hn0, hm1, hn1, hm2, hn2]
      first | refine h39 _ ?_ | refine ⟨by omega, h39 _ ?_⟩ | refine ⟨by omega, by omega, h39 _ ?_⟩
      clear h39 K39
      refine W_seqK fun K40 h40 => ?_
      refine W_seqK fun K41 h41 => ?_
      refine W_reg ?_
      simp [go_sem, ty3, ty4, ty22, hm0, hn0, hm1, hn1, hm2, hn2]
      refine callG_pc (fun hG => pc_laws_eqIntS (clockJoin xs ys) (clockJoin xs ys) (by omega)) (by simp) (fun hG => by simp [go_sem, hm0, hn0, hm1, hn1, hm2, hn2]) rfl rfl (by first | exact Or.inl rfl | exact Or.inr rfl) ?_
      simp [go_sem, ty4, hm0, hn0, hm1, hn1, hm2, hn2]
      first | refine h41 _ ?_ | refine ⟨by omega, h41 _ ?_⟩ | refine ⟨by omega, by omega, h41 _ ?_⟩
      clear h41 K41
      refine W_cond rfl (fun hb42 => by first | (simp at hb42; done) | (simp at hb42; omega)) fun hb42 => ?_
      clear hb42
      refine W_skip ?_
      first | refine h40 _ ?_ | refine ⟨by omega, h40 _ ?_⟩ | refine ⟨by omega, by omega, h40 _ ?_⟩
      clear h40 K40
      refine W_seqK fun K43 h43 => ?_
      refine W_reg ?_
      simp [go_sem, ty3, hm0, hn0, hm1, hn1, hm2, hn2]
      first | refine h43 _ ?_ | refine ⟨by omega, h43 _ ?_⟩ | refine ⟨by omega, by omega, h43 _ ?_⟩
      clear h43 K43
      refine W_seqK fun K44 h44 => ?_
      refine W_reg ?_
      simp [go_sem, ty3, ty22, hm0, hn0, hm1, hn1, hm2, hn2]
      refine callG_pc (fun hG => pc_laws_heldIntS ((clockJoin xs ys).length) 1 (by omega)) (by simp) (fun hG => by simp [go_sem, hm0, hn0, hm1, hn1, hm2, hn2]) rfl rfl (by first | exact Or.inl rfl | exact Or.inr rfl) ?_
      simp [go_sem, ty3, hm0, hn0, hm1, hn1, hm2, hn2]
      first | refine h44 _ ?_ | refine ⟨by omega, h44 _ ?_⟩ | refine ⟨by omega, by omega, h44 _ ?_⟩
      clear h44 K44
      refine W_seqK fun K45 h45 => ?_
      refine W_seqK fun K46 h46 => ?_
      refine W_reg ?_
      simp [go_sem, ty3, ty4, hm0, hn0, hm1, hn1, hm2, hn2]
      first | refine h46 _ ?_ | refine ⟨by omega, h46 _ ?_⟩ | refine ⟨by omega, by omega, h46 _ ?_⟩
      clear h46 K46
      refine W_cond rfl (fun hb47 => by first | (simp at hb47; done) | (simp at hb47; omega)) fun hb47 => ?_
      clear hb47
      refine W_skip ?_
      first | refine h45 _ ?_ | refine ⟨by omega, h45 _ ?_⟩ | refine ⟨by omega, by omega, h45 _ ?_⟩
      clear h45 K45
      refine W_seqK fun K48 h48 => ?_
      refine W_seqK fun K49 h49 => ?_
      refine W_reg ?_
      simp [go_sem, ty3, ty4, hm0, hn0, hm1, hn1, hm2, hn2]
      first | refine h49 _ ?_ | refine ⟨by omega, h49 _ ?_⟩ | refine ⟨by omega, by omega, h49 _ ?_⟩
      clear h49 K49
      refine W_cond rfl (fun hb50 => by first | (simp at hb50; done) | (simp at hb50; omega)) fun hb50 => ?_
      clear hb50
      refine W_skip ?_
      first | refine h48 _ ?_ | refine ⟨by omega, h48 _ ?_⟩ | refine ⟨by omega, by omega, h48 _ ?_⟩
      clear h48 K48
      refine W_seqK fun K51 h51 => ?_
      refine W_reg ?_
      simp [go_sem, ty4, hm0, hn0, hm1, hn1, hm2, hn2]
      first | refine h51 _ ?_ | refine ⟨by omega, h51 _ ?_⟩ | refine ⟨by omega, by omega, h51 _ ?_⟩
      clear h51 K51
      refine W_ret ?_
      simp [go_sem]
end Go.Tw
