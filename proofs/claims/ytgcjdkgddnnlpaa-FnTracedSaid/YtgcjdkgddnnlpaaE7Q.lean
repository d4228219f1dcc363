/- Walks of functions: impl.digits, q.digits, spec.l16Digits, spec.l18Num, impl.signs -/
import Derived.Test.YtgcjdkgddnnlpaaE7sj
import Derived.Test.YtgcjdkgddnnlpaaBaseF
set_option linter.unusedSimpArgs false
set_option linter.unusedVariables false
set_option linter.unnecessarySimpa false
namespace Go.Tw
open Go.Proofs

set_option maxRecDepth 100000 in
set_option maxHeartbeats 4000000 in
theorem pcr_impl_digits (m k : Nat) (hk : k < m) (hn : (k : Int) ≤ 9223372036854775807) : PC Try.prog 93 [(false, [.int .i64 (k : Int)])] [(false, [.str (dgB k)])] := by
  induction m generalizing k
  exact absurd hk (Nat.not_lt_zero _)
  rename_i m ih
  refine PC_of (n := 41) Try.func93 rfl rfl rfl rfl (by simp) ?_
  refine W_seqK fun K1 h1 => ?_
  refine W_reg ?_
  simp [go_sem, ty9]
  repeat refine ⟨by first | omega | grind, ?_⟩
  refine h1 _ ?_
  clear h1 K1
  refine W_seqK fun K2 h2 => ?_
  refine W_block ?_
  refine W_seqK fun K3 h3 => ?_
  refine W_reg ?_
  simp [go_sem, ty3, ty4]
  repeat refine ⟨by first | omega | grind, ?_⟩
  refine h3 _ ?_
  clear h3 K3
  refine W_cond rfl (fun hb4 => by first | (simp at hb4; done) | (simp at hb4; omega)) fun hb4 => ?_
  clear hb4
  refine W_seqK fun K5 h5 => ?_
  refine W_reg ?_
  simp [go_sem, ty3, ty4]
  repeat refine ⟨by first | omega | grind, ?_⟩
  refine h5 _ ?_
  clear h5 K5
  refine W_cond rfl (fun hb6 => by first | (simp at hb6; done) | (simp at hb6; omega)) fun hb6 => ?_
  clear hb6
  refine W_seqK fun K7 h7 => ?_
  refine W_reg ?_
  simp [go_sem, ty3, ty4]
  repeat refine ⟨by first | omega | grind, ?_⟩
  refine h7 _ ?_
  clear h7 K7
  refine W_cond rfl (fun hb8 => ?_) fun hb8 => ?_
  · have h10 : k < 10 := by simp at hb8; omega
    have q := dgB_one h10
    have w1 := wrap48 h10
    have w2 := wrap32_dig h10
    have w3 := utf_dig h10
    clear hb8
    refine W_seqK fun K9 h9 => ?_
    refine W_reg ?_
    simp [go_sem, ty3, ty9, ty21, w1, w2, w3]
    repeat refine ⟨by first | omega | grind, ?_⟩
    refine h9 _ ?_
    clear h9 K9
    refine W_ret ?_
    simp [go_sem, q]
  · have h10 : ¬ k < 10 := by simp at hb8; omega
    have q := dgB_more h10
    have hm : k % 10 < 10 := by omega
    obtain ⟨a, ha⟩ : ∃ a, a = k / 10 := ⟨_, rfl⟩
    obtain ⟨b, hb⟩ : ∃ b, b = k % 10 := ⟨_, rfl⟩
    have v1 := quo10 hn
    have v2 := rem10 k
    rw [← ha] at v1 q
    rw [← hb] at v2 q hm
    have v3 : IntKind.wrap .i64 ((k : Int) / 10) = (a : Int) := by rw [← Int.tdiv_eq_ediv_of_nonneg (by omega)]; exact v1
    have v4 : (k : Int) % 10 = (b : Int) := by rw [← Int.tmod_eq_emod_of_nonneg (by omega)]; exact v2
    have w1 := wrap48 hm
    have w2 := wrap32_dig hm
    have w3 := utf_dig hm
    have hs := dgB_small (n := a) (by omega)
    have hs1 := dig_size b
    clear hb8
    refine W_skip ?_
    repeat refine ⟨by first | omega | grind, ?_⟩
    refine h2 _ ?_
    clear h2 K2
    refine W_seqK fun K10 h10 => ?_
    refine W_reg ?_
    simp [go_sem, ty3, ty9, v1, v2, v3, v4, w1, w2, w3, hs1]
    refine callG_pc (fun hG => ih a (by omega) (by omega)) (by first | (simp; done) | grind) (fun hG => by simp [go_sem, v1, v3]) rfl rfl (by first | exact Or.inl rfl | exact Or.inr rfl) ?_
    simp [go_sem, ty3, ty9, ty21, v1, v2, v3, v4, w1, w2, w3, hs1]
    refine ⟨by omega, ?_⟩
    repeat refine ⟨by first | omega | grind, ?_⟩
    refine h10 _ ?_
    clear h10 K10
    refine W_ret ?_
    simp [go_sem, q]

theorem pc_impl_digits (n : Int) (h0 : 0 ≤ n) (hn : n ≤ 9223372036854775807) : PC Try.prog 93 [(false, [.int .i64 n])] [(false, [.str (dgB n.toNat)])] := by
  obtain ⟨k, rfl⟩ : ∃ k : Nat, n = (k : Int) := ⟨n.toNat, by omega⟩
  exact pcr_impl_digits (k + 1) k (by omega) hn

set_option maxRecDepth 100000 in
set_option maxHeartbeats 4000000 in
theorem pc_spec_l16Digits (n : Int) (hn : n ≤ 9223372036854775807) : PC Try.prog 91 [(false, [.int .i64 n])] [(false, [.str (dgB n.toNat)])] := by
  refine PC_of (n := 19) Try.func91 rfl rfl rfl rfl (by simp) ?_
  refine W_seqK fun K1 h1 => ?_
  refine W_reg ?_
  simp [go_sem, ty9]
  repeat refine ⟨by first | omega | grind, ?_⟩
  refine h1 _ ?_
  clear h1 K1
  refine W_seqK fun K2 h2 => ?_
  refine W_seqK fun K3 h3 => ?_
  refine W_reg ?_
  simp [go_sem, ty3, ty4]
  repeat refine ⟨by first | omega | grind, ?_⟩
  refine h3 _ ?_
  clear h3 K3
  refine W_cond rfl (fun hb4 => ?_) fun hb4 => ?_
  · have q : dgB n.toNat = ⟨#[48]⟩ := by (have : n.toNat = 0 := by (simp at hb4; omega)); rw [this, dgB_one (by omega)]; rfl
    clear hb4
    refine W_seqK fun K5 h5 => ?_
    refine W_reg ?_
    simp [go_sem, ty9]
    repeat refine ⟨by first | omega | grind, ?_⟩
    refine h5 _ ?_
    clear h5 K5
    refine W_ret ?_
    simp [go_sem, q]
  · obtain ⟨k, rfl⟩ : ∃ k : Nat, n = (k : Int) := ⟨n.toNat, by simp at hb4; omega⟩
    have hk : 0 < k := by simp at hb4; omega
    clear hb4
    refine W_skip ?_
    repeat refine ⟨by first | omega | grind, ?_⟩
    refine h2 _ ?_
    clear h2 K2
    refine W_seqK fun K6 h6 => ?_
    refine W_reg ?_
    simp [go_sem, ty9]
    repeat refine ⟨by first | omega | grind, ?_⟩
    refine h6 _ ?_
    clear h6 K6
    refine W_seqK fun K7 h7 => ?_
    refine W_block ?_
    refine W_loopI (α := Nat × ByteArray) (fun p => ({ env := [(0, true, .l (.t (.int .i64 ((p.1 : Int))))), (3, true, .l (.t (.str (p.2))))], box := [], row := [], nxt := 60, sav := [] } : St)) (fun p => p.1 ≤ k ∧ DgTo k p.1 p.2) (fun p => p.1) (k, ⟨#[]⟩) ?_ ?_ ?_
    · exact Sub.of_neat [0, 3] [] [] 60 (by decide) (by simp [go_sem])
    · exact ⟨Nat.le_refl _, DgTo.start hk⟩
    rintro p hinv
    obtain ⟨hpk, hd⟩ := hinv
    refine W_seqK fun K9 h9 => ?_
    refine W_seqK fun K10 h10 => ?_
    refine W_reg ?_
    simp [go_sem, ty3, ty4]
    repeat refine ⟨by first | omega | grind, ?_⟩
    refine h10 _ ?_
    clear h10 K10
    refine W_cond rfl (fun hb11 => ?_) fun hb11 => ?_
    · have hp : 0 < p.1 := by simp at hb11; omega
      have hp10 : p.1 % 10 < 10 := by omega
      obtain ⟨a, ha⟩ : ∃ a, a = p.1 / 10 := ⟨_, rfl⟩
      obtain ⟨b, hb⟩ : ∃ b, b = p.1 % 10 := ⟨_, rfl⟩
      have v1 := quo10 (k := p.1) (by omega)
      have v2 := rem10 p.1
      have hst := hd.step hp
      rw [← ha] at v1 hst
      rw [← hb] at v2 hst hp10
      have v3 : IntKind.wrap .i64 ((p.1 : Int) / 10) = (a : Int) := by rw [← Int.tdiv_eq_ediv_of_nonneg (by omega)]; exact v1
      have v4 : (p.1 : Int) % 10 = (b : Int) := by rw [← Int.tmod_eq_emod_of_nonneg (by omega)]; exact v2
      have w1 := wrap48 hp10
      have w2 := wrap8_dig hp10
      have w3 := nums_dig hp10
      have hs := dgB_small hn
      have hs1 := dig_size b
      have hs2 := hd.size
      clear hb11
      refine W_skip ?_
      repeat refine ⟨by first | omega | grind, ?_⟩
      refine h9 _ ?_
      clear h9 K9
      refine W_block ?_
      refine W_seqK fun K12 h12 => ?_
      refine W_reg ?_
      simp [go_sem, ty3, ty5, ty9, ty71, v2, v4, w1, w2, bytesT, w3, hs1]
      refine ⟨by omega, ?_⟩
      repeat refine ⟨by first | omega | grind, ?_⟩
      refine h12 _ ?_
      clear h12 K12
      refine W_reg ?_
      simp [go_sem, ty3, v1, v3]
      refine ⟨a, dig b ++ p.2, ?_, ?_, ?_⟩
      · exact Sub.of_neat [0, 3] [] [] 60 (by decide) (by simp [go_sem, v1, v3])
      · exact ⟨by omega, hst⟩
      · show a < p.1; omega
    · have hp0 : p.1 = 0 := by simp at hb11; omega
      rw [hp0] at hd
      have q := hd.fin
      clear hb11
      refine W_exit ?_
      simp [go_sem]
      repeat refine ⟨by first | omega | grind, ?_⟩
      refine h7 _ ?_
      clear h9 K9 h7 K7
      refine W_seqK fun K13 h13 => ?_
      refine W_reg ?_
      simp [go_sem, ty9]
      repeat refine ⟨by first | omega | grind, ?_⟩
      refine h13 _ ?_
      clear h13 K13
      refine W_ret ?_
      simp [go_sem, q]

set_option maxRecDepth 100000 in
set_option maxHeartbeats 4000000 in
theorem pc_spec_l18Num (n : Int) (hn : n ≤ 9223372036854775807) : PC Try.prog 86 [(false, [.int .i64 n])] [(false, [.str (sgB n)])] := by
  refine PC_of (n := 7) Try.func86 rfl rfl rfl rfl (by simp) ?_
  refine W_seqK fun K1 h1 => ?_
  refine W_reg ?_
  simp [go_sem, ty9]
  repeat refine ⟨by first | omega | grind, ?_⟩
  refine h1 _ ?_
  clear h1 K1
  refine W_seqK fun K2 h2 => ?_
  refine W_seqK fun K3 h3 => ?_
  refine W_reg ?_
  simp [go_sem, ty3, ty4]
  repeat refine ⟨by first | omega | grind, ?_⟩
  refine h3 _ ?_
  clear h3 K3
  refine W_cond rfl (fun hb4 => ?_) fun hb4 => ?_
  · have q : sgB n = ⟨#[45]⟩ := if_pos (by simpa using hb4)
    clear hb4
    refine W_seqK fun K5 h5 => ?_
    refine W_reg ?_
    simp [go_sem, ty9]
    repeat refine ⟨by first | omega | grind, ?_⟩
    refine h5 _ ?_
    clear h5 K5
    refine W_ret ?_
    simp [go_sem, q]
  · have q : sgB n = dgB n.toNat := if_neg (by simpa using hb4)
    clear hb4
    refine W_skip ?_
    repeat refine ⟨by first | omega | grind, ?_⟩
    refine h2 _ ?_
    clear h2 K2
    refine W_seqK fun K6 h6 => ?_
    refine W_reg ?_
    simp [go_sem, ty3, ty9]
    refine callG_pc (fun hG => pc_spec_l16Digits n (by omega)) (by first | (simp; done) | (simp [inR_iff]; done) | (simp [inR_iff]; grind) | grind) (fun hG => by simp [go_sem]) rfl rfl (by first | exact Or.inl rfl | exact Or.inr rfl) ?_
    simp [go_sem, ty9]
    repeat refine ⟨by first | omega | grind, ?_⟩
    refine h6 _ ?_
    clear h6 K6
    refine W_ret ?_
    simp [go_sem, q]

set_option maxRecDepth 100000 in
set_option maxHeartbeats 4000000 in
theorem pc_impl_signs (xs : List Int) (hx : xs.length ≤ 1000) (hq : ∀ x ∈ xs, x ≤ 9223372036854775807) : PC Try.prog 88 [(false, [.sl 1 (enc eI xs)])] [(false, [.sl 1 (enc eStr (xs.map sgB))])] := by
  refine PC_of (n := 24) Try.func88 rfl rfl rfl rfl (by simp) ?_
  refine W_seqK fun K1 h1 => ?_
  refine W_reg ?_
  simp [go_sem, ty9, ty122]
  repeat refine ⟨by first | omega | grind, ?_⟩
  refine h1 _ ?_
  clear h1 K1
  refine W_seqK fun K2 h2 => ?_
  refine W_reg ?_
  simp [go_sem, ty9, ty122]
  repeat refine ⟨by first | omega | grind, ?_⟩
  refine h2 _ ?_
  clear h2 K2
  refine W_seqK fun K3 h3 => ?_
  refine W_seqK fun K4 h4 => ?_
  refine W_reg ?_
  simp [go_sem, ty3, ty22]
  repeat refine ⟨by first | omega | grind, ?_⟩
  refine h4 _ ?_
  clear h4 K4
  refine W_block ?_
  refine W_loopI (α := Nat) (fun i => ({ env := [(3, true, .l (.ref 40 [] 1 0 (((sgN xs i)).length))), (8, true, .l (.ref 0 [] 1 0 (xs).length)), (9, true, .l (.t (.int .i64 ((xs.length : Int))))), (10, true, .l (.t (.int .i64 (i))))], box := [], row := [(0, ⟨.ro, 1, enc eI xs⟩), (40, ⟨.own, 1, enc eStr (sgN xs i)⟩)], nxt := 60, sav := [] } : St)) (fun i => i ≤ xs.length) (fun i => xs.length - i) 0 ?_ ?_ ?_
  · exact (Sub.nilRow (t := 3) (nm := 40) (z := 1) (by rfl) (by rfl)).trans (Sub.of_neat [3, 8, 9, 10] [0, 40] [] 60 (by decide) (by simp [go_sem, enc_nil, sgN_zero]))
  · exact Nat.zero_le _
  rintro i hinv
  have hul := sgN_len hinv
  refine W_seqK fun K6 h6 => ?_
  refine W_reg ?_
  simp [go_sem, ty3]
  repeat refine ⟨by first | omega | grind, ?_⟩
  refine h6 _ ?_
  clear h6 K6
  refine W_seqK fun K7 h7 => ?_
  refine W_cond rfl (fun hb8 => ?_) fun hb8 => ?_
  · have hlt : i < xs.length := by simpa using hb8
    have hxi := hq _ (List.getElem_mem hlt)
    have hst0 := sgN_succ hlt
    clear hb8
    refine W_skip ?_
    repeat refine ⟨by first | omega | grind, ?_⟩
    refine h7 _ ?_
    clear h7 K7
    refine W_seqK fun K9 h9 => ?_
    refine W_block ?_
    refine W_seqK fun K10 h10 => ?_
    refine W_reg ?_
    simp [go_sem, ty3, ty22, hlt]
    repeat refine ⟨by first | omega | grind, ?_⟩
    refine h10 _ ?_
    clear h10 K10
    refine W_seqK fun K11 h11 => ?_
    refine W_reg ?_
    simp [go_sem, ty9, hlt]
    repeat refine ⟨by first | omega | grind, ?_⟩
    refine h11 _ ?_
    clear h11 K11
    refine W_seqK fun K12 h12 => ?_
    refine W_seqK fun K13 h13 => ?_
    refine W_reg ?_
    simp [go_sem, ty3, ty4, hlt]
    repeat refine ⟨by first | omega | grind, ?_⟩
    refine h13 _ ?_
    clear h13 K13
    refine W_cond rfl (fun hb14 => ?_) fun hb14 => ?_
    · have hp : 0 ≤ xs[i] := by simpa [hlt] using hb14
      have hst : sgN xs i ++ [dgB xs[i].toNat] = sgN xs (i + 1) := by rw [← hst0]; unfold sgB; rw [if_neg (by omega)]
      clear hb14
      refine W_reg ?_
      simp [go_sem, ty3, ty9, hlt]
      refine callG_pc (fun hG => pc_impl_digits xs[i] (by omega) (by omega)) (by first | (simp; done) | (simp [inR_iff]; done) | (simp [inR_iff]; grind) | grind) (fun hG => by simp [go_sem, hlt, hlt]) rfl rfl (by first | exact Or.inl rfl | exact Or.inr rfl) ?_
      simp [go_sem, ty9, hlt]
      repeat refine ⟨by first | omega | grind, ?_⟩
      refine h12 _ ?_
      clear h12 K12
      refine W_reg ?_
      simp [go_sem, ty9, ty122, hlt]
      refine ⟨by omega, ?_⟩
      repeat refine ⟨by first | omega | grind, ?_⟩
      refine h9 _ ?_
      clear h9 K9
      refine W_reg ?_
      simp [go_sem, ty3, hlt]
      refine ⟨i + 1, ?_, ?_, ?_⟩
      · exact (Sub.swp_row 62 40 rfl).trans (Sub.of_neat [3, 8, 9, 10] [0, 40] [] 60 (by decide) (by simp [go_sem, wrap_succ (show i < 9223372036854775807 by omega), hst, hul, sgN_len hlt]))
      · exact hlt
      · omega
    · have hp : xs[i] < 0 := by simpa [hlt] using hb14
      have hst : sgN xs i ++ [⟨#[45]⟩] = sgN xs (i + 1) := by rw [← hst0]; unfold sgB; rw [if_pos hp]
      clear hb14
      refine W_skip ?_
      repeat refine ⟨by first | omega | grind, ?_⟩
      refine h12 _ ?_
      clear h12 K12
      refine W_reg ?_
      simp [go_sem, ty9, ty122, hlt]
      refine ⟨by omega, ?_⟩
      repeat refine ⟨by first | omega | grind, ?_⟩
      refine h9 _ ?_
      clear h9 K9
      refine W_reg ?_
      simp [go_sem, ty3, hlt]
      refine ⟨i + 1, ?_, ?_, ?_⟩
      · exact (Sub.swp_row 61 40 rfl).trans (Sub.of_neat [3, 8, 9, 10] [0, 40] [] 60 (by decide) (by simp [go_sem, wrap_succ (show i < 9223372036854775807 by omega), hst, hul, sgN_len hlt]))
      · exact hlt
      · omega
  · obtain rfl : i = xs.length := by simp at hb8; omega
    have hfu := sgN_full xs
    clear hb8
    refine W_exit ?_
    simp [go_sem]
    repeat refine ⟨by first | omega | grind, ?_⟩
    refine h3 _ ?_
    clear h7 K7 h3 K3
    refine W_seqK fun K15 h15 => ?_
    refine W_reg ?_
    simp [go_sem, ty9, ty122]
    repeat refine ⟨by first | omega | grind, ?_⟩
    refine h15 _ ?_
    clear h15 K15
    refine W_ret ?_
    simp [go_sem, hfu]
end Go.Tw
