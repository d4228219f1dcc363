/- Walks of functions: laws.toIntS, laws.eqIntS, laws.toHart, laws.szIntS, laws.szHart, laws.eqHart, laws.eqEvent, laws.eqEventS, laws.szHartS, laws.toHartS, laws.eqHartS, laws.FnExactTrace -/
import Derived.Test.YtafocmjoejchbaaR3x
import Derived.Test.YtafocmjoejchbaaR3me
set_option linter.unusedSimpArgs false
set_option linter.unusedVariables false
namespace Go.Tw
open Go.Proofs

set_option maxRecDepth 100000 in
set_option maxHeartbeats 4000000 in
theorem pc_laws_toIntS (xs : List Int) (hx : xs.length ≤ 1048576) : PC Try.prog 26 [(false, [.sl 1 (enc eI xs)])] [(false, [.sl 1 (enc eI xs)])] := by
  refine PC_of (n := 22) Try.func26 rfl rfl rfl rfl (by simp) ?_
  refine W_seqK fun K1 h1 => ?_
  refine W_reg ?_
  simp [go_sem, ty3, ty42]
  first | refine h1 _ ?_ | refine ⟨by omega, h1 _ ?_⟩ | refine ⟨by omega, by omega, h1 _ ?_⟩ | (repeat (refine ⟨by first | omega | grind, ?_⟩)); refine h1 _ ?_
  clear h1 K1
  refine W_seqK fun K2 h2 => ?_
  refine W_reg ?_
  simp [go_sem, ty3, ty42]
  first | refine h2 _ ?_ | refine ⟨by omega, h2 _ ?_⟩ | refine ⟨by omega, by omega, h2 _ ?_⟩ | (repeat (refine ⟨by first | omega | grind, ?_⟩)); refine h2 _ ?_
  clear h2 K2
  refine W_seqK fun K3 h3 => ?_
  refine W_seqK fun K4 h4 => ?_
  refine W_reg ?_
  simp [go_sem, ty3]
  first | refine h4 _ ?_ | refine ⟨by omega, h4 _ ?_⟩ | refine ⟨by omega, by omega, h4 _ ?_⟩ | (repeat (refine ⟨by first | omega | grind, ?_⟩)); refine h4 _ ?_
  clear h4 K4
  refine W_block ?_
  refine W_loopI (α := Nat) (fun i => ({ env := [(0, true, .l (.ref 0 [] 1 0 (xs.length))), (3, true, .l (.ref 1 [] 1 0 (xs.length))), (4, true, .l (.t (.int .i64 (i))))], box := [], row := [(1, ⟨.own, 1, enc eI (xs.take i ++ List.replicate (xs.length - i) 0)⟩), (0, ⟨.ro, 1, enc eI xs⟩)], nxt := 2, sav := [] } : St)) (fun i => i ≤ xs.length) (fun i => xs.length - i) 0 ?_ ?_ ?_
  · exact Sub.of_neat [0, 3, 4] [1, 0] [] 2 (by decide) (by simp [go_sem, rep_eI])
  · exact Nat.zero_le _
  rintro i hinv
  refine W_seqK fun K6 h6 => ?_
  refine W_seqK fun K7 h7 => ?_
  refine W_reg ?_
  simp [go_sem, ty3, ty4, ty42]
  first | refine h7 _ ?_ | refine ⟨by omega, h7 _ ?_⟩ | refine ⟨by omega, by omega, h7 _ ?_⟩ | (repeat (refine ⟨by first | omega | grind, ?_⟩)); refine h7 _ ?_
  clear h7 K7
  refine W_cond rfl (fun hb8 => ?_) fun hb8 => ?_
  · have hlt : i < xs.length := by simpa using hb8
    clear hb8
    refine W_skip ?_
    first | refine h6 _ ?_ | refine ⟨by omega, h6 _ ?_⟩ | refine ⟨by omega, by omega, h6 _ ?_⟩ | (repeat (refine ⟨by first | omega | grind, ?_⟩)); refine h6 _ ?_
    clear h6 K6
    refine W_seqK fun K9 h9 => ?_
    refine W_block ?_
    refine W_reg ?_
    simp [go_sem, ty3, ty42, hlt]
    first | refine h9 _ ?_ | refine ⟨by omega, h9 _ ?_⟩ | refine ⟨by omega, by omega, h9 _ ?_⟩ | (repeat (refine ⟨by first | omega | grind, ?_⟩)); refine h9 _ ?_
    clear h9 K9
    refine W_reg ?_
    simp [go_sem, ty3]
    refine ⟨i + 1, ?_, ?_, ?_⟩
    · exact Sub.of_neat [0, 3, 4] [1, 0] [] 2 (by decide) (by simp [go_sem, wrap_succ (show i < 9223372036854775807 by omega), fill_step xs 0 i hlt])
    · exact hlt
    · omega
  · obtain rfl : i = xs.length := by simp at hb8; omega
    clear hb8
    refine W_exit ?_
    simp [go_sem]
    first | refine h3 _ ?_ | refine ⟨by omega, h3 _ ?_⟩ | refine ⟨by omega, by omega, h3 _ ?_⟩ | (repeat (refine ⟨by first | omega | grind, ?_⟩)); refine h3 _ ?_
    clear h6 K6 h3 K3
    refine W_seqK fun K10 h10 => ?_
    refine W_reg ?_
    simp [go_sem, ty3, ty42]
    first | refine h10 _ ?_ | refine ⟨by omega, h10 _ ?_⟩ | refine ⟨by omega, by omega, h10 _ ?_⟩ | (repeat (refine ⟨by first | omega | grind, ?_⟩)); refine h10 _ ?_
    clear h10 K10
    refine W_ret ?_
    simp [go_sem]

set_option maxRecDepth 100000 in
set_option maxHeartbeats 4000000 in
theorem pc_laws_eqIntS (xs : List Int) (ys : List Int) (hx : xs.length ≤ 17592186043904) : PC Try.prog 30 [(false, [.sl 1 (enc eI xs)]), (false, [.sl 1 (enc eI ys)])] [(false, [.bool (decide (xs = ys))])] := by
  refine PC_of (n := 26) Try.func30 rfl rfl rfl rfl (by simp) ?_
  refine W_seqK fun K1 h1 => ?_
  refine W_reg ?_
  simp [go_sem, ty4]
  first | refine h1 _ ?_ | refine ⟨by omega, h1 _ ?_⟩ | refine ⟨by omega, by omega, h1 _ ?_⟩ | (repeat (refine ⟨by first | omega | grind, ?_⟩)); refine h1 _ ?_
  clear h1 K1
  refine W_seqK fun K2 h2 => ?_
  refine W_seqK fun K3 h3 => ?_
  refine W_reg ?_
  simp [go_sem, ty3, ty4, ty42]
  first | refine h3 _ ?_ | refine ⟨by omega, h3 _ ?_⟩ | refine ⟨by omega, by omega, h3 _ ?_⟩ | (repeat (refine ⟨by first | omega | grind, ?_⟩)); refine h3 _ ?_
  clear h3 K3
  refine W_cond rfl (fun hb4 => ?_) fun hb4 => ?_
  · have hne : xs ≠ ys := ne_of_len (by simp at hb4; omega)
    refine W_seqK fun K5 h5 => ?_
    refine W_reg ?_
    simp [go_sem, ty4]
    first | refine h5 _ ?_ | refine ⟨by omega, h5 _ ?_⟩ | refine ⟨by omega, by omega, h5 _ ?_⟩ | (repeat (refine ⟨by first | omega | grind, ?_⟩)); refine h5 _ ?_
    clear h5 K5
    refine W_ret ?_
    simp [go_sem, hne]
  · have hl : xs.length = ys.length := by simp at hb4; omega
    clear hb4
    refine W_skip ?_
    first | refine h2 _ ?_ | refine ⟨by omega, h2 _ ?_⟩ | refine ⟨by omega, by omega, h2 _ ?_⟩ | (repeat (refine ⟨by first | omega | grind, ?_⟩)); refine h2 _ ?_
    clear h2 K2
    refine W_seqK fun K6 h6 => ?_
    refine W_seqK fun K7 h7 => ?_
    refine W_reg ?_
    simp [go_sem, ty3]
    first | refine h7 _ ?_ | refine ⟨by omega, h7 _ ?_⟩ | refine ⟨by omega, by omega, h7 _ ?_⟩ | (repeat (refine ⟨by first | omega | grind, ?_⟩)); refine h7 _ ?_
    clear h7 K7
    refine W_block ?_
    refine W_loopI (α := Nat) (fun i => ({ env := [(0, true, .l (.ref 0 [] 1 0 (xs.length))), (1, true, .l (.ref 1 [] 1 0 (ys.length))), (5, true, .l (.t (.int .i64 (i))))], box := [], row := [(0, ⟨.ro, 1, enc eI xs⟩), (1, ⟨.ro, 1, enc eI ys⟩)], nxt := 2, sav := [] } : St)) (fun i => i ≤ xs.length ∧ xs.take i = ys.take i) (fun i => xs.length - i) 0 ?_ ?_ ?_
    · exact Sub.of_neat [0, 1, 5] [0, 1] [] 2 (by decide) (by simp [go_sem])
    · simp
    rintro i hinv
    obtain ⟨hi, htk⟩ := hinv
    refine W_seqK fun K9 h9 => ?_
    refine W_seqK fun K10 h10 => ?_
    refine W_reg ?_
    simp [go_sem, ty3, ty4, ty42]
    first | refine h10 _ ?_ | refine ⟨by omega, h10 _ ?_⟩ | refine ⟨by omega, by omega, h10 _ ?_⟩ | (repeat (refine ⟨by first | omega | grind, ?_⟩)); refine h10 _ ?_
    clear h10 K10
    refine W_cond rfl (fun hb11 => ?_) fun hb11 => ?_
    · have hlt : i < xs.length := by simpa using hb11
      have hlt2 : i < ys.length := hl ▸ hlt
      clear hb11
      refine W_skip ?_
      first | refine h9 _ ?_ | refine ⟨by omega, h9 _ ?_⟩ | refine ⟨by omega, by omega, h9 _ ?_⟩ | (repeat (refine ⟨by first | omega | grind, ?_⟩)); refine h9 _ ?_
      clear h9 K9
      refine W_seqK fun K12 h12 => ?_
      refine W_block ?_
      refine W_seqK fun K13 h13 => ?_
      refine W_drawT true mixed (by decide +kernel) ?_
      simp [go_sem, ty3, ty4, ty42, hlt, hlt2]
      first | refine h13 _ ?_ | refine ⟨by omega, h13 _ ?_⟩ | refine ⟨by omega, by omega, h13 _ ?_⟩ | (repeat (refine ⟨by first | omega | grind, ?_⟩)); refine h13 _ ?_
      clear h13 K13
      refine W_cond rfl (fun hb14 => ?_) fun hb14 => ?_
      · have hne : xs ≠ ys := ne_of_get hlt hlt2 (by simpa [hlt, hlt2] using hb14)
        refine W_seqK fun K15 h15 => ?_
        refine W_reg ?_
        simp [go_sem, ty4]
        first | refine h15 _ ?_ | refine ⟨by omega, h15 _ ?_⟩ | refine ⟨by omega, by omega, h15 _ ?_⟩ | (repeat (refine ⟨by first | omega | grind, ?_⟩)); refine h15 _ ?_
        clear h15 K15
        refine W_ret ?_
        simp [go_sem, hne]
      · have he : xs[i] = ys[i] := by simpa [hlt, hlt2] using hb14
        clear hb14
        refine W_skip ?_
        first | refine h12 _ ?_ | refine ⟨by omega, h12 _ ?_⟩ | refine ⟨by omega, by omega, h12 _ ?_⟩ | (repeat (refine ⟨by first | omega | grind, ?_⟩)); refine h12 _ ?_
        clear h12 K12
        refine W_reg ?_
        simp [go_sem, ty3]
        refine ⟨i + 1, ?_, ?_, ?_⟩
        · exact Sub.of_neat [0, 1, 5] [0, 1] [] 2 (by decide) (by simp [go_sem, wrap_succ (show i < 9223372036854775807 by omega)])
        · exact ⟨hlt, take_succ_eq htk hlt hlt2 he⟩
        · omega
    · obtain rfl : i = xs.length := by simp at hb11; omega
      have hxy : xs = ys := eq_of_take hl htk
      clear hb11
      refine W_exit ?_
      simp [go_sem]
      first | refine h6 _ ?_ | refine ⟨by omega, h6 _ ?_⟩ | refine ⟨by omega, by omega, h6 _ ?_⟩ | (repeat (refine ⟨by first | omega | grind, ?_⟩)); refine h6 _ ?_
      clear h9 K9 h6 K6
      refine W_seqK fun K16 h16 => ?_
      refine W_reg ?_
      simp [go_sem, ty4]
      first | refine h16 _ ?_ | refine ⟨by omega, h16 _ ?_⟩ | refine ⟨by omega, by omega, h16 _ ?_⟩ | (repeat (refine ⟨by first | omega | grind, ?_⟩)); refine h16 _ ?_
      clear h16 K16
      refine W_ret ?_
      simp [go_sem, hxy]

set_option maxRecDepth 100000 in
set_option maxHeartbeats 4000000 in
theorem pc_laws_toHart (h : GHart) (hx : h.regs.length ≤ 1048576) : PC Try.prog 27 [(true, eHart h)] [(true, eHart h)] := by
  refine PC_of (n := 15) Try.func27 rfl rfl rfl rfl (by simp) ?_
  refine W_seqK fun K1 h1 => ?_
  refine W_reg ?_
  simp [go_sem, ty44, ty51]
  first | refine h1 _ ?_ | refine ⟨by omega, h1 _ ?_⟩ | refine ⟨by omega, by omega, h1 _ ?_⟩ | (repeat (refine ⟨by first | omega | grind, ?_⟩)); refine h1 _ ?_
  clear h1 K1
  refine W_seqK fun K2 h2 => ?_
  refine W_reg ?_
  simp [go_sem, ty51]
  first | refine h2 _ ?_ | refine ⟨by omega, h2 _ ?_⟩ | refine ⟨by omega, by omega, h2 _ ?_⟩ | (repeat (refine ⟨by first | omega | grind, ?_⟩)); refine h2 _ ?_
  clear h2 K2
  refine W_seqK fun K3 h3 => ?_
  refine W_reg ?_
  simp [go_sem, ty3, ty42, ty44]
  refine callG_pc (fun hG => pc_laws_toIntS h.regs (by omega)) (by first | (simp; done) | (simp [inR_iff]; done) | (simp [inR_iff]; grind) | grind) (fun hG => by simp [go_sem]) rfl rfl (by first | exact Or.inl rfl | exact Or.inr rfl) ?_
  simp [go_sem, ty3, ty42, ty51]
  first | refine h3 _ ?_ | refine ⟨by omega, h3 _ ?_⟩ | refine ⟨by omega, by omega, h3 _ ?_⟩ | (repeat (refine ⟨by first | omega | grind, ?_⟩)); refine h3 _ ?_
  clear h3 K3
  refine W_seqK fun K4 h4 => ?_
  refine W_reg ?_
  simp [go_sem, ty3, ty44, ty51]
  first | refine h4 _ ?_ | refine ⟨by omega, h4 _ ?_⟩ | refine ⟨by omega, by omega, h4 _ ?_⟩ | (repeat (refine ⟨by first | omega | grind, ?_⟩)); refine h4 _ ?_
  clear h4 K4
  refine W_seqK fun K5 h5 => ?_
  refine W_reg ?_
  simp [go_sem, ty3, ty44, ty51]
  first | refine h5 _ ?_ | refine ⟨by omega, h5 _ ?_⟩ | refine ⟨by omega, by omega, h5 _ ?_⟩ | (repeat (refine ⟨by first | omega | grind, ?_⟩)); refine h5 _ ?_
  clear h5 K5
  refine W_seqK fun K6 h6 => ?_
  refine W_reg ?_
  simp [go_sem, ty51]
  first | refine h6 _ ?_ | refine ⟨by omega, h6 _ ?_⟩ | refine ⟨by omega, by omega, h6 _ ?_⟩ | (repeat (refine ⟨by first | omega | grind, ?_⟩)); refine h6 _ ?_
  clear h6 K6
  refine W_ret ?_
  simp [go_sem, ty51]

set_option maxRecDepth 100000 in
set_option maxHeartbeats 4000000 in
theorem pc_laws_szIntS (xs : List Int) (left : Int) (h1 : -9223372036854775808 + 9223372036854775807 ≤ left) (h2 : left ≤ 9223372036854775807) (h3 : xs.length ≤ 9223372036854775807) : PC Try.prog 82 [(false, [.sl 1 (enc eI xs)]), (false, [.int .i64 left])] [(false, [.int .i64 (szL left xs.length)])] := by
  have hw : IntKind.wrap .i64 (left - xs.length) = left - xs.length := wrap_ok (by omega) (by omega)
  refine PC_of (n := 12) Try.func82 rfl rfl rfl rfl (by simp) ?_
  refine W_seqK fun K1 h1 => ?_
  refine W_reg ?_
  simp [go_sem, ty3]
  first | refine h1 _ ?_ | refine ⟨by omega, h1 _ ?_⟩ | refine ⟨by omega, by omega, h1 _ ?_⟩ | (repeat (refine ⟨by first | omega | grind, ?_⟩)); refine h1 _ ?_
  clear h1 K1
  refine W_seqK fun K2 h2 => ?_
  refine W_reg ?_
  simp [go_sem, ty3, ty42, hw]
  first | refine h2 _ ?_ | refine ⟨by omega, h2 _ ?_⟩ | refine ⟨by omega, by omega, h2 _ ?_⟩ | (repeat (refine ⟨by first | omega | grind, ?_⟩)); refine h2 _ ?_
  clear h2 K2
  refine W_seqK fun K3 h3 => ?_
  refine W_seqK fun K4 h4 => ?_
  refine W_reg ?_
  simp [go_sem, ty3, ty4]
  first | refine h4 _ ?_ | refine ⟨by omega, h4 _ ?_⟩ | refine ⟨by omega, by omega, h4 _ ?_⟩ | (repeat (refine ⟨by first | omega | grind, ?_⟩)); refine h4 _ ?_
  clear h4 K4
  refine W_cond rfl (fun hb5 => ?_) fun hb5 => ?_
  · have h0 : szL left xs.length = -1 := by simp at hb5; unfold szL; omega
    refine W_seqK fun K6 h6 => ?_
    refine W_reg ?_
    simp [go_sem, ty3]
    first | refine h6 _ ?_ | refine ⟨by omega, h6 _ ?_⟩ | refine ⟨by omega, by omega, h6 _ ?_⟩ | (repeat (refine ⟨by first | omega | grind, ?_⟩)); refine h6 _ ?_
    clear h6 K6
    refine W_ret ?_
    simp [go_sem, h0]
  · have h0 : szL left xs.length = left - xs.length := by simp at hb5; unfold szL; omega
    refine W_skip ?_
    first | refine h3 _ ?_ | refine ⟨by omega, h3 _ ?_⟩ | refine ⟨by omega, by omega, h3 _ ?_⟩ | (repeat (refine ⟨by first | omega | grind, ?_⟩)); refine h3 _ ?_
    clear h3 K3
    refine W_seqK fun K7 h7 => ?_
    refine W_reg ?_
    simp [go_sem, ty3]
    first | refine h7 _ ?_ | refine ⟨by omega, h7 _ ?_⟩ | refine ⟨by omega, by omega, h7 _ ?_⟩ | (repeat (refine ⟨by first | omega | grind, ?_⟩)); refine h7 _ ?_
    clear h7 K7
    refine W_ret ?_
    simp [go_sem, h0]

set_option maxRecDepth 100000 in
set_option maxHeartbeats 4000000 in
theorem pc_laws_szHart (h : GHart) (left : Int) (h1 : -9223372036854775808 + 9223372036854775807 ≤ left) (h2 : left ≤ 9223372036854775807) (h3 : h.regs.length ≤ 9223372036854775807) : PC Try.prog 24 [(true, eHart h), (false, [.int .i64 left])] [(false, [.int .i64 (szL left h.regs.length)])] := by
  refine PC_of (n := 12) Try.func24 rfl rfl rfl rfl (by simp) ?_
  refine W_seqK fun K1 h1 => ?_
  refine W_reg ?_
  simp [go_sem, ty3, ty44]
  first | refine h1 _ ?_ | refine ⟨by omega, h1 _ ?_⟩ | refine ⟨by omega, by omega, h1 _ ?_⟩ | (repeat (refine ⟨by first | omega | grind, ?_⟩)); refine h1 _ ?_
  clear h1 K1
  refine W_seqK fun K2 h2 => ?_
  refine W_reg ?_
  simp [go_sem, ty3, ty42, ty44]
  refine callG_pc (fun hG => pc_laws_szIntS h.regs left (by omega) (by omega) (by omega)) (by first | (simp; done) | (simp [inR_iff]; done) | (simp [inR_iff]; grind) | grind) (fun hG => by simp [go_sem]) rfl rfl (by first | exact Or.inl rfl | exact Or.inr rfl) ?_
  simp [go_sem, ty3]
  first | refine h2 _ ?_ | refine ⟨by omega, h2 _ ?_⟩ | refine ⟨by omega, by omega, h2 _ ?_⟩ | (repeat (refine ⟨by first | omega | grind, ?_⟩)); refine h2 _ ?_
  clear h2 K2
  refine W_seqK fun K3 h3 => ?_
  refine W_seqK fun K4 h4 => ?_
  refine W_reg ?_
  simp [go_sem, ty3, ty4]
  first | refine h4 _ ?_ | refine ⟨by omega, h4 _ ?_⟩ | refine ⟨by omega, by omega, h4 _ ?_⟩ | (repeat (refine ⟨by first | omega | grind, ?_⟩)); refine h4 _ ?_
  clear h4 K4
  refine W_cond rfl (fun hb5 => ?_) fun hb5 => ?_
  · have h0 : szL left h.regs.length = -1 := by simp at hb5; unfold szL at hb5 ⊢; split at hb5 <;> simp_all
    refine W_seqK fun K6 h6 => ?_
    refine W_reg ?_
    simp [go_sem, ty3]
    first | refine h6 _ ?_ | refine ⟨by omega, h6 _ ?_⟩ | refine ⟨by omega, by omega, h6 _ ?_⟩ | (repeat (refine ⟨by first | omega | grind, ?_⟩)); refine h6 _ ?_
    clear h6 K6
    refine W_ret ?_
    simp [go_sem, h0]
  · skip
    refine W_skip ?_
    first | refine h3 _ ?_ | refine ⟨by omega, h3 _ ?_⟩ | refine ⟨by omega, by omega, h3 _ ?_⟩ | (repeat (refine ⟨by first | omega | grind, ?_⟩)); refine h3 _ ?_
    clear h3 K3
    refine W_seqK fun K7 h7 => ?_
    refine W_reg ?_
    simp [go_sem, ty3]
    first | refine h7 _ ?_ | refine ⟨by omega, h7 _ ?_⟩ | refine ⟨by omega, by omega, h7 _ ?_⟩ | (repeat (refine ⟨by first | omega | grind, ?_⟩)); refine h7 _ ?_
    clear h7 K7
    refine W_ret ?_
    simp [go_sem]

set_option maxRecDepth 100000 in
set_option maxHeartbeats 4000000 in
theorem pc_laws_eqHart (a : GHart) (b : GHart) (hx : a.regs.length ≤ 17592186043904) : PC Try.prog 31 [(true, eHart a), (true, eHart b)] [(false, [.bool (decide (a = b))])] := by
  refine PC_of (n := 21) Try.func31 rfl rfl rfl rfl (by simp) ?_
  refine W_seqK fun K1 h1 => ?_
  refine W_reg ?_
  simp [go_sem, ty4, ty51]
  first | refine h1 _ ?_ | refine ⟨by omega, h1 _ ?_⟩ | refine ⟨by omega, by omega, h1 _ ?_⟩ | (repeat (refine ⟨by first | omega | grind, ?_⟩)); refine h1 _ ?_
  clear h1 K1
  refine W_seqK fun K2 h2 => ?_
  refine W_seqK fun K3 h3 => ?_
  refine W_reg ?_
  simp [go_sem, ty3, ty4, ty42, ty51]
  refine callG_pc (fun hG => pc_laws_eqIntS a.regs b.regs (by omega)) (by first | (simp; done) | (simp [inR_iff]; done) | (simp [inR_iff]; grind) | grind) (fun hG => by simp [go_sem]) rfl rfl (by first | exact Or.inl rfl | exact Or.inr rfl) ?_
  simp [go_sem, ty4]
  first | refine h3 _ ?_ | refine ⟨by omega, h3 _ ?_⟩ | refine ⟨by omega, by omega, h3 _ ?_⟩ | (repeat (refine ⟨by first | omega | grind, ?_⟩)); refine h3 _ ?_
  clear h3 K3
  refine W_cond rfl (fun hb4 => ?_) fun hb4 => ?_
  · simp at hb4
    refine W_seqK fun K5 h5 => ?_
    refine W_reg ?_
    simp [go_sem, ty4]
    first | refine h5 _ ?_ | refine ⟨by omega, h5 _ ?_⟩ | refine ⟨by omega, by omega, h5 _ ?_⟩ | (repeat (refine ⟨by first | omega | grind, ?_⟩)); refine h5 _ ?_
    clear h5 K5
    refine W_ret ?_
    simp [go_sem, GHart.ext_iff, hb4]
  · simp at hb4
    refine W_skip ?_
    first | refine h2 _ ?_ | refine ⟨by omega, h2 _ ?_⟩ | refine ⟨by omega, by omega, h2 _ ?_⟩ | (repeat (refine ⟨by first | omega | grind, ?_⟩)); refine h2 _ ?_
    clear h2 K2
    refine W_seqK fun K6 h6 => ?_
    refine W_seqK fun K7 h7 => ?_
    refine W_reg ?_
    simp [go_sem, ty3, ty4, ty51]
    first | refine h7 _ ?_ | refine ⟨by omega, h7 _ ?_⟩ | refine ⟨by omega, by omega, h7 _ ?_⟩ | (repeat (refine ⟨by first | omega | grind, ?_⟩)); refine h7 _ ?_
    clear h7 K7
    refine W_cond rfl (fun hb8 => ?_) fun hb8 => ?_
    · simp at hb8
      refine W_seqK fun K9 h9 => ?_
      refine W_reg ?_
      simp [go_sem, ty4]
      first | refine h9 _ ?_ | refine ⟨by omega, h9 _ ?_⟩ | refine ⟨by omega, by omega, h9 _ ?_⟩ | (repeat (refine ⟨by first | omega | grind, ?_⟩)); refine h9 _ ?_
      clear h9 K9
      refine W_ret ?_
      simp [go_sem, GHart.ext_iff, hb4, hb8]
    · simp at hb8
      refine W_skip ?_
      first | refine h6 _ ?_ | refine ⟨by omega, h6 _ ?_⟩ | refine ⟨by omega, by omega, h6 _ ?_⟩ | (repeat (refine ⟨by first | omega | grind, ?_⟩)); refine h6 _ ?_
      clear h6 K6
      refine W_seqK fun K10 h10 => ?_
      refine W_seqK fun K11 h11 => ?_
      refine W_reg ?_
      simp [go_sem, ty3, ty4, ty51]
      first | refine h11 _ ?_ | refine ⟨by omega, h11 _ ?_⟩ | refine ⟨by omega, by omega, h11 _ ?_⟩ | (repeat (refine ⟨by first | omega | grind, ?_⟩)); refine h11 _ ?_
      clear h11 K11
      refine W_cond rfl (fun hb12 => ?_) fun hb12 => ?_
      · simp at hb12
        refine W_seqK fun K13 h13 => ?_
        refine W_reg ?_
        simp [go_sem, ty4]
        first | refine h13 _ ?_ | refine ⟨by omega, h13 _ ?_⟩ | refine ⟨by omega, by omega, h13 _ ?_⟩ | (repeat (refine ⟨by first | omega | grind, ?_⟩)); refine h13 _ ?_
        clear h13 K13
        refine W_ret ?_
        simp [go_sem, GHart.ext_iff, hb4, hb8, hb12]
      · simp at hb12
        refine W_skip ?_
        first | refine h10 _ ?_ | refine ⟨by omega, h10 _ ?_⟩ | refine ⟨by omega, by omega, h10 _ ?_⟩ | (repeat (refine ⟨by first | omega | grind, ?_⟩)); refine h10 _ ?_
        clear h10 K10
        refine W_seqK fun K14 h14 => ?_
        refine W_reg ?_
        simp [go_sem, ty4]
        first | refine h14 _ ?_ | refine ⟨by omega, h14 _ ?_⟩ | refine ⟨by omega, by omega, h14 _ ?_⟩ | (repeat (refine ⟨by first | omega | grind, ?_⟩)); refine h14 _ ?_
        clear h14 K14
        refine W_ret ?_
        simp [go_sem, GHart.ext_iff, hb4, hb8, hb12]

set_option maxRecDepth 100000 in
set_option maxHeartbeats 4000000 in
theorem pc_laws_eqEvent (a : GEvent) (b : GEvent)  : PC Try.prog 29 [(true, eEvent a), (true, eEvent b)] [(false, [.bool (decide (a = b))])] := by
  refine PC_of (n := 30) Try.func29 rfl rfl rfl rfl (by simp) ?_
  refine W_seqK fun K1 h1 => ?_
  refine W_reg ?_
  simp [go_sem, ty4, ty47]
  first | refine h1 _ ?_ | refine ⟨by omega, h1 _ ?_⟩ | refine ⟨by omega, by omega, h1 _ ?_⟩ | (repeat (refine ⟨by first | omega | grind, ?_⟩)); refine h1 _ ?_
  clear h1 K1
  refine W_seqK fun K2 h2 => ?_
  refine W_seqK fun K3 h3 => ?_
  refine W_reg ?_
  simp [go_sem, ty3, ty4, ty47]
  first | refine h3 _ ?_ | refine ⟨by omega, h3 _ ?_⟩ | refine ⟨by omega, by omega, h3 _ ?_⟩ | (repeat (refine ⟨by first | omega | grind, ?_⟩)); refine h3 _ ?_
  clear h3 K3
  refine W_cond rfl (fun hb4 => ?_) fun hb4 => ?_
  · simp at hb4
    refine W_seqK fun K5 h5 => ?_
    refine W_reg ?_
    simp [go_sem, ty4]
    first | refine h5 _ ?_ | refine ⟨by omega, h5 _ ?_⟩ | refine ⟨by omega, by omega, h5 _ ?_⟩ | (repeat (refine ⟨by first | omega | grind, ?_⟩)); refine h5 _ ?_
    clear h5 K5
    refine W_ret ?_
    simp [go_sem, GEvent.ext_iff, hb4]
  · simp at hb4
    refine W_skip ?_
    first | refine h2 _ ?_ | refine ⟨by omega, h2 _ ?_⟩ | refine ⟨by omega, by omega, h2 _ ?_⟩ | (repeat (refine ⟨by first | omega | grind, ?_⟩)); refine h2 _ ?_
    clear h2 K2
    refine W_seqK fun K6 h6 => ?_
    refine W_seqK fun K7 h7 => ?_
    refine W_reg ?_
    simp [go_sem, ty3, ty4, ty47]
    first | refine h7 _ ?_ | refine ⟨by omega, h7 _ ?_⟩ | refine ⟨by omega, by omega, h7 _ ?_⟩ | (repeat (refine ⟨by first | omega | grind, ?_⟩)); refine h7 _ ?_
    clear h7 K7
    refine W_cond rfl (fun hb8 => ?_) fun hb8 => ?_
    · simp at hb8
      refine W_seqK fun K9 h9 => ?_
      refine W_reg ?_
      simp [go_sem, ty4]
      first | refine h9 _ ?_ | refine ⟨by omega, h9 _ ?_⟩ | refine ⟨by omega, by omega, h9 _ ?_⟩ | (repeat (refine ⟨by first | omega | grind, ?_⟩)); refine h9 _ ?_
      clear h9 K9
      refine W_ret ?_
      simp [go_sem, GEvent.ext_iff, hb4, hb8]
    · simp at hb8
      refine W_skip ?_
      first | refine h6 _ ?_ | refine ⟨by omega, h6 _ ?_⟩ | refine ⟨by omega, by omega, h6 _ ?_⟩ | (repeat (refine ⟨by first | omega | grind, ?_⟩)); refine h6 _ ?_
      clear h6 K6
      refine W_seqK fun K10 h10 => ?_
      refine W_seqK fun K11 h11 => ?_
      refine W_reg ?_
      simp [go_sem, ty3, ty4, ty47]
      first | refine h11 _ ?_ | refine ⟨by omega, h11 _ ?_⟩ | refine ⟨by omega, by omega, h11 _ ?_⟩ | (repeat (refine ⟨by first | omega | grind, ?_⟩)); refine h11 _ ?_
      clear h11 K11
      refine W_cond rfl (fun hb12 => ?_) fun hb12 => ?_
      · simp at hb12
        refine W_seqK fun K13 h13 => ?_
        refine W_reg ?_
        simp [go_sem, ty4]
        first | refine h13 _ ?_ | refine ⟨by omega, h13 _ ?_⟩ | refine ⟨by omega, by omega, h13 _ ?_⟩ | (repeat (refine ⟨by first | omega | grind, ?_⟩)); refine h13 _ ?_
        clear h13 K13
        refine W_ret ?_
        simp [go_sem, GEvent.ext_iff, hb4, hb8, hb12]
      · simp at hb12
        refine W_skip ?_
        first | refine h10 _ ?_ | refine ⟨by omega, h10 _ ?_⟩ | refine ⟨by omega, by omega, h10 _ ?_⟩ | (repeat (refine ⟨by first | omega | grind, ?_⟩)); refine h10 _ ?_
        clear h10 K10
        refine W_seqK fun K14 h14 => ?_
        refine W_seqK fun K15 h15 => ?_
        refine W_reg ?_
        simp [go_sem, ty3, ty4, ty47]
        first | refine h15 _ ?_ | refine ⟨by omega, h15 _ ?_⟩ | refine ⟨by omega, by omega, h15 _ ?_⟩ | (repeat (refine ⟨by first | omega | grind, ?_⟩)); refine h15 _ ?_
        clear h15 K15
        refine W_cond rfl (fun hb16 => ?_) fun hb16 => ?_
        · simp at hb16
          refine W_seqK fun K17 h17 => ?_
          refine W_reg ?_
          simp [go_sem, ty4]
          first | refine h17 _ ?_ | refine ⟨by omega, h17 _ ?_⟩ | refine ⟨by omega, by omega, h17 _ ?_⟩ | (repeat (refine ⟨by first | omega | grind, ?_⟩)); refine h17 _ ?_
          clear h17 K17
          refine W_ret ?_
          simp [go_sem, GEvent.ext_iff, hb4, hb8, hb12, hb16]
        · simp at hb16
          refine W_skip ?_
          first | refine h14 _ ?_ | refine ⟨by omega, h14 _ ?_⟩ | refine ⟨by omega, by omega, h14 _ ?_⟩ | (repeat (refine ⟨by first | omega | grind, ?_⟩)); refine h14 _ ?_
          clear h14 K14
          refine W_seqK fun K18 h18 => ?_
          refine W_seqK fun K19 h19 => ?_
          refine W_reg ?_
          simp [go_sem, ty3, ty4, ty47]
          first | refine h19 _ ?_ | refine ⟨by omega, h19 _ ?_⟩ | refine ⟨by omega, by omega, h19 _ ?_⟩ | (repeat (refine ⟨by first | omega | grind, ?_⟩)); refine h19 _ ?_
          clear h19 K19
          refine W_cond rfl (fun hb20 => ?_) fun hb20 => ?_
          · simp at hb20
            refine W_seqK fun K21 h21 => ?_
            refine W_reg ?_
            simp [go_sem, ty4]
            first | refine h21 _ ?_ | refine ⟨by omega, h21 _ ?_⟩ | refine ⟨by omega, by omega, h21 _ ?_⟩ | (repeat (refine ⟨by first | omega | grind, ?_⟩)); refine h21 _ ?_
            clear h21 K21
            refine W_ret ?_
            simp [go_sem, GEvent.ext_iff, hb4, hb8, hb12, hb16, hb20]
          · simp at hb20
            refine W_skip ?_
            first | refine h18 _ ?_ | refine ⟨by omega, h18 _ ?_⟩ | refine ⟨by omega, by omega, h18 _ ?_⟩ | (repeat (refine ⟨by first | omega | grind, ?_⟩)); refine h18 _ ?_
            clear h18 K18
            refine W_seqK fun K22 h22 => ?_
            refine W_reg ?_
            simp [go_sem, ty4]
            first | refine h22 _ ?_ | refine ⟨by omega, h22 _ ?_⟩ | refine ⟨by omega, by omega, h22 _ ?_⟩ | (repeat (refine ⟨by first | omega | grind, ?_⟩)); refine h22 _ ?_
            clear h22 K22
            refine W_ret ?_
            simp [go_sem, GEvent.ext_iff, hb4, hb8, hb12, hb16, hb20]

set_option maxRecDepth 100000 in
set_option maxHeartbeats 4000000 in
theorem pc_laws_eqEventS (xs : List GEvent) (ys : List GEvent) (hx : xs.length ≤ 17592186043904) : PC Try.prog 41 [(false, [.sl 5 (enc eEvent xs)]), (false, [.sl 5 (enc eEvent ys)])] [(false, [.bool (decide (xs = ys))])] := by
  refine PC_of (n := 27) Try.func41 rfl rfl rfl rfl (by simp) ?_
  refine W_seqK fun K1 h1 => ?_
  refine W_reg ?_
  simp [go_sem, ty4]
  first | refine h1 _ ?_ | refine ⟨by omega, h1 _ ?_⟩ | refine ⟨by omega, by omega, h1 _ ?_⟩ | (repeat (refine ⟨by first | omega | grind, ?_⟩)); refine h1 _ ?_
  clear h1 K1
  refine W_seqK fun K2 h2 => ?_
  refine W_seqK fun K3 h3 => ?_
  refine W_reg ?_
  simp [go_sem, ty3, ty4, ty47, ty66]
  first | refine h3 _ ?_ | refine ⟨by omega, h3 _ ?_⟩ | refine ⟨by omega, by omega, h3 _ ?_⟩ | (repeat (refine ⟨by first | omega | grind, ?_⟩)); refine h3 _ ?_
  clear h3 K3
  refine W_cond rfl (fun hb4 => ?_) fun hb4 => ?_
  · have hne : xs ≠ ys := ne_of_len (by simp at hb4; omega)
    refine W_seqK fun K5 h5 => ?_
    refine W_reg ?_
    simp [go_sem, ty4]
    first | refine h5 _ ?_ | refine ⟨by omega, h5 _ ?_⟩ | refine ⟨by omega, by omega, h5 _ ?_⟩ | (repeat (refine ⟨by first | omega | grind, ?_⟩)); refine h5 _ ?_
    clear h5 K5
    refine W_ret ?_
    simp [go_sem, hne]
  · have hl : xs.length = ys.length := by simp at hb4; omega
    clear hb4
    refine W_skip ?_
    first | refine h2 _ ?_ | refine ⟨by omega, h2 _ ?_⟩ | refine ⟨by omega, by omega, h2 _ ?_⟩ | (repeat (refine ⟨by first | omega | grind, ?_⟩)); refine h2 _ ?_
    clear h2 K2
    refine W_seqK fun K6 h6 => ?_
    refine W_seqK fun K7 h7 => ?_
    refine W_reg ?_
    simp [go_sem, ty3]
    first | refine h7 _ ?_ | refine ⟨by omega, h7 _ ?_⟩ | refine ⟨by omega, by omega, h7 _ ?_⟩ | (repeat (refine ⟨by first | omega | grind, ?_⟩)); refine h7 _ ?_
    clear h7 K7
    refine W_block ?_
    refine W_loopI (α := Nat) (fun i => ({ env := [(0, true, .l (.ref 0 [] 5 0 (xs.length))), (1, true, .l (.ref 1 [] 5 0 (ys.length))), (5, true, .l (.t (.int .i64 (i))))], box := [], row := [(0, ⟨.ro, 5, enc eEvent xs⟩), (1, ⟨.ro, 5, enc eEvent ys⟩)], nxt := 2, sav := [] } : St)) (fun i => i ≤ xs.length ∧ xs.take i = ys.take i) (fun i => xs.length - i) 0 ?_ ?_ ?_
    · exact Sub.of_neat [0, 1, 5] [0, 1] [] 2 (by decide) (by simp [go_sem])
    · simp
    rintro i hinv
    obtain ⟨hi, htk⟩ := hinv
    refine W_seqK fun K9 h9 => ?_
    refine W_seqK fun K10 h10 => ?_
    refine W_reg ?_
    simp [go_sem, ty3, ty4, ty47, ty66]
    first | refine h10 _ ?_ | refine ⟨by omega, h10 _ ?_⟩ | refine ⟨by omega, by omega, h10 _ ?_⟩ | (repeat (refine ⟨by first | omega | grind, ?_⟩)); refine h10 _ ?_
    clear h10 K10
    refine W_cond rfl (fun hb11 => ?_) fun hb11 => ?_
    · have hlt : i < xs.length := by simpa using hb11
      have hlt2 : i < ys.length := hl ▸ hlt
      clear hb11
      refine W_skip ?_
      first | refine h9 _ ?_ | refine ⟨by omega, h9 _ ?_⟩ | refine ⟨by omega, by omega, h9 _ ?_⟩ | (repeat (refine ⟨by first | omega | grind, ?_⟩)); refine h9 _ ?_
      clear h9 K9
      refine W_seqK fun K12 h12 => ?_
      refine W_block ?_
      refine W_seqK fun K13 h13 => ?_
      refine W_drawT true mixed (by decide +kernel) ?_
      simp [go_sem, ty3, ty4, ty47, ty66, hlt, hlt2]
      refine callG_pc (fun hG => pc_laws_eqEvent xs[i] ys[i]) (by first | (simp; done) | (simp [inR_iff]; done) | (simp [inR_iff]; grind) | grind) (fun hG => by simp [go_sem]) rfl rfl (by first | exact Or.inl rfl | exact Or.inr rfl) ?_
      simp [go_sem, ty4, hlt, hlt2]
      first | refine h13 _ ?_ | refine ⟨by omega, h13 _ ?_⟩ | refine ⟨by omega, by omega, h13 _ ?_⟩ | (repeat (refine ⟨by first | omega | grind, ?_⟩)); refine h13 _ ?_
      clear h13 K13
      refine W_cond rfl (fun hb14 => ?_) fun hb14 => ?_
      · have hne : xs ≠ ys := ne_of_get hlt hlt2 (by simpa [hlt, hlt2] using hb14)
        refine W_seqK fun K15 h15 => ?_
        refine W_reg ?_
        simp [go_sem, ty4]
        first | refine h15 _ ?_ | refine ⟨by omega, h15 _ ?_⟩ | refine ⟨by omega, by omega, h15 _ ?_⟩ | (repeat (refine ⟨by first | omega | grind, ?_⟩)); refine h15 _ ?_
        clear h15 K15
        refine W_ret ?_
        simp [go_sem, hne]
      · have he : xs[i] = ys[i] := by simpa [hlt, hlt2] using hb14
        clear hb14
        refine W_skip ?_
        first | refine h12 _ ?_ | refine ⟨by omega, h12 _ ?_⟩ | refine ⟨by omega, by omega, h12 _ ?_⟩ | (repeat (refine ⟨by first | omega | grind, ?_⟩)); refine h12 _ ?_
        clear h12 K12
        refine W_reg ?_
        simp [go_sem, ty3]
        refine ⟨i + 1, ?_, ?_, ?_⟩
        · exact Sub.of_neat [0, 1, 5] [0, 1] [] 2 (by decide) (by simp [go_sem, wrap_succ (show i < 9223372036854775807 by omega)])
        · exact ⟨hlt, take_succ_eq htk hlt hlt2 he⟩
        · omega
    · obtain rfl : i = xs.length := by simp at hb11; omega
      have hxy : xs = ys := eq_of_take hl htk
      clear hb11
      refine W_exit ?_
      simp [go_sem]
      first | refine h6 _ ?_ | refine ⟨by omega, h6 _ ?_⟩ | refine ⟨by omega, by omega, h6 _ ?_⟩ | (repeat (refine ⟨by first | omega | grind, ?_⟩)); refine h6 _ ?_
      clear h9 K9 h6 K6
      refine W_seqK fun K16 h16 => ?_
      refine W_reg ?_
      simp [go_sem, ty4]
      first | refine h16 _ ?_ | refine ⟨by omega, h16 _ ?_⟩ | refine ⟨by omega, by omega, h16 _ ?_⟩ | (repeat (refine ⟨by first | omega | grind, ?_⟩)); refine h16 _ ?_
      clear h16 K16
      refine W_ret ?_
      simp [go_sem, hxy]

set_option maxRecDepth 100000 in
set_option maxHeartbeats 4000000 in
theorem pc_laws_szHartS (xs : List GHart) (left : Int) (g1 : 0 ≤ left) (g2 : left ≤ 9223372036854775807) (g3 : xs.length ≤ 9223372036854775807) (g4 : ∀ a ∈ xs, a.ok) : PC Try.prog 37 [(false, [.sl 3 (enc eHart xs)]), (false, [.int .i64 left])] [(false, [.int .i64 (szL left (xs.length + (xs.map fun a => a.tot).sum))])] := by
  have hw : IntKind.wrap .i64 (left - xs.length) = left - xs.length := wrap_ok (by omega) (by omega)
  have htt : ∀ a : GHart, a.regs.length = a.tot := fun _ => rfl
  refine PC_of (n := 27) Try.func37 rfl rfl rfl rfl (by simp) ?_
  refine W_seqK fun K1 h1 => ?_
  refine W_reg ?_
  simp [go_sem, ty3]
  first | refine h1 _ ?_ | refine ⟨by omega, h1 _ ?_⟩ | refine ⟨by omega, by omega, h1 _ ?_⟩ | (repeat (refine ⟨by first | omega | grind, ?_⟩)); refine h1 _ ?_
  clear h1 K1
  refine W_seqK fun K2 h2 => ?_
  refine W_reg ?_
  simp [go_sem, ty3, ty44, ty64, hw]
  first | refine h2 _ ?_ | refine ⟨by omega, h2 _ ?_⟩ | refine ⟨by omega, by omega, h2 _ ?_⟩ | (repeat (refine ⟨by first | omega | grind, ?_⟩)); refine h2 _ ?_
  clear h2 K2
  refine W_seqK fun K3 h3 => ?_
  refine W_seqK fun K4 h4 => ?_
  refine W_reg ?_
  simp [go_sem, ty3, ty4]
  first | refine h4 _ ?_ | refine ⟨by omega, h4 _ ?_⟩ | refine ⟨by omega, by omega, h4 _ ?_⟩ | (repeat (refine ⟨by first | omega | grind, ?_⟩)); refine h4 _ ?_
  clear h4 K4
  refine W_cond rfl (fun hb5 => ?_) fun hb5 => ?_
  · have q : szL left (xs.length + (xs.map fun a => a.tot).sum) = -1 := szL_neg _ (by unfold szL; simp at hb5; rw [if_pos (by omega)]; omega)
    refine W_seqK fun K6 h6 => ?_
    refine W_reg ?_
    simp [go_sem, ty3]
    first | refine h6 _ ?_ | refine ⟨by omega, h6 _ ?_⟩ | refine ⟨by omega, by omega, h6 _ ?_⟩ | (repeat (refine ⟨by first | omega | grind, ?_⟩)); refine h6 _ ?_
    clear h6 K6
    refine W_ret ?_
    simp [go_sem, q]
  · have ql : 0 ≤ left - xs.length := by simpa using hb5
    have qs : szL left xs.length = left - xs.length := by unfold szL; rw [if_neg (by omega)]
    clear hb5
    refine W_skip ?_
    first | refine h3 _ ?_ | refine ⟨by omega, h3 _ ?_⟩ | refine ⟨by omega, by omega, h3 _ ?_⟩ | (repeat (refine ⟨by first | omega | grind, ?_⟩)); refine h3 _ ?_
    clear h3 K3
    refine W_seqK fun K7 h7 => ?_
    refine W_seqK fun K8 h8 => ?_
    refine W_reg ?_
    simp [go_sem, ty3, hw]
    first | refine h8 _ ?_ | refine ⟨by omega, h8 _ ?_⟩ | refine ⟨by omega, by omega, h8 _ ?_⟩ | (repeat (refine ⟨by first | omega | grind, ?_⟩)); refine h8 _ ?_
    clear h8 K8
    refine W_block ?_
    refine W_loopI (α := Nat) (fun i => ({ env := [(0, true, .l (.ref 0 [] 3 0 (xs.length))), (1, true, .l (.t (.int .i64 (szL left (xs.length + sumTo (fun a : GHart => a.tot) xs i))))), (5, true, .l (.t (.int .i64 (i))))], box := [], row := [(0, ⟨.ro, 3, enc eHart xs⟩)], nxt := 2, sav := [] } : St)) (fun i => i ≤ xs.length ∧ 0 ≤ szL left (xs.length + sumTo (fun a : GHart => a.tot) xs i)) (fun i => xs.length - i) 0 ?_ ?_ ?_
    · exact Sub.of_neat [0, 1, 5] [0] [] 2 (by decide) (by simp [go_sem, sumTo_zero, qs])
    · exact ⟨Nat.zero_le _, by simpa [sumTo_zero, qs] using ql⟩
    rintro i hinv
    obtain ⟨hi, hle⟩ := hinv
    refine W_seqK fun K10 h10 => ?_
    refine W_seqK fun K11 h11 => ?_
    refine W_reg ?_
    simp [go_sem, ty3, ty4, ty44, ty64, hw]
    first | refine h11 _ ?_ | refine ⟨by omega, h11 _ ?_⟩ | refine ⟨by omega, by omega, h11 _ ?_⟩ | (repeat (refine ⟨by first | omega | grind, ?_⟩)); refine h11 _ ?_
    clear h11 K11
    refine W_cond rfl (fun hb12 => ?_) fun hb12 => ?_
    · have hlt : i < xs.length := by simpa using hb12
      have hstep : szL (szL left (xs.length + sumTo (fun a : GHart => a.tot) xs i)) (xs[i].tot) = szL left (xs.length + sumTo (fun a : GHart => a.tot) xs (i + 1)) := by rw [szL_add _ hle, sumTo_succ _ hlt, Nat.add_assoc]
      clear hb12
      refine W_skip ?_
      first | refine h10 _ ?_ | refine ⟨by omega, h10 _ ?_⟩ | refine ⟨by omega, by omega, h10 _ ?_⟩ | (repeat (refine ⟨by first | omega | grind, ?_⟩)); refine h10 _ ?_
      clear h10 K10
      refine W_seqK fun K13 h13 => ?_
      refine W_block ?_
      refine W_seqK fun K14 h14 => ?_
      refine W_reg ?_
      simp [go_sem, ty3, ty44, ty64, hw, hlt, htt, hstep]
      refine callG_pc (fun hG => pc_laws_szHart xs[i] (szL left (xs.length + sumTo (fun a : GHart => a.tot) xs i)) (by omega) (by have := szL_le (n := xs.length + sumTo (fun a : GHart => a.tot) xs i) g1; omega) (by have h9 := g4 _ (List.getElem_mem hlt); unfold GHart.ok at h9; exact h9.1.1)) (by first | (simp; done) | (simp [inR_iff]; done) | (simp [inR_iff]; grind) | grind) (fun hG => by simp [go_sem, hlt, hw, hlt, htt, hstep]) rfl rfl (by first | exact Or.inl rfl | exact Or.inr rfl) ?_
      simp [go_sem, ty3, hw, hlt, htt, hstep]
      first | refine h14 _ ?_ | refine ⟨by omega, h14 _ ?_⟩ | refine ⟨by omega, by omega, h14 _ ?_⟩ | (repeat (refine ⟨by first | omega | grind, ?_⟩)); refine h14 _ ?_
      clear h14 K14
      refine W_seqK fun K15 h15 => ?_
      refine W_reg ?_
      simp [go_sem, ty3, ty4, hw, hlt, htt, hstep]
      first | refine h15 _ ?_ | refine ⟨by omega, h15 _ ?_⟩ | refine ⟨by omega, by omega, h15 _ ?_⟩ | (repeat (refine ⟨by first | omega | grind, ?_⟩)); refine h15 _ ?_
      clear h15 K15
      refine W_cond rfl (fun hb16 => ?_) fun hb16 => ?_
      · have q : szL left (xs.length + (xs.map fun a => a.tot).sum) = -1 := by
          obtain ⟨m, hm⟩ := sumTo_rest (fun a : GHart => a.tot) xs (i + 1)
          have hb162 : szL left (xs.length + sumTo (fun a : GHart => a.tot) xs (i + 1)) < 0 := by simpa using hb16
          rw [show (xs.length + (xs.map fun a => a.tot).sum) = (xs.length + sumTo (fun a : GHart => a.tot) xs (i + 1)) + m from by omega]
          exact szL_neg _ hb162
        refine W_seqK fun K17 h17 => ?_
        refine W_reg ?_
        simp [go_sem, ty3, hw, hlt, htt, hstep]
        first | refine h17 _ ?_ | refine ⟨by omega, h17 _ ?_⟩ | refine ⟨by omega, by omega, h17 _ ?_⟩ | (repeat (refine ⟨by first | omega | grind, ?_⟩)); refine h17 _ ?_
        clear h17 K17
        refine W_ret ?_
        simp [go_sem, q]
      · have hpos : 0 ≤ szL left (xs.length + sumTo (fun a : GHart => a.tot) xs (i + 1)) := by simpa using hb16
        clear hb16
        refine W_skip ?_
        first | refine h13 _ ?_ | refine ⟨by omega, h13 _ ?_⟩ | refine ⟨by omega, by omega, h13 _ ?_⟩ | (repeat (refine ⟨by first | omega | grind, ?_⟩)); refine h13 _ ?_
        clear h13 K13
        refine W_reg ?_
        simp [go_sem, ty3, hw, hlt, htt, hstep]
        refine ⟨i + 1, ?_, ?_, ?_⟩
        · exact Sub.of_neat [0, 1, 5] [0] [] 2 (by decide) (by simp [go_sem, wrap_succ (show i < 9223372036854775807 by omega), hstep])
        · exact ⟨hlt, hpos⟩
        · omega
    · obtain rfl : i = xs.length := by simp at hb12; omega
      have q : szL left (xs.length + (xs.map fun a => a.tot).sum) = szL left (xs.length + sumTo (fun a : GHart => a.tot) xs xs.length) := by rw [sumTo_full]
      clear hb12
      refine W_exit ?_
      simp [go_sem]
      first | refine h7 _ ?_ | refine ⟨by omega, h7 _ ?_⟩ | refine ⟨by omega, by omega, h7 _ ?_⟩ | (repeat (refine ⟨by first | omega | grind, ?_⟩)); refine h7 _ ?_
      clear h10 K10 h7 K7
      refine W_seqK fun K18 h18 => ?_
      refine W_reg ?_
      simp [go_sem, ty3, hw]
      first | refine h18 _ ?_ | refine ⟨by omega, h18 _ ?_⟩ | refine ⟨by omega, by omega, h18 _ ?_⟩ | (repeat (refine ⟨by first | omega | grind, ?_⟩)); refine h18 _ ?_
      clear h18 K18
      refine W_ret ?_
      simp [go_sem, q]

set_option maxRecDepth 100000 in
set_option maxHeartbeats 4000000 in
theorem pc_laws_toHartS (xs : List GHart) (hx : xs.length ≤ 1048576) (hq : ∀ a ∈ xs, a.small) : PC Try.prog 39 [(false, [.sl 3 (enc eHart xs)])] [(false, [.sl 3 (enc eHart xs)])] := by
  refine PC_of (n := 23) Try.func39 rfl rfl rfl rfl (by simp) ?_
  refine W_seqK fun K1 h1 => ?_
  refine W_reg ?_
  simp [go_sem, ty51, ty68]
  first | refine h1 _ ?_ | refine ⟨by omega, h1 _ ?_⟩ | refine ⟨by omega, by omega, h1 _ ?_⟩ | (repeat (refine ⟨by first | omega | grind, ?_⟩)); refine h1 _ ?_
  clear h1 K1
  refine W_seqK fun K2 h2 => ?_
  refine W_reg ?_
  simp [go_sem, ty3, ty44, ty51, ty64, ty68]
  first | refine h2 _ ?_ | refine ⟨by omega, h2 _ ?_⟩ | refine ⟨by omega, by omega, h2 _ ?_⟩ | (repeat (refine ⟨by first | omega | grind, ?_⟩)); refine h2 _ ?_
  clear h2 K2
  refine W_seqK fun K3 h3 => ?_
  refine W_seqK fun K4 h4 => ?_
  refine W_reg ?_
  simp [go_sem, ty3]
  first | refine h4 _ ?_ | refine ⟨by omega, h4 _ ?_⟩ | refine ⟨by omega, by omega, h4 _ ?_⟩ | (repeat (refine ⟨by first | omega | grind, ?_⟩)); refine h4 _ ?_
  clear h4 K4
  refine W_block ?_
  refine W_loopI (α := Nat) (fun i => ({ env := [(0, true, .l (.ref 0 [] 3 0 (xs.length))), (3, true, .l (.ref 1 [] 3 0 (xs.length))), (4, true, .l (.t (.int .i64 (i))))], box := [], row := [(1, ⟨.own, 3, enc eHart (xs.take i ++ List.replicate (xs.length - i) ⟨[], 0, 0⟩)⟩), (0, ⟨.ro, 3, enc eHart xs⟩)], nxt := 2, sav := [] } : St)) (fun i => i ≤ xs.length) (fun i => xs.length - i) 0 ?_ ?_ ?_
  · exact Sub.of_neat [0, 3, 4] [1, 0] [] 2 (by decide) (by simp [go_sem, rep_eHart])
  · exact Nat.zero_le _
  rintro i hinv
  refine W_seqK fun K6 h6 => ?_
  refine W_seqK fun K7 h7 => ?_
  refine W_reg ?_
  simp [go_sem, ty3, ty4, ty44, ty64]
  first | refine h7 _ ?_ | refine ⟨by omega, h7 _ ?_⟩ | refine ⟨by omega, by omega, h7 _ ?_⟩ | (repeat (refine ⟨by first | omega | grind, ?_⟩)); refine h7 _ ?_
  clear h7 K7
  refine W_cond rfl (fun hb8 => ?_) fun hb8 => ?_
  · have hlt : i < xs.length := by simpa using hb8
    clear hb8
    refine W_skip ?_
    first | refine h6 _ ?_ | refine ⟨by omega, h6 _ ?_⟩ | refine ⟨by omega, by omega, h6 _ ?_⟩ | (repeat (refine ⟨by first | omega | grind, ?_⟩)); refine h6 _ ?_
    clear h6 K6
    refine W_seqK fun K9 h9 => ?_
    refine W_block ?_
    refine W_reg ?_
    simp [go_sem, ty3, ty44, ty51, ty64, ty68, hlt]
    refine callG_pc (fun hG => pc_laws_toHart xs[i] (by have h9 := hq _ (List.getElem_mem hlt); unfold GHart.small at h9; omega)) (by first | (simp; done) | (simp [inR_iff]; done) | (simp [inR_iff]; grind) | grind) (fun hG => by simp [go_sem, hlt]) rfl rfl (by first | exact Or.inl rfl | exact Or.inr rfl) ?_
    simp [go_sem, ty51, ty68, hlt]
    first | refine h9 _ ?_ | refine ⟨by omega, h9 _ ?_⟩ | refine ⟨by omega, by omega, h9 _ ?_⟩ | (repeat (refine ⟨by first | omega | grind, ?_⟩)); refine h9 _ ?_
    clear h9 K9
    refine W_reg ?_
    simp [go_sem, ty3]
    refine ⟨i + 1, ?_, ?_, ?_⟩
    · exact Sub.of_neat [0, 3, 4] [1, 0] [] 2 (by decide) (by simp [go_sem, wrap_succ (show i < 9223372036854775807 by omega), fill_step xs ⟨[], 0, 0⟩ i hlt])
    · exact hlt
    · omega
  · obtain rfl : i = xs.length := by simp at hb8; omega
    clear hb8
    refine W_exit ?_
    simp [go_sem]
    first | refine h3 _ ?_ | refine ⟨by omega, h3 _ ?_⟩ | refine ⟨by omega, by omega, h3 _ ?_⟩ | (repeat (refine ⟨by first | omega | grind, ?_⟩)); refine h3 _ ?_
    clear h6 K6 h3 K3
    refine W_seqK fun K10 h10 => ?_
    refine W_reg ?_
    simp [go_sem, ty51, ty68]
    first | refine h10 _ ?_ | refine ⟨by omega, h10 _ ?_⟩ | refine ⟨by omega, by omega, h10 _ ?_⟩ | (repeat (refine ⟨by first | omega | grind, ?_⟩)); refine h10 _ ?_
    clear h10 K10
    refine W_ret ?_
    simp [go_sem]

set_option maxRecDepth 100000 in
set_option maxHeartbeats 4000000 in
theorem pc_laws_eqHartS (xs : List GHart) (ys : List GHart) (hx : xs.length ≤ 17592186043904) (hq : ∀ a ∈ xs, a.small) : PC Try.prog 42 [(false, [.sl 3 (enc eHart xs)]), (false, [.sl 3 (enc eHart ys)])] [(false, [.bool (decide (xs = ys))])] := by
  refine PC_of (n := 27) Try.func42 rfl rfl rfl rfl (by simp) ?_
  refine W_seqK fun K1 h1 => ?_
  refine W_reg ?_
  simp [go_sem, ty4]
  first | refine h1 _ ?_ | refine ⟨by omega, h1 _ ?_⟩ | refine ⟨by omega, by omega, h1 _ ?_⟩ | (repeat (refine ⟨by first | omega | grind, ?_⟩)); refine h1 _ ?_
  clear h1 K1
  refine W_seqK fun K2 h2 => ?_
  refine W_seqK fun K3 h3 => ?_
  refine W_reg ?_
  simp [go_sem, ty3, ty4, ty51, ty68]
  first | refine h3 _ ?_ | refine ⟨by omega, h3 _ ?_⟩ | refine ⟨by omega, by omega, h3 _ ?_⟩ | (repeat (refine ⟨by first | omega | grind, ?_⟩)); refine h3 _ ?_
  clear h3 K3
  refine W_cond rfl (fun hb4 => ?_) fun hb4 => ?_
  · have hne : xs ≠ ys := ne_of_len (by simp at hb4; omega)
    refine W_seqK fun K5 h5 => ?_
    refine W_reg ?_
    simp [go_sem, ty4]
    first | refine h5 _ ?_ | refine ⟨by omega, h5 _ ?_⟩ | refine ⟨by omega, by omega, h5 _ ?_⟩ | (repeat (refine ⟨by first | omega | grind, ?_⟩)); refine h5 _ ?_
    clear h5 K5
    refine W_ret ?_
    simp [go_sem, hne]
  · have hl : xs.length = ys.length := by simp at hb4; omega
    clear hb4
    refine W_skip ?_
    first | refine h2 _ ?_ | refine ⟨by omega, h2 _ ?_⟩ | refine ⟨by omega, by omega, h2 _ ?_⟩ | (repeat (refine ⟨by first | omega | grind, ?_⟩)); refine h2 _ ?_
    clear h2 K2
    refine W_seqK fun K6 h6 => ?_
    refine W_seqK fun K7 h7 => ?_
    refine W_reg ?_
    simp [go_sem, ty3]
    first | refine h7 _ ?_ | refine ⟨by omega, h7 _ ?_⟩ | refine ⟨by omega, by omega, h7 _ ?_⟩ | (repeat (refine ⟨by first | omega | grind, ?_⟩)); refine h7 _ ?_
    clear h7 K7
    refine W_block ?_
    refine W_loopI (α := Nat) (fun i => ({ env := [(0, true, .l (.ref 0 [] 3 0 (xs.length))), (1, true, .l (.ref 1 [] 3 0 (ys.length))), (5, true, .l (.t (.int .i64 (i))))], box := [], row := [(0, ⟨.ro, 3, enc eHart xs⟩), (1, ⟨.ro, 3, enc eHart ys⟩)], nxt := 2, sav := [] } : St)) (fun i => i ≤ xs.length ∧ xs.take i = ys.take i) (fun i => xs.length - i) 0 ?_ ?_ ?_
    · exact Sub.of_neat [0, 1, 5] [0, 1] [] 2 (by decide) (by simp [go_sem])
    · simp
    rintro i hinv
    obtain ⟨hi, htk⟩ := hinv
    refine W_seqK fun K9 h9 => ?_
    refine W_seqK fun K10 h10 => ?_
    refine W_reg ?_
    simp [go_sem, ty3, ty4, ty51, ty68]
    first | refine h10 _ ?_ | refine ⟨by omega, h10 _ ?_⟩ | refine ⟨by omega, by omega, h10 _ ?_⟩ | (repeat (refine ⟨by first | omega | grind, ?_⟩)); refine h10 _ ?_
    clear h10 K10
    refine W_cond rfl (fun hb11 => ?_) fun hb11 => ?_
    · have hlt : i < xs.length := by simpa using hb11
      have hlt2 : i < ys.length := hl ▸ hlt
      clear hb11
      refine W_skip ?_
      first | refine h9 _ ?_ | refine ⟨by omega, h9 _ ?_⟩ | refine ⟨by omega, by omega, h9 _ ?_⟩ | (repeat (refine ⟨by first | omega | grind, ?_⟩)); refine h9 _ ?_
      clear h9 K9
      refine W_seqK fun K12 h12 => ?_
      refine W_block ?_
      refine W_seqK fun K13 h13 => ?_
      refine W_drawT true mixed (by decide +kernel) ?_
      simp [go_sem, ty3, ty4, ty51, ty68, hlt, hlt2]
      refine callG_pc (fun hG => pc_laws_eqHart xs[i] ys[i] (by have h9 := hq _ (List.getElem_mem hlt); unfold GHart.small at h9; omega)) (by first | (simp; done) | (simp [inR_iff]; done) | (simp [inR_iff]; grind) | grind) (fun hG => by simp [go_sem, hlt, hlt2]) rfl rfl (by first | exact Or.inl rfl | exact Or.inr rfl) ?_
      simp [go_sem, ty4, hlt, hlt2]
      first | refine h13 _ ?_ | refine ⟨by omega, h13 _ ?_⟩ | refine ⟨by omega, by omega, h13 _ ?_⟩ | (repeat (refine ⟨by first | omega | grind, ?_⟩)); refine h13 _ ?_
      clear h13 K13
      refine W_cond rfl (fun hb14 => ?_) fun hb14 => ?_
      · have hne : xs ≠ ys := ne_of_get hlt hlt2 (by simpa [hlt, hlt2] using hb14)
        refine W_seqK fun K15 h15 => ?_
        refine W_reg ?_
        simp [go_sem, ty4]
        first | refine h15 _ ?_ | refine ⟨by omega, h15 _ ?_⟩ | refine ⟨by omega, by omega, h15 _ ?_⟩ | (repeat (refine ⟨by first | omega | grind, ?_⟩)); refine h15 _ ?_
        clear h15 K15
        refine W_ret ?_
        simp [go_sem, hne]
      · have he : xs[i] = ys[i] := by simpa [hlt, hlt2] using hb14
        clear hb14
        refine W_skip ?_
        first | refine h12 _ ?_ | refine ⟨by omega, h12 _ ?_⟩ | refine ⟨by omega, by omega, h12 _ ?_⟩ | (repeat (refine ⟨by first | omega | grind, ?_⟩)); refine h12 _ ?_
        clear h12 K12
        refine W_reg ?_
        simp [go_sem, ty3]
        refine ⟨i + 1, ?_, ?_, ?_⟩
        · exact Sub.of_neat [0, 1, 5] [0, 1] [] 2 (by decide) (by simp [go_sem, wrap_succ (show i < 9223372036854775807 by omega)])
        · exact ⟨hlt, take_succ_eq htk hlt hlt2 he⟩
        · omega
    · obtain rfl : i = xs.length := by simp at hb11; omega
      have hxy : xs = ys := eq_of_take hl htk
      clear hb11
      refine W_exit ?_
      simp [go_sem]
      first | refine h6 _ ?_ | refine ⟨by omega, h6 _ ?_⟩ | refine ⟨by omega, by omega, h6 _ ?_⟩ | (repeat (refine ⟨by first | omega | grind, ?_⟩)); refine h6 _ ?_
      clear h9 K9 h6 K6
      refine W_seqK fun K16 h16 => ?_
      refine W_reg ?_
      simp [go_sem, ty4]
      first | refine h16 _ ?_ | refine ⟨by omega, h16 _ ?_⟩ | refine ⟨by omega, by omega, h16 _ ?_⟩ | (repeat (refine ⟨by first | omega | grind, ?_⟩)); refine h16 _ ?_
      clear h16 K16
      refine W_ret ?_
      simp [go_sem, hxy]

set_option maxRecDepth 100000 in
set_option maxHeartbeats 4000000 in
theorem pc_laws_FnExactTrace (mem : List Int) (hs : List GHart) (order : List Int) (ol_hs : hs.length ≤ 9223372036854775807) (ok_hs : ∀ a ∈ hs, a.ok) : PC Try.prog 7 [(false, [.sl 1 (enc eI mem)]), (false, [.sl 3 (enc eHart hs)]), (false, [.sl 1 (enc eI order)])] [(false, [.bool true])] := by
  refine PC_of (n := 111) Try.func7 rfl rfl rfl rfl (by simp) ?_
  refine W_seqK fun K1 h1 => ?_
  refine W_reg ?_
  simp [go_sem, ty4, markE_add]
  first | refine h1 _ ?_ | refine ⟨by omega, h1 _ ?_⟩ | refine ⟨by omega, by omega, h1 _ ?_⟩ | (repeat (refine ⟨by first | omega | grind, ?_⟩)); refine h1 _ ?_
  clear h1 K1
  refine W_seqK fun K2 h2 => ?_
  refine W_seqK fun K3 h3 => ?_
  refine W_reg ?_
  simp [go_sem, ty3, ty4, ty42, markE_add]
  first | refine h3 _ ?_ | refine ⟨by omega, h3 _ ?_⟩ | refine ⟨by omega, by omega, h3 _ ?_⟩ | (repeat (refine ⟨by first | omega | grind, ?_⟩)); refine h3 _ ?_
  clear h3 K3
  refine W_cond rfl (fun hb4 => ?_) fun hb4 => ?_
  · skip
    refine W_seqK fun K5 h5 => ?_
    refine W_reg ?_
    simp [go_sem, ty4, markE_add]
    first | refine h5 _ ?_ | refine ⟨by omega, h5 _ ?_⟩ | refine ⟨by omega, by omega, h5 _ ?_⟩ | (repeat (refine ⟨by first | omega | grind, ?_⟩)); refine h5 _ ?_
    clear h5 K5
    refine W_ret ?_
    simp [go_sem]
  · have hz_mem : mem.length ≤ 1048576 := by simp at hb4; omega
    clear hb4
    refine W_skip ?_
    first | refine h2 _ ?_ | refine ⟨by omega, h2 _ ?_⟩ | refine ⟨by omega, by omega, h2 _ ?_⟩ | (repeat (refine ⟨by first | omega | grind, ?_⟩)); refine h2 _ ?_
    clear h2 K2
    refine W_seqK fun K6 h6 => ?_
    refine W_seqK fun K7 h7 => ?_
    refine W_reg ?_
    simp [go_sem, ty3, ty4, ty42, markE_add]
    first | refine h7 _ ?_ | refine ⟨by omega, h7 _ ?_⟩ | refine ⟨by omega, by omega, h7 _ ?_⟩ | (repeat (refine ⟨by first | omega | grind, ?_⟩)); refine h7 _ ?_
    clear h7 K7
    refine W_cond rfl (fun hb8 => ?_) fun hb8 => ?_
    · skip
      refine W_seqK fun K9 h9 => ?_
      refine W_reg ?_
      simp [go_sem, ty4, markE_add]
      first | refine h9 _ ?_ | refine ⟨by omega, h9 _ ?_⟩ | refine ⟨by omega, by omega, h9 _ ?_⟩ | (repeat (refine ⟨by first | omega | grind, ?_⟩)); refine h9 _ ?_
      clear h9 K9
      refine W_ret ?_
      simp [go_sem]
    · have hz_order : order.length ≤ 1048576 := by simp at hb8; omega
      clear hb8
      refine W_skip ?_
      first | refine h6 _ ?_ | refine ⟨by omega, h6 _ ?_⟩ | refine ⟨by omega, by omega, h6 _ ?_⟩ | (repeat (refine ⟨by first | omega | grind, ?_⟩)); refine h6 _ ?_
      clear h6 K6
      refine W_seqK fun K10 h10 => ?_
      refine W_reg ?_
      simp [go_sem, ty3, markE_add]
      first | refine h10 _ ?_ | refine ⟨by omega, h10 _ ?_⟩ | refine ⟨by omega, by omega, h10 _ ?_⟩ | (repeat (refine ⟨by first | omega | grind, ?_⟩)); refine h10 _ ?_
      clear h10 K10
      refine W_seqK fun K11 h11 => ?_
      refine W_reg ?_
      simp [go_sem, ty3, ty44, ty64, markE_add]
      refine callG_pc (fun hG => pc_laws_szHartS hs 1048576 (by first | assumption | omega) (by first | assumption | omega) (by first | assumption | omega) (by first | assumption | omega)) (by first | (simp; done) | (simp [inR_iff]; done) | (simp [inR_iff]; grind) | grind) (fun hG => by simp [go_sem, markE_add]) rfl rfl (by first | exact Or.inl rfl | exact Or.inr rfl) ?_
      simp [go_sem, ty3, markE_add]
      first | refine h11 _ ?_ | refine ⟨by omega, h11 _ ?_⟩ | refine ⟨by omega, by omega, h11 _ ?_⟩ | (repeat (refine ⟨by first | omega | grind, ?_⟩)); refine h11 _ ?_
      clear h11 K11
      refine W_seqK fun K12 h12 => ?_
      refine W_seqK fun K13 h13 => ?_
      refine W_reg ?_
      simp [go_sem, ty3, ty4, markE_add]
      first | refine h13 _ ?_ | refine ⟨by omega, h13 _ ?_⟩ | refine ⟨by omega, by omega, h13 _ ?_⟩ | (repeat (refine ⟨by first | omega | grind, ?_⟩)); refine h13 _ ?_
      clear h13 K13
      refine W_cond rfl (fun hb14 => ?_) fun hb14 => ?_
      · skip
        refine W_seqK fun K15 h15 => ?_
        refine W_reg ?_
        simp [go_sem, ty4, markE_add]
        first | refine h15 _ ?_ | refine ⟨by omega, h15 _ ?_⟩ | refine ⟨by omega, by omega, h15 _ ?_⟩ | (repeat (refine ⟨by first | omega | grind, ?_⟩)); refine h15 _ ?_
        clear h15 K15
        refine W_ret ?_
        simp [go_sem]
      · have hz_hs := szL_pos hb14
        have hq_hs : ∀ a ∈ hs, a.small := fun a ha => a.small_of (by have := mem_le_sum (f := fun a : GHart => a.tot) ha; omega)
        have hn_hs := cnt_le (f := nHart) (g := fun a => a.tot) nHart_le hs
        clear hb14
        have hl := trace_len mem hs order
        have hq1 : ∀ a ∈ hs, a.regs.length ≤ 1048576 := fun a ha => by have := hq_hs a ha; unfold GHart.small at this; exact this
        refine W_skip ?_
        first | refine h12 _ ?_ | refine ⟨by omega, h12 _ ?_⟩ | refine ⟨by omega, by omega, h12 _ ?_⟩ | (repeat (refine ⟨by first | omega | grind, ?_⟩)); refine h12 _ ?_
        clear h12 K12
        refine W_seqK fun K16 h16 => ?_
        refine W_reg ?_
        simp [go_sem, ty3, ty42, markE_add]
        refine callG_pc (fun hG => pc_laws_toIntS mem (by first | assumption | omega)) (by first | (simp; done) | (simp [inR_iff]; done) | (simp [inR_iff]; grind) | grind) (fun hG => by simp [go_sem, markE_add]) rfl rfl (by first | exact Or.inl rfl | exact Or.inr rfl) ?_
        simp [go_sem, ty44, ty51, ty64, ty68, markE_add]
        refine callG_pc (fun hG => pc_laws_toHartS hs (by first | assumption | omega) (by first | assumption | omega)) (by first | (simp; done) | (simp [inR_iff]; done) | (simp [inR_iff]; grind) | grind) (fun hG => by simp [go_sem, markE_add]) rfl rfl (by first | exact Or.inl rfl | exact Or.inr rfl) ?_
        simp [go_sem, ty3, ty42, markE_add]
        refine callG_pc (fun hG => pc_laws_toIntS order (by first | assumption | omega)) (by first | (simp; done) | (simp [inR_iff]; done) | (simp [inR_iff]; grind) | grind) (fun hG => by simp [go_sem, markE_add]) rfl rfl (by first | exact Or.inl rfl | exact Or.inr rfl) ?_
        simp [go_sem, ty3, ty42, ty47, ty51, ty66, ty68, markE_add]
        refine callG_pc (fun hG => pc_spec_Trace mem hs order (by first | assumption | omega) (by first | assumption | omega) (by first | assumption | omega) (by first | assumption | omega)) (by first | (simp; done) | (simp [inR_iff]; done) | (simp [inR_iff]; grind) | grind) (fun hG => by simp [go_sem, markE_add]) rfl rfl (by first | exact Or.inl rfl | exact Or.inr rfl) ?_
        simp [go_sem, ty47, ty66, markE_add]
        first | refine h16 _ ?_ | refine ⟨by omega, h16 _ ?_⟩ | refine ⟨by omega, by omega, h16 _ ?_⟩ | (repeat (refine ⟨by first | omega | grind, ?_⟩)); refine h16 _ ?_
        clear h16 K16
        refine W_seqK fun K17 h17 => ?_
        refine W_reg ?_
        simp [go_sem, ty3, ty42, markE_add]
        refine callG_pc (fun hG => pc_laws_toIntS mem (by first | assumption | omega)) (by first | (simp; done) | (simp [inR_iff]; done) | (simp [inR_iff]; grind) | grind) (fun hG => by simp [go_sem, markE_add]) rfl rfl (by first | exact Or.inl rfl | exact Or.inr rfl) ?_
        simp [go_sem, ty3, ty42, markE_add]
        first | refine h17 _ ?_ | refine ⟨by omega, h17 _ ?_⟩ | refine ⟨by omega, by omega, h17 _ ?_⟩ | (repeat (refine ⟨by first | omega | grind, ?_⟩)); refine h17 _ ?_
        clear h17 K17
        refine W_seqK fun K18 h18 => ?_
        refine W_reg ?_
        simp [go_sem, ty44, ty51, ty64, ty68, markE_add]
        refine callG_pc (fun hG => pc_laws_toHartS hs (by first | assumption | omega) (by first | assumption | omega)) (by first | (simp; done) | (simp [inR_iff]; done) | (simp [inR_iff]; grind) | grind) (fun hG => by simp [go_sem, markE_add]) rfl rfl (by first | exact Or.inl rfl | exact Or.inr rfl) ?_
        simp [go_sem, ty51, ty68, markE_add]
        first | refine h18 _ ?_ | refine ⟨by omega, h18 _ ?_⟩ | refine ⟨by omega, by omega, h18 _ ?_⟩ | (repeat (refine ⟨by first | omega | grind, ?_⟩)); refine h18 _ ?_
        clear h18 K18
        refine W_seqK fun K19 h19 => ?_
        refine W_reg ?_
        simp [go_sem, ty3, ty42, markE_add]
        refine callG_pc (fun hG => pc_laws_toIntS order (by first | assumption | omega)) (by first | (simp; done) | (simp [inR_iff]; done) | (simp [inR_iff]; grind) | grind) (fun hG => by simp [go_sem, markE_add]) rfl rfl (by first | exact Or.inl rfl | exact Or.inr rfl) ?_
        simp [go_sem, ty3, ty42, markE_add]
        first | refine h19 _ ?_ | refine ⟨by omega, h19 _ ?_⟩ | refine ⟨by omega, by omega, h19 _ ?_⟩ | (repeat (refine ⟨by first | omega | grind, ?_⟩)); refine h19 _ ?_
        clear h19 K19
        refine W_seqK fun K20 h20 => ?_
        refine W_reg ?_
        simp [go_sem, ty3, ty42, ty47, ty51, ty66, ty68, markE_add]
        refine callG_pc (fun hG => pc_impl_Trace mem hs order (by first | assumption | omega) (by first | assumption | omega) (by first | assumption | omega) (by first | assumption | omega)) (by first | (simp; done) | (simp [inR_iff]; done) | (simp [inR_iff]; grind) | grind) (fun hG => by simp [go_sem, markE_add]) rfl rfl (by first | exact Or.inl rfl | exact Or.inr rfl) ?_
        simp [go_sem, ty47, ty66, markE_add]
        first | refine h20 _ ?_ | refine ⟨by omega, h20 _ ?_⟩ | refine ⟨by omega, by omega, h20 _ ?_⟩ | (repeat (refine ⟨by first | omega | grind, ?_⟩)); refine h20 _ ?_
        clear h20 K20
        refine W_seqK fun K21 h21 => ?_
        refine W_seqK fun K22 h22 => ?_
        refine W_reg ?_
        simp [go_sem, ty4, ty47, ty66, markE_add]
        refine callG_pc (fun hG => pc_laws_eqEventS (trace mem hs order) (trace mem hs order) (by first | assumption | omega)) (by first | (simp; done) | (simp [inR_iff]; done) | (simp [inR_iff]; grind) | grind) (fun hG => by simp [go_sem, markE_add]) rfl rfl (by first | exact Or.inl rfl | exact Or.inr rfl) ?_
        simp [go_sem, ty4, markE_add]
        first | refine h22 _ ?_ | refine ⟨by omega, h22 _ ?_⟩ | refine ⟨by omega, by omega, h22 _ ?_⟩ | (repeat (refine ⟨by first | omega | grind, ?_⟩)); refine h22 _ ?_
        clear h22 K22
        refine W_cond rfl (fun hb23 => by first | (simp at hb23; done) | (simp at hb23; omega) | (simp at hb23; exact absurd hb23 (Int.not_lt.2 (markE_nn _ (by omega))))) fun hb23 => ?_
        clear hb23
        refine W_skip ?_
        first | refine h21 _ ?_ | refine ⟨by omega, h21 _ ?_⟩ | refine ⟨by omega, by omega, h21 _ ?_⟩ | (repeat (refine ⟨by first | omega | grind, ?_⟩)); refine h21 _ ?_
        clear h21 K21
        refine W_seqK fun K24 h24 => ?_
        refine W_seqK fun K25 h25 => ?_
        refine W_reg ?_
        simp [go_sem, ty3, ty42, markE_add]
        refine callG_pc (fun hG => pc_laws_toIntS mem (by first | assumption | omega)) (by first | (simp; done) | (simp [inR_iff]; done) | (simp [inR_iff]; grind) | grind) (fun hG => by simp [go_sem, markE_add]) rfl rfl (by first | exact Or.inl rfl | exact Or.inr rfl) ?_
        simp [go_sem, ty3, ty4, ty42, markE_add]
        refine callG_pc (fun hG => pc_laws_eqIntS mem mem (by first | assumption | omega)) (by first | (simp; done) | (simp [inR_iff]; done) | (simp [inR_iff]; grind) | grind) (fun hG => by simp [go_sem, markE_add]) rfl rfl (by first | exact Or.inl rfl | exact Or.inr rfl) ?_
        simp [go_sem, ty4, markE_add]
        first | refine h25 _ ?_ | refine ⟨by omega, h25 _ ?_⟩ | refine ⟨by omega, by omega, h25 _ ?_⟩ | (repeat (refine ⟨by first | omega | grind, ?_⟩)); refine h25 _ ?_
        clear h25 K25
        refine W_cond rfl (fun hb26 => by first | (simp at hb26; done) | (simp at hb26; omega) | (simp at hb26; exact absurd hb26 (Int.not_lt.2 (markE_nn _ (by omega))))) fun hb26 => ?_
        clear hb26
        refine W_skip ?_
        first | refine h24 _ ?_ | refine ⟨by omega, h24 _ ?_⟩ | refine ⟨by omega, by omega, h24 _ ?_⟩ | (repeat (refine ⟨by first | omega | grind, ?_⟩)); refine h24 _ ?_
        clear h24 K24
        refine W_seqK fun K27 h27 => ?_
        refine W_seqK fun K28 h28 => ?_
        refine W_reg ?_
        simp [go_sem, ty44, ty51, ty64, ty68, markE_add]
        refine callG_pc (fun hG => pc_laws_toHartS hs (by first | assumption | omega) (by first | assumption | omega)) (by first | (simp; done) | (simp [inR_iff]; done) | (simp [inR_iff]; grind) | grind) (fun hG => by simp [go_sem, markE_add]) rfl rfl (by first | exact Or.inl rfl | exact Or.inr rfl) ?_
        simp [go_sem, ty4, ty51, ty68, markE_add]
        refine callG_pc (fun hG => pc_laws_eqHartS hs hs (by first | assumption | omega) (by first | assumption | omega)) (by first | (simp; done) | (simp [inR_iff]; done) | (simp [inR_iff]; grind) | grind) (fun hG => by simp [go_sem, markE_add]) rfl rfl (by first | exact Or.inl rfl | exact Or.inr rfl) ?_
        simp [go_sem, ty4, markE_add]
        first | refine h28 _ ?_ | refine ⟨by omega, h28 _ ?_⟩ | refine ⟨by omega, by omega, h28 _ ?_⟩ | (repeat (refine ⟨by first | omega | grind, ?_⟩)); refine h28 _ ?_
        clear h28 K28
        refine W_cond rfl (fun hb29 => by first | (simp at hb29; done) | (simp at hb29; omega) | (simp at hb29; exact absurd hb29 (Int.not_lt.2 (markE_nn _ (by omega))))) fun hb29 => ?_
        clear hb29
        refine W_skip ?_
        first | refine h27 _ ?_ | refine ⟨by omega, h27 _ ?_⟩ | refine ⟨by omega, by omega, h27 _ ?_⟩ | (repeat (refine ⟨by first | omega | grind, ?_⟩)); refine h27 _ ?_
        clear h27 K27
        refine W_seqK fun K30 h30 => ?_
        refine W_seqK fun K31 h31 => ?_
        refine W_reg ?_
        simp [go_sem, ty3, ty42, markE_add]
        refine callG_pc (fun hG => pc_laws_toIntS order (by first | assumption | omega)) (by first | (simp; done) | (simp [inR_iff]; done) | (simp [inR_iff]; grind) | grind) (fun hG => by simp [go_sem, markE_add]) rfl rfl (by first | exact Or.inl rfl | exact Or.inr rfl) ?_
        simp [go_sem, ty3, ty4, ty42, markE_add]
        refine callG_pc (fun hG => pc_laws_eqIntS order order (by first | assumption | omega)) (by first | (simp; done) | (simp [inR_iff]; done) | (simp [inR_iff]; grind) | grind) (fun hG => by simp [go_sem, markE_add]) rfl rfl (by first | exact Or.inl rfl | exact Or.inr rfl) ?_
        simp [go_sem, ty4, markE_add]
        first | refine h31 _ ?_ | refine ⟨by omega, h31 _ ?_⟩ | refine ⟨by omega, by omega, h31 _ ?_⟩ | (repeat (refine ⟨by first | omega | grind, ?_⟩)); refine h31 _ ?_
        clear h31 K31
        refine W_cond rfl (fun hb32 => by first | (simp at hb32; done) | (simp at hb32; omega) | (simp at hb32; exact absurd hb32 (Int.not_lt.2 (markE_nn _ (by omega))))) fun hb32 => ?_
        clear hb32
        refine W_skip ?_
        first | refine h30 _ ?_ | refine ⟨by omega, h30 _ ?_⟩ | refine ⟨by omega, by omega, h30 _ ?_⟩ | (repeat (refine ⟨by first | omega | grind, ?_⟩)); refine h30 _ ?_
        clear h30 K30
        refine W_seqK fun K33 h33 => ?_
        refine W_reg ?_
        simp [go_sem, ty3, markE_add]
        first | refine h33 _ ?_ | refine ⟨by omega, h33 _ ?_⟩ | refine ⟨by omega, by omega, h33 _ ?_⟩ | (repeat (refine ⟨by first | omega | grind, ?_⟩)); refine h33 _ ?_
        clear h33 K33
        refine W_seqK fun K34 h34 => ?_
        refine W_reg ?_
        simp [go_sem, ty3, ty42, markE_add]
        refine callG_true (by simp) (CallW_mut (mc_laws_markIntS mem 1 (by first | assumption | omega)) rfl rfl rfl (by simp [go_sem, markE_add]) rfl ?_)
        simp [go_sem, ty3, markE_add]
        first | refine h34 _ ?_ | refine ⟨by omega, h34 _ ?_⟩ | refine ⟨by omega, by omega, h34 _ ?_⟩ | (repeat (refine ⟨by first | omega | grind, ?_⟩)); refine h34 _ ?_
        clear h34 K34
        refine W_seqK fun K35 h35 => ?_
        refine W_reg ?_
        simp [go_sem, ty3, ty51, ty68, markE_add]
        refine callG_true (by simp) (CallW_mut (mc_laws_markHartS hs (markE 1 (mem.length)) (by first | assumption | omega) (by first | assumption | omega)) rfl rfl rfl (by simp [go_sem, markE_add]) rfl ?_)
        simp [go_sem, ty3, markE_add]
        first | refine h35 _ ?_ | refine ⟨by omega, h35 _ ?_⟩ | refine ⟨by omega, by omega, h35 _ ?_⟩ | (repeat (refine ⟨by first | omega | grind, ?_⟩)); refine h35 _ ?_
        clear h35 K35
        refine W_seqK fun K36 h36 => ?_
        refine W_reg ?_
        simp [go_sem, ty3, ty42, markE_add]
        refine callG_true (by simp) (CallW_mut (mc_laws_markIntS order (markE 1 (mem.length + (hs.map nHart).sum)) (by first | assumption | omega)) rfl rfl rfl (by simp [go_sem, markE_add]) rfl ?_)
        simp [go_sem, ty3, markE_add]
        first | refine h36 _ ?_ | refine ⟨by omega, h36 _ ?_⟩ | refine ⟨by omega, by omega, h36 _ ?_⟩ | (repeat (refine ⟨by first | omega | grind, ?_⟩)); refine h36 _ ?_
        clear h36 K36
        refine W_seqK fun K37 h37 => ?_
        refine W_seqK fun K38 h38 => ?_
        refine W_reg ?_
        simp [go_sem, ty3, ty4, ty47, ty66, markE_add]
        refine callG_pc (fun hG => pc_laws_eqEventS (trace mem hs order) (trace mem hs order) (by first | assumption | omega)) (by first | (simp; done) | (simp [inR_iff]; done) | (simp [inR_iff]; grind) | grind) (fun hG => by simp [go_sem, markE_add]) rfl rfl (by first | exact Or.inl rfl | exact Or.inr rfl) ?_
        simp [go_sem, ty4, markE_add]
        first | refine h38 _ ?_ | refine ⟨by omega, h38 _ ?_⟩ | refine ⟨by omega, by omega, h38 _ ?_⟩ | (repeat (refine ⟨by first | omega | grind, ?_⟩)); refine h38 _ ?_
        clear h38 K38
        refine W_cond rfl (fun hb39 => by first | (simp at hb39; done) | (simp at hb39; omega) | (simp at hb39; exact absurd hb39 (Int.not_lt.2 (markE_nn _ (by omega))))) fun hb39 => ?_
        clear hb39
        refine W_skip ?_
        first | refine h37 _ ?_ | refine ⟨by omega, h37 _ ?_⟩ | refine ⟨by omega, by omega, h37 _ ?_⟩ | (repeat (refine ⟨by first | omega | grind, ?_⟩)); refine h37 _ ?_
        clear h37 K37
        refine W_seqK fun K40 h40 => ?_
        refine W_reg ?_
        simp [go_sem, ty3, markE_add]
        first | refine h40 _ ?_ | refine ⟨by omega, h40 _ ?_⟩ | refine ⟨by omega, by omega, h40 _ ?_⟩ | (repeat (refine ⟨by first | omega | grind, ?_⟩)); refine h40 _ ?_
        clear h40 K40
        refine W_seqK fun K41 h41 => ?_
        refine W_reg ?_
        simp [go_sem, ty3, ty47, ty66, markE_add]
        refine callG_true (by simp) (CallW_mut (mc_laws_markEventS (trace mem hs order) 1 (by first | assumption | omega)) rfl rfl rfl (by simp [go_sem, markE_add]) rfl ?_)
        simp [go_sem, ty3, markE_add]
        first | refine h41 _ ?_ | refine ⟨by omega, h41 _ ?_⟩ | refine ⟨by omega, by omega, h41 _ ?_⟩ | (repeat (refine ⟨by first | omega | grind, ?_⟩)); refine h41 _ ?_
        clear h41 K41
        refine W_seqK fun K42 h42 => ?_
        refine W_reg ?_
        simp [go_sem, ty3, markE_add]
        first | refine h42 _ ?_ | refine ⟨by omega, h42 _ ?_⟩ | refine ⟨by omega, by omega, h42 _ ?_⟩ | (repeat (refine ⟨by first | omega | grind, ?_⟩)); refine h42 _ ?_
        clear h42 K42
        refine W_seqK fun K43 h43 => ?_
        refine W_reg ?_
        simp [go_sem, ty3, ty47, ty66, markE_add]
        refine callG_pc (fun hG => pc_laws_heldEventS ((trace mem hs order).length) 1 (by omega)) (by first | (simp; done) | (simp [inR_iff]; done) | (simp [inR_iff]; grind) | grind) (fun hG => by simp [go_sem, markE_add]) rfl rfl (by first | exact Or.inl rfl | exact Or.inr rfl) ?_
        simp [go_sem, ty3, markE_add]
        first | refine h43 _ ?_ | refine ⟨by omega, h43 _ ?_⟩ | refine ⟨by omega, by omega, h43 _ ?_⟩ | (repeat (refine ⟨by first | omega | grind, ?_⟩)); refine h43 _ ?_
        clear h43 K43
        refine W_seqK fun K44 h44 => ?_
        refine W_seqK fun K45 h45 => ?_
        refine W_reg ?_
        simp [go_sem, ty3, ty4, markE_add]
        first | refine h45 _ ?_ | refine ⟨by omega, h45 _ ?_⟩ | refine ⟨by omega, by omega, h45 _ ?_⟩ | (repeat (refine ⟨by first | omega | grind, ?_⟩)); refine h45 _ ?_
        clear h45 K45
        refine W_cond rfl (fun hb46 => by first | (simp at hb46; done) | (simp at hb46; omega) | (simp at hb46; exact absurd hb46 (Int.not_lt.2 (markE_nn _ (by omega))))) fun hb46 => ?_
        clear hb46
        refine W_skip ?_
        first | refine h44 _ ?_ | refine ⟨by omega, h44 _ ?_⟩ | refine ⟨by omega, by omega, h44 _ ?_⟩ | (repeat (refine ⟨by first | omega | grind, ?_⟩)); refine h44 _ ?_
        clear h44 K44
        refine W_seqK fun K47 h47 => ?_
        refine W_seqK fun K48 h48 => ?_
        refine W_reg ?_
        simp [go_sem, ty3, ty4, markE_add]
        first | refine h48 _ ?_ | refine ⟨by omega, h48 _ ?_⟩ | refine ⟨by omega, by omega, h48 _ ?_⟩ | (repeat (refine ⟨by first | omega | grind, ?_⟩)); refine h48 _ ?_
        clear h48 K48
        refine W_cond rfl (fun hb49 => by first | (simp at hb49; done) | (simp at hb49; omega) | (simp at hb49; exact absurd hb49 (Int.not_lt.2 (markE_nn _ (by omega))))) fun hb49 => ?_
        clear hb49
        refine W_skip ?_
        first | refine h47 _ ?_ | refine ⟨by omega, h47 _ ?_⟩ | refine ⟨by omega, by omega, h47 _ ?_⟩ | (repeat (refine ⟨by first | omega | grind, ?_⟩)); refine h47 _ ?_
        clear h47 K47
        refine W_seqK fun K50 h50 => ?_
        refine W_reg ?_
        simp [go_sem, ty3, ty42, markE_add]
        refine callG_pc (fun hG => pc_laws_toIntS mem (by first | assumption | omega)) (by first | (simp; done) | (simp [inR_iff]; done) | (simp [inR_iff]; grind) | grind) (fun hG => by simp [go_sem, markE_add]) rfl rfl (by first | exact Or.inl rfl | exact Or.inr rfl) ?_
        simp [go_sem, ty44, ty51, ty64, ty68, markE_add]
        refine callG_pc (fun hG => pc_laws_toHartS hs (by first | assumption | omega) (by first | assumption | omega)) (by first | (simp; done) | (simp [inR_iff]; done) | (simp [inR_iff]; grind) | grind) (fun hG => by simp [go_sem, markE_add]) rfl rfl (by first | exact Or.inl rfl | exact Or.inr rfl) ?_
        simp [go_sem, ty3, ty42, markE_add]
        refine callG_pc (fun hG => pc_laws_toIntS order (by first | assumption | omega)) (by first | (simp; done) | (simp [inR_iff]; done) | (simp [inR_iff]; grind) | grind) (fun hG => by simp [go_sem, markE_add]) rfl rfl (by first | exact Or.inl rfl | exact Or.inr rfl) ?_
        simp [go_sem, ty3, ty42, ty47, ty51, ty66, ty68, markE_add]
        refine callG_pc (fun hG => pc_impl_Trace mem hs order (by first | assumption | omega) (by first | assumption | omega) (by first | assumption | omega) (by first | assumption | omega)) (by first | (simp; done) | (simp [inR_iff]; done) | (simp [inR_iff]; grind) | grind) (fun hG => by simp [go_sem, markE_add]) rfl rfl (by first | exact Or.inl rfl | exact Or.inr rfl) ?_
        simp [go_sem, ty47, ty66, markE_add]
        first | refine h50 _ ?_ | refine ⟨by omega, h50 _ ?_⟩ | refine ⟨by omega, by omega, h50 _ ?_⟩ | (repeat (refine ⟨by first | omega | grind, ?_⟩)); refine h50 _ ?_
        clear h50 K50
        refine W_seqK fun K51 h51 => ?_
        refine W_seqK fun K52 h52 => ?_
        refine W_reg ?_
        simp [go_sem, ty4, ty47, ty66, markE_add]
        refine callG_pc (fun hG => pc_laws_eqEventS (trace mem hs order) (trace mem hs order) (by first | assumption | omega)) (by first | (simp; done) | (simp [inR_iff]; done) | (simp [inR_iff]; grind) | grind) (fun hG => by simp [go_sem, markE_add]) rfl rfl (by first | exact Or.inl rfl | exact Or.inr rfl) ?_
        simp [go_sem, ty4, markE_add]
        first | refine h52 _ ?_ | refine ⟨by omega, h52 _ ?_⟩ | refine ⟨by omega, by omega, h52 _ ?_⟩ | (repeat (refine ⟨by first | omega | grind, ?_⟩)); refine h52 _ ?_
        clear h52 K52
        refine W_cond rfl (fun hb53 => by first | (simp at hb53; done) | (simp at hb53; omega) | (simp at hb53; exact absurd hb53 (Int.not_lt.2 (markE_nn _ (by omega))))) fun hb53 => ?_
        clear hb53
        refine W_skip ?_
        first | refine h51 _ ?_ | refine ⟨by omega, h51 _ ?_⟩ | refine ⟨by omega, by omega, h51 _ ?_⟩ | (repeat (refine ⟨by first | omega | grind, ?_⟩)); refine h51 _ ?_
        clear h51 K51
        refine W_seqK fun K54 h54 => ?_
        refine W_reg ?_
        simp [go_sem, ty3, markE_add]
        first | refine h54 _ ?_ | refine ⟨by omega, h54 _ ?_⟩ | refine ⟨by omega, by omega, h54 _ ?_⟩ | (repeat (refine ⟨by first | omega | grind, ?_⟩)); refine h54 _ ?_
        clear h54 K54
        refine W_seqK fun K55 h55 => ?_
        refine W_reg ?_
        simp [go_sem, ty3, ty47, ty66, markE_add]
        refine callG_pc (fun hG => pc_laws_heldEventS ((trace mem hs order).length) 1 (by omega)) (by first | (simp; done) | (simp [inR_iff]; done) | (simp [inR_iff]; grind) | grind) (fun hG => by simp [go_sem, markE_add]) rfl rfl (by first | exact Or.inl rfl | exact Or.inr rfl) ?_
        simp [go_sem, ty3, markE_add]
        first | refine h55 _ ?_ | refine ⟨by omega, h55 _ ?_⟩ | refine ⟨by omega, by omega, h55 _ ?_⟩ | (repeat (refine ⟨by first | omega | grind, ?_⟩)); refine h55 _ ?_
        clear h55 K55
        refine W_seqK fun K56 h56 => ?_
        refine W_seqK fun K57 h57 => ?_
        refine W_reg ?_
        simp [go_sem, ty3, ty4, markE_add]
        first | refine h57 _ ?_ | refine ⟨by omega, h57 _ ?_⟩ | refine ⟨by omega, by omega, h57 _ ?_⟩ | (repeat (refine ⟨by first | omega | grind, ?_⟩)); refine h57 _ ?_
        clear h57 K57
        refine W_cond rfl (fun hb58 => by first | (simp at hb58; done) | (simp at hb58; omega) | (simp at hb58; exact absurd hb58 (Int.not_lt.2 (markE_nn _ (by omega))))) fun hb58 => ?_
        clear hb58
        refine W_skip ?_
        first | refine h56 _ ?_ | refine ⟨by omega, h56 _ ?_⟩ | refine ⟨by omega, by omega, h56 _ ?_⟩ | (repeat (refine ⟨by first | omega | grind, ?_⟩)); refine h56 _ ?_
        clear h56 K56
        refine W_seqK fun K59 h59 => ?_
        refine W_seqK fun K60 h60 => ?_
        refine W_reg ?_
        simp [go_sem, ty3, ty4, markE_add]
        first | refine h60 _ ?_ | refine ⟨by omega, h60 _ ?_⟩ | refine ⟨by omega, by omega, h60 _ ?_⟩ | (repeat (refine ⟨by first | omega | grind, ?_⟩)); refine h60 _ ?_
        clear h60 K60
        refine W_cond rfl (fun hb61 => by first | (simp at hb61; done) | (simp at hb61; omega) | (simp at hb61; exact absurd hb61 (Int.not_lt.2 (markE_nn _ (by omega))))) fun hb61 => ?_
        clear hb61
        refine W_skip ?_
        first | refine h59 _ ?_ | refine ⟨by omega, h59 _ ?_⟩ | refine ⟨by omega, by omega, h59 _ ?_⟩ | (repeat (refine ⟨by first | omega | grind, ?_⟩)); refine h59 _ ?_
        clear h59 K59
        refine W_seqK fun K62 h62 => ?_
        refine W_reg ?_
        simp [go_sem, ty4, markE_add]
        first | refine h62 _ ?_ | refine ⟨by omega, h62 _ ?_⟩ | refine ⟨by omega, by omega, h62 _ ?_⟩ | (repeat (refine ⟨by first | omega | grind, ?_⟩)); refine h62 _ ?_
        clear h62 K62
        refine W_ret ?_
        simp [go_sem]
end Go.Tw
