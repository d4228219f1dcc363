/- Walks of functions: laws.toIntS, laws.eqIntS, laws.szIntS, laws.toHart, laws.eqHart, laws.szHart, laws.markIntS, laws.FnExactHartText -/
import Derived.Test.YtgcjdkgddnnlpaaE7U
import Derived.Test.YtgcjdkgddnnlpaaE7V
import Derived.Test.YtgcjdkgddnnlpaaBaseF
set_option linter.unusedSimpArgs false
set_option linter.unusedVariables false
set_option linter.unnecessarySimpa false
namespace Go.Tw
open Go.Proofs

set_option maxRecDepth 100000 in
set_option maxHeartbeats 4000000 in
theorem pc_laws_toIntS (xs : List Int) (hx : xs.length ≤ 1048576) : PC Try.prog 11 [(false, [.sl 1 (enc eI xs)])] [(false, [.sl 1 (enc eI xs)])] := by
  refine PC_of (n := 22) Try.func11 rfl rfl rfl rfl (by simp) ?_
  refine W_seqK fun K1 h1 => ?_
  refine W_reg ?_
  simp [go_sem, ty3, ty22]
  repeat refine ⟨by first | omega | grind, ?_⟩
  refine h1 _ ?_
  clear h1 K1
  refine W_seqK fun K2 h2 => ?_
  refine W_reg ?_
  simp [go_sem, ty3, ty22]
  repeat refine ⟨by first | omega | grind, ?_⟩
  refine h2 _ ?_
  clear h2 K2
  refine W_seqK fun K3 h3 => ?_
  refine W_seqK fun K4 h4 => ?_
  refine W_reg ?_
  simp [go_sem, ty3]
  repeat refine ⟨by first | omega | grind, ?_⟩
  refine h4 _ ?_
  clear h4 K4
  refine W_block ?_
  refine W_loopI (α := Nat) (fun i => ({ env := [(0, true, .l (.ref 0 [] 1 0 (xs.length))), (3, true, .l (.ref 1 [] 1 0 (xs.length))), (4, true, .l (.t (.int .i64 (i))))], box := [], row := [(1, ⟨.own, 1, enc eI (xs.take i ++ List.replicate (xs.length - i) 0)⟩), (0, ⟨.ro, 1, enc eI xs⟩)], nxt := 2, sav := [] } : St)) (fun i => i ≤ xs.length) (fun i => xs.length - i) 0 ?_ ?_ ?_
  · exact Sub.of_neat [0, 3, 4] [1, 0] [] 2 (by decide) (by simp [go_sem, rep_eI])
  · exact Nat.zero_le _
  rintro i hinv
  refine W_seqK fun K6 h6 => ?_
  refine W_seqK fun K7 h7 => ?_
  refine W_reg ?_
  simp [go_sem, ty3, ty4, ty22]
  repeat refine ⟨by first | omega | grind, ?_⟩
  refine h7 _ ?_
  clear h7 K7
  refine W_cond rfl (fun hb8 => ?_) fun hb8 => ?_
  · have hlt : i < xs.length := by simpa using hb8
    clear hb8
    refine W_skip ?_
    repeat refine ⟨by first | omega | grind, ?_⟩
    refine h6 _ ?_
    clear h6 K6
    refine W_seqK fun K9 h9 => ?_
    refine W_block ?_
    refine W_reg ?_
    simp [go_sem, ty3, ty22, hlt]
    repeat refine ⟨by first | omega | grind, ?_⟩
    refine h9 _ ?_
    clear h9 K9
    refine W_reg ?_
    simp [go_sem, ty3]
    refine ⟨i + 1, ?_, ?_, ?_⟩
    · exact Sub.of_neat [0, 3, 4] [1, 0] [] 2 (by decide) (by simp [go_sem, wrap_succ (show i < 9223372036854775807 by omega), fill_step xs 0 i hlt])
    · exact hlt
    · omega
  · obtain rfl : i = xs.length := by simp at hb8; omega
    clear hb8
    refine W_exit ?_
    simp [go_sem]
    repeat refine ⟨by first | omega | grind, ?_⟩
    refine h3 _ ?_
    clear h6 K6 h3 K3
    refine W_seqK fun K10 h10 => ?_
    refine W_reg ?_
    simp [go_sem, ty3, ty22]
    repeat refine ⟨by first | omega | grind, ?_⟩
    refine h10 _ ?_
    clear h10 K10
    refine W_ret ?_
    simp [go_sem]

set_option maxRecDepth 100000 in
set_option maxHeartbeats 4000000 in
theorem pc_laws_eqIntS (xs : List Int) (ys : List Int) (hx : xs.length ≤ 17592186043904) : PC Try.prog 14 [(false, [.sl 1 (enc eI xs)]), (false, [.sl 1 (enc eI ys)])] [(false, [.bool (decide (xs = ys))])] := by
  refine PC_of (n := 26) Try.func14 rfl rfl rfl rfl (by simp) ?_
  refine W_seqK fun K1 h1 => ?_
  refine W_reg ?_
  simp [go_sem, ty4]
  repeat refine ⟨by first | omega | grind, ?_⟩
  refine h1 _ ?_
  clear h1 K1
  refine W_seqK fun K2 h2 => ?_
  refine W_seqK fun K3 h3 => ?_
  refine W_reg ?_
  simp [go_sem, ty3, ty4, ty22]
  repeat refine ⟨by first | omega | grind, ?_⟩
  refine h3 _ ?_
  clear h3 K3
  refine W_cond rfl (fun hb4 => ?_) fun hb4 => ?_
  · have hne : xs ≠ ys := ne_of_len (by simp at hb4; omega)
    refine W_seqK fun K5 h5 => ?_
    refine W_reg ?_
    simp [go_sem, ty4]
    repeat refine ⟨by first | omega | grind, ?_⟩
    refine h5 _ ?_
    clear h5 K5
    refine W_ret ?_
    simp [go_sem, hne]
  · have hl : xs.length = ys.length := by simp at hb4; omega
    clear hb4
    refine W_skip ?_
    repeat refine ⟨by first | omega | grind, ?_⟩
    refine h2 _ ?_
    clear h2 K2
    refine W_seqK fun K6 h6 => ?_
    refine W_seqK fun K7 h7 => ?_
    refine W_reg ?_
    simp [go_sem, ty3]
    repeat refine ⟨by first | omega | grind, ?_⟩
    refine h7 _ ?_
    clear h7 K7
    refine W_block ?_
    refine W_loopI (α := Nat) (fun i => ({ env := [(0, true, .l (.ref 0 [] 1 0 (xs.length))), (1, true, .l (.ref 1 [] 1 0 (ys.length))), (5, true, .l (.t (.int .i64 (i))))], box := [], row := [(0, ⟨.ro, 1, enc eI xs⟩), (1, ⟨.ro, 1, enc eI ys⟩)], nxt := 2, sav := [] } : St)) (fun i => i ≤ xs.length ∧ xs.take i = ys.take i) (fun i => xs.length - i) 0 ?_ ?_ ?_
    · exact Sub.of_neat [0, 1, 5] [0, 1] [] 2 (by decide) (by simp [go_sem])
    · simp
    rintro i hinv
    obtain ⟨hi, htk⟩ := hinv
    refine W_seqK fun K9 h9 => ?_
    refine W_seqK fun K10 h10 => ?_
    refine W_reg ?_
    simp [go_sem, ty3, ty4, ty22]
    repeat refine ⟨by first | omega | grind, ?_⟩
    refine h10 _ ?_
    clear h10 K10
    refine W_cond rfl (fun hb11 => ?_) fun hb11 => ?_
    · have hlt : i < xs.length := by simpa using hb11
      have hlt2 : i < ys.length := hl ▸ hlt
      clear hb11
      refine W_skip ?_
      repeat refine ⟨by first | omega | grind, ?_⟩
      refine h9 _ ?_
      clear h9 K9
      refine W_seqK fun K12 h12 => ?_
      refine W_block ?_
      refine W_seqK fun K13 h13 => ?_
      refine W_drawT true mixed (by decide +kernel) ?_
      simp [go_sem, ty3, ty4, ty22, hlt, hlt2]
      repeat refine ⟨by first | omega | grind, ?_⟩
      refine h13 _ ?_
      clear h13 K13
      refine W_cond rfl (fun hb14 => ?_) fun hb14 => ?_
      · have hne : xs ≠ ys := ne_of_get hlt hlt2 (by simpa [hlt, hlt2] using hb14)
        refine W_seqK fun K15 h15 => ?_
        refine W_reg ?_
        simp [go_sem, ty4]
        repeat refine ⟨by first | omega | grind, ?_⟩
        refine h15 _ ?_
        clear h15 K15
        refine W_ret ?_
        simp [go_sem, hne]
      · have he : xs[i] = ys[i] := by simpa [hlt, hlt2] using hb14
        clear hb14
        refine W_skip ?_
        repeat refine ⟨by first | omega | grind, ?_⟩
        refine h12 _ ?_
        clear h12 K12
        refine W_reg ?_
        simp [go_sem, ty3]
        refine ⟨i + 1, ?_, ?_, ?_⟩
        · exact Sub.of_neat [0, 1, 5] [0, 1] [] 2 (by decide) (by simp [go_sem, wrap_succ (show i < 9223372036854775807 by omega)])
        · exact ⟨hlt, take_succ_eq htk hlt hlt2 he⟩
        · omega
    · obtain rfl : i = xs.length := by simp at hb11; omega
      have hxy : xs = ys := eq_of_take hl htk
      clear hb11
      refine W_exit ?_
      simp [go_sem]
      repeat refine ⟨by first | omega | grind, ?_⟩
      refine h6 _ ?_
      clear h9 K9 h6 K6
      refine W_seqK fun K16 h16 => ?_
      refine W_reg ?_
      simp [go_sem, ty4]
      repeat refine ⟨by first | omega | grind, ?_⟩
      refine h16 _ ?_
      clear h16 K16
      refine W_ret ?_
      simp [go_sem, hxy]

set_option maxRecDepth 100000 in
set_option maxHeartbeats 4000000 in
theorem pc_laws_szIntS (xs : List Int) (left : Int) (h1 : -9223372036854775808 + 9223372036854775807 ≤ left) (h2 : left ≤ 9223372036854775807) (h3 : xs.length ≤ 9223372036854775807) : PC Try.prog 89 [(false, [.sl 1 (enc eI xs)]), (false, [.int .i64 left])] [(false, [.int .i64 (szL left xs.length)])] := by
  have hw : IntKind.wrap .i64 (left - xs.length) = left - xs.length := wrap_ok (by omega) (by omega)
  refine PC_of (n := 12) Try.func89 rfl rfl rfl rfl (by simp) ?_
  refine W_seqK fun K1 h1 => ?_
  refine W_reg ?_
  simp [go_sem, ty3]
  repeat refine ⟨by first | omega | grind, ?_⟩
  refine h1 _ ?_
  clear h1 K1
  refine W_seqK fun K2 h2 => ?_
  refine W_reg ?_
  simp [go_sem, ty3, ty22, hw]
  repeat refine ⟨by first | omega | grind, ?_⟩
  refine h2 _ ?_
  clear h2 K2
  refine W_seqK fun K3 h3 => ?_
  refine W_seqK fun K4 h4 => ?_
  refine W_reg ?_
  simp [go_sem, ty3, ty4]
  repeat refine ⟨by first | omega | grind, ?_⟩
  refine h4 _ ?_
  clear h4 K4
  refine W_cond rfl (fun hb5 => ?_) fun hb5 => ?_
  · have h0 : szL left xs.length = -1 := by simp at hb5; unfold szL; omega
    refine W_seqK fun K6 h6 => ?_
    refine W_reg ?_
    simp [go_sem, ty3]
    repeat refine ⟨by first | omega | grind, ?_⟩
    refine h6 _ ?_
    clear h6 K6
    refine W_ret ?_
    simp [go_sem, h0]
  · have h0 : szL left xs.length = left - xs.length := by simp at hb5; unfold szL; omega
    refine W_skip ?_
    repeat refine ⟨by first | omega | grind, ?_⟩
    refine h3 _ ?_
    clear h3 K3
    refine W_seqK fun K7 h7 => ?_
    refine W_reg ?_
    simp [go_sem, ty3]
    repeat refine ⟨by first | omega | grind, ?_⟩
    refine h7 _ ?_
    clear h7 K7
    refine W_ret ?_
    simp [go_sem, h0]

set_option maxRecDepth 100000 in
set_option maxHeartbeats 4000000 in
theorem pc_laws_toHart (h : GHart) (hx : h.regs.length ≤ 1048576) : PC Try.prog 34 [(true, eHart h)] [(true, eHart h)] := by
  refine PC_of (n := 15) Try.func34 rfl rfl rfl rfl (by simp) ?_
  refine W_seqK fun K1 h1 => ?_
  refine W_reg ?_
  simp [go_sem, ty58, ty61]
  repeat refine ⟨by first | omega | grind, ?_⟩
  refine h1 _ ?_
  clear h1 K1
  refine W_seqK fun K2 h2 => ?_
  refine W_reg ?_
  simp [go_sem, ty61]
  repeat refine ⟨by first | omega | grind, ?_⟩
  refine h2 _ ?_
  clear h2 K2
  refine W_seqK fun K3 h3 => ?_
  refine W_reg ?_
  simp [go_sem, ty3, ty22, ty58]
  refine callG_pc (fun hG => pc_laws_toIntS h.regs (by omega)) (by first | (simp; done) | (simp [inR_iff]; done) | (simp [inR_iff]; grind) | grind) (fun hG => by simp [go_sem]) rfl rfl (by first | exact Or.inl rfl | exact Or.inr rfl) ?_
  simp [go_sem, ty3, ty22, ty61]
  repeat refine ⟨by first | omega | grind, ?_⟩
  refine h3 _ ?_
  clear h3 K3
  refine W_seqK fun K4 h4 => ?_
  refine W_reg ?_
  simp [go_sem, ty3, ty58, ty61]
  repeat refine ⟨by first | omega | grind, ?_⟩
  refine h4 _ ?_
  clear h4 K4
  refine W_seqK fun K5 h5 => ?_
  refine W_reg ?_
  simp [go_sem, ty3, ty58, ty61]
  repeat refine ⟨by first | omega | grind, ?_⟩
  refine h5 _ ?_
  clear h5 K5
  refine W_seqK fun K6 h6 => ?_
  refine W_reg ?_
  simp [go_sem, ty61]
  repeat refine ⟨by first | omega | grind, ?_⟩
  refine h6 _ ?_
  clear h6 K6
  refine W_ret ?_
  simp [go_sem, ty61]

set_option maxRecDepth 100000 in
set_option maxHeartbeats 4000000 in
theorem pc_laws_eqHart (a : GHart) (b : GHart) (hx : a.regs.length ≤ 17592186043904) : PC Try.prog 36 [(true, eHart a), (true, eHart b)] [(false, [.bool (decide (a = b))])] := by
  refine PC_of (n := 21) Try.func36 rfl rfl rfl rfl (by simp) ?_
  refine W_seqK fun K1 h1 => ?_
  refine W_reg ?_
  simp [go_sem, ty4, ty61]
  repeat refine ⟨by first | omega | grind, ?_⟩
  refine h1 _ ?_
  clear h1 K1
  refine W_seqK fun K2 h2 => ?_
  refine W_seqK fun K3 h3 => ?_
  refine W_reg ?_
  simp [go_sem, ty3, ty4, ty22, ty61]
  refine callG_pc (fun hG => pc_laws_eqIntS a.regs b.regs (by omega)) (by first | (simp; done) | (simp [inR_iff]; done) | (simp [inR_iff]; grind) | grind) (fun hG => by simp [go_sem]) rfl rfl (by first | exact Or.inl rfl | exact Or.inr rfl) ?_
  simp [go_sem, ty4]
  repeat refine ⟨by first | omega | grind, ?_⟩
  refine h3 _ ?_
  clear h3 K3
  refine W_cond rfl (fun hb4 => ?_) fun hb4 => ?_
  · simp at hb4
    refine W_seqK fun K5 h5 => ?_
    refine W_reg ?_
    simp [go_sem, ty4]
    repeat refine ⟨by first | omega | grind, ?_⟩
    refine h5 _ ?_
    clear h5 K5
    refine W_ret ?_
    simp [go_sem, GHart.ext_iff, hb4]
  · simp at hb4
    refine W_skip ?_
    repeat refine ⟨by first | omega | grind, ?_⟩
    refine h2 _ ?_
    clear h2 K2
    refine W_seqK fun K6 h6 => ?_
    refine W_seqK fun K7 h7 => ?_
    refine W_reg ?_
    simp [go_sem, ty3, ty4, ty61]
    repeat refine ⟨by first | omega | grind, ?_⟩
    refine h7 _ ?_
    clear h7 K7
    refine W_cond rfl (fun hb8 => ?_) fun hb8 => ?_
    · simp at hb8
      refine W_seqK fun K9 h9 => ?_
      refine W_reg ?_
      simp [go_sem, ty4]
      repeat refine ⟨by first | omega | grind, ?_⟩
      refine h9 _ ?_
      clear h9 K9
      refine W_ret ?_
      simp [go_sem, GHart.ext_iff, hb4, hb8]
    · simp at hb8
      refine W_skip ?_
      repeat refine ⟨by first | omega | grind, ?_⟩
      refine h6 _ ?_
      clear h6 K6
      refine W_seqK fun K10 h10 => ?_
      refine W_seqK fun K11 h11 => ?_
      refine W_reg ?_
      simp [go_sem, ty3, ty4, ty61]
      repeat refine ⟨by first | omega | grind, ?_⟩
      refine h11 _ ?_
      clear h11 K11
      refine W_cond rfl (fun hb12 => ?_) fun hb12 => ?_
      · simp at hb12
        refine W_seqK fun K13 h13 => ?_
        refine W_reg ?_
        simp [go_sem, ty4]
        repeat refine ⟨by first | omega | grind, ?_⟩
        refine h13 _ ?_
        clear h13 K13
        refine W_ret ?_
        simp [go_sem, GHart.ext_iff, hb4, hb8, hb12]
      · simp at hb12
        refine W_skip ?_
        repeat refine ⟨by first | omega | grind, ?_⟩
        refine h10 _ ?_
        clear h10 K10
        refine W_seqK fun K14 h14 => ?_
        refine W_reg ?_
        simp [go_sem, ty4]
        repeat refine ⟨by first | omega | grind, ?_⟩
        refine h14 _ ?_
        clear h14 K14
        refine W_ret ?_
        simp [go_sem, GHart.ext_iff, hb4, hb8, hb12]

set_option maxRecDepth 100000 in
set_option maxHeartbeats 4000000 in
theorem pc_laws_szHart (h : GHart) (left : Int) (h1 : -9223372036854775808 + 9223372036854775807 ≤ left) (h2 : left ≤ 9223372036854775807) (h3 : h.regs.length ≤ 9223372036854775807) : PC Try.prog 32 [(true, eHart h), (false, [.int .i64 left])] [(false, [.int .i64 (szL left h.regs.length)])] := by
  refine PC_of (n := 12) Try.func32 rfl rfl rfl rfl (by simp) ?_
  refine W_seqK fun K1 h1 => ?_
  refine W_reg ?_
  simp [go_sem, ty3, ty58]
  repeat refine ⟨by first | omega | grind, ?_⟩
  refine h1 _ ?_
  clear h1 K1
  refine W_seqK fun K2 h2 => ?_
  refine W_reg ?_
  simp [go_sem, ty3, ty22, ty58]
  refine callG_pc (fun hG => pc_laws_szIntS h.regs left (by omega) (by omega) (by omega)) (by first | (simp; done) | (simp [inR_iff]; done) | (simp [inR_iff]; grind) | grind) (fun hG => by simp [go_sem]) rfl rfl (by first | exact Or.inl rfl | exact Or.inr rfl) ?_
  simp [go_sem, ty3]
  repeat refine ⟨by first | omega | grind, ?_⟩
  refine h2 _ ?_
  clear h2 K2
  refine W_seqK fun K3 h3 => ?_
  refine W_seqK fun K4 h4 => ?_
  refine W_reg ?_
  simp [go_sem, ty3, ty4]
  repeat refine ⟨by first | omega | grind, ?_⟩
  refine h4 _ ?_
  clear h4 K4
  refine W_cond rfl (fun hb5 => ?_) fun hb5 => ?_
  · have h0 : szL left h.regs.length = -1 := by simp at hb5; unfold szL at hb5 ⊢; split at hb5 <;> simp_all
    refine W_seqK fun K6 h6 => ?_
    refine W_reg ?_
    simp [go_sem, ty3]
    repeat refine ⟨by first | omega | grind, ?_⟩
    refine h6 _ ?_
    clear h6 K6
    refine W_ret ?_
    simp [go_sem, h0]
  · skip
    refine W_skip ?_
    repeat refine ⟨by first | omega | grind, ?_⟩
    refine h3 _ ?_
    clear h3 K3
    refine W_seqK fun K7 h7 => ?_
    refine W_reg ?_
    simp [go_sem, ty3]
    repeat refine ⟨by first | omega | grind, ?_⟩
    refine h7 _ ?_
    clear h7 K7
    refine W_ret ?_
    simp [go_sem]

set_option maxRecDepth 100000 in
set_option maxHeartbeats 4000000 in
theorem mc_laws_markIntS (xs : List Int) (k : Int) (hx : xs.length ≤ 17592186043904) : MC1 Try.prog 15 1 (enc eI xs) (enc eI (marks k xs.length)) [.int .i64 k] [.int .i64 (markE k xs.length)] := by
  refine MC1_of (n := 19) Try.func15 rfl rfl rfl rfl (by simp) fun a0 => ?_
  refine W_seqK fun K1 h1 => ?_
  refine W_reg ?_
  simp [go_sem, ty3]
  repeat refine ⟨by first | omega | grind, ?_⟩
  refine h1 _ ?_
  clear h1 K1
  refine W_seqK fun K2 h2 => ?_
  refine W_seqK fun K3 h3 => ?_
  refine W_reg ?_
  simp [go_sem, ty3]
  repeat refine ⟨by first | omega | grind, ?_⟩
  refine h3 _ ?_
  clear h3 K3
  refine W_block ?_
  refine W_loopI (α := Nat) (fun i => { env := [(0, true, .l (.ref 0 [] 1 0 xs.length)), (1, true, .l (.t (.int .i64 (markE k i)))), (5, true, .l (.t (.int .i64 i)))], box := [], row := [(0, ⟨.own, 1, enc eI (marks k i ++ xs.drop i)⟩)], nxt := 1, sav := [([(0, true, .l (.ref 0 [] 1 0 xs.length))], a0)] }) (fun i => i ≤ xs.length) (fun i => xs.length - i) 0 ?_ ?_ ?_
  · exact Sub.of_to [0, 1, 5] 1 (by decide) (by simp [go_sem, marks, markE])
  · exact Nat.zero_le _
  rintro i hinv
  refine W_seqK fun K5 h5 => ?_
  refine W_seqK fun K6 h6 => ?_
  refine W_reg ?_
  simp [go_sem, ty3, ty4, ty22]
  repeat refine ⟨by first | omega | grind, ?_⟩
  refine h6 _ ?_
  clear h6 K6
  refine W_cond rfl (fun hb7 => ?_) fun hb7 => ?_
  · have hlt : i < xs.length := by simpa using hb7
    have hm := marks_length k i
    clear hb7
    refine W_skip ?_
    repeat refine ⟨by first | omega | grind, ?_⟩
    refine h5 _ ?_
    clear h5 K5
    refine W_seqK fun K8 h8 => ?_
    refine W_block ?_
    refine W_seqK fun K9 h9 => ?_
    refine W_reg ?_
    simp [go_sem, ty3, ty22, hlt, hm]
    repeat refine ⟨by first | omega | grind, ?_⟩
    refine h9 _ ?_
    clear h9 K9
    refine W_reg ?_
    simp [go_sem, ty3]
    repeat refine ⟨by first | omega | grind, ?_⟩
    refine h8 _ ?_
    clear h8 K8
    refine W_reg ?_
    simp [go_sem, ty3]
    refine ⟨i + 1, ?_, ?_, ?_⟩
    · exact Sub.of_to [0, 1, 5] 1 (by decide) (by simp [go_sem, wrap_succ (show i < 9223372036854775807 by omega), marks_step2 k xs i hlt, markE])
    · exact hlt
    · omega
  · obtain rfl : i = xs.length := by simp at hb7; omega
    clear hb7
    have hm := marks_length k xs.length
    refine W_exit ?_
    simp [go_sem]
    repeat refine ⟨by first | omega | grind, ?_⟩
    refine h2 _ ?_
    clear h5 K5 h2 K2
    refine W_seqK fun K10 h10 => ?_
    refine W_reg ?_
    simp [go_sem, ty3]
    repeat refine ⟨by first | omega | grind, ?_⟩
    refine h10 _ ?_
    clear h10 K10
    refine W_ret ?_
    simp [go_sem]

set_option maxRecDepth 100000 in
set_option maxHeartbeats 4000000 in
theorem pc_laws_FnExactHartText (h : GHart) (ok_h : h.ok) : PC Try.prog 7 [(true, eHart h)] [(false, [.bool true])] := by
  have ho := ok_h
  unfold GHart.ok at ho
  obtain ⟨⟨ho1, -⟩, -⟩ := ho
  have htt : h.tot = h.regs.length := rfl
  refine PC_of (n := 27) Try.func7 rfl rfl rfl rfl (by simp) ?_
  refine W_seqK fun K1 h1 => ?_
  refine W_reg ?_
  simp [go_sem, ty4, ty58, markE_add]
  repeat refine ⟨by first | omega | grind, ?_⟩
  refine h1 _ ?_
  clear h1 K1
  refine W_seqK fun K2 h2 => ?_
  refine W_reg ?_
  simp [go_sem, ty3, markE_add]
  repeat refine ⟨by first | omega | grind, ?_⟩
  refine h2 _ ?_
  clear h2 K2
  refine W_seqK fun K3 h3 => ?_
  refine W_reg ?_
  simp [go_sem, ty3, ty58, markE_add]
  refine callG_pc (fun hG => pc_laws_szHart h 1048576 (by first | assumption | omega | (unfold GHart.small at hq_h; exact hq_h)) (by first | assumption | omega | (unfold GHart.small at hq_h; exact hq_h)) (by first | assumption | omega | (unfold GHart.small at hq_h; exact hq_h))) (by first | (simp; done) | (simp [inR_iff]; done) | (simp [inR_iff]; grind) | grind) (fun hG => by simp [go_sem, markE_add]) rfl rfl (by first | exact Or.inl rfl | exact Or.inr rfl) ?_
  simp [go_sem, ty3, markE_add]
  repeat refine ⟨by first | omega | grind, ?_⟩
  refine h3 _ ?_
  clear h3 K3
  refine W_seqK fun K4 h4 => ?_
  refine W_seqK fun K5 h5 => ?_
  refine W_reg ?_
  simp [go_sem, ty3, ty4, markE_add]
  repeat refine ⟨by first | omega | grind, ?_⟩
  refine h5 _ ?_
  clear h5 K5
  refine W_cond rfl (fun hb6 => ?_) fun hb6 => ?_
  · skip
    refine W_seqK fun K7 h7 => ?_
    refine W_reg ?_
    simp [go_sem, ty4, markE_add]
    repeat refine ⟨by first | omega | grind, ?_⟩
    refine h7 _ ?_
    clear h7 K7
    refine W_ret ?_
    simp [go_sem]
  · have hz_h := szL_pos hb6
    have hq_h := h.small_of (by omega)
    clear hb6
    have hn_h := nvHart_le h
    simp only [nvHart] at hn_h
    refine W_skip ?_
    repeat refine ⟨by first | omega | grind, ?_⟩
    refine h4 _ ?_
    clear h4 K4
    refine W_seqK fun K8 h8 => ?_
    refine W_reg ?_
    simp [go_sem, ty58, ty61, markE_add]
    refine callG_pc (fun hG => pc_laws_toHart h (by first | assumption | omega | (unfold GHart.small at hq_h; exact hq_h))) (by first | (simp; done) | (simp [inR_iff]; done) | (simp [inR_iff]; grind) | grind) (fun hG => by simp [go_sem, markE_add]) rfl rfl (by first | exact Or.inl rfl | exact Or.inr rfl) ?_
    simp [go_sem, ty9, ty61, markE_add]
    refine callG_pc (fun hG => pc_spec_HartText h (by first | assumption | omega | (unfold GHart.small at hq_h; exact hq_h))) (by first | (simp; done) | (simp [inR_iff]; done) | (simp [inR_iff]; grind) | grind) (fun hG => by simp [go_sem, markE_add]) rfl rfl (by first | exact Or.inl rfl | exact Or.inr rfl) ?_
    simp [go_sem, ty9, markE_add]
    repeat refine ⟨by first | omega | grind, ?_⟩
    refine h8 _ ?_
    clear h8 K8
    refine W_seqK fun K9 h9 => ?_
    refine W_reg ?_
    simp [go_sem, ty58, ty61, markE_add]
    refine callG_pc (fun hG => pc_laws_toHart h (by first | assumption | omega | (unfold GHart.small at hq_h; exact hq_h))) (by first | (simp; done) | (simp [inR_iff]; done) | (simp [inR_iff]; grind) | grind) (fun hG => by simp [go_sem, markE_add]) rfl rfl (by first | exact Or.inl rfl | exact Or.inr rfl) ?_
    simp [go_sem, ty61, markE_add]
    repeat refine ⟨by first | omega | grind, ?_⟩
    refine h9 _ ?_
    clear h9 K9
    refine W_seqK fun K10 h10 => ?_
    refine W_reg ?_
    simp [go_sem, ty9, ty61, markE_add]
    refine callG_pc (fun hG => pc_impl_HartText h (by first | assumption | omega | (unfold GHart.small at hq_h; exact hq_h))) (by first | (simp; done) | (simp [inR_iff]; done) | (simp [inR_iff]; grind) | grind) (fun hG => by simp [go_sem, markE_add]) rfl rfl (by first | exact Or.inl rfl | exact Or.inr rfl) ?_
    simp [go_sem, ty9, markE_add]
    repeat refine ⟨by first | omega | grind, ?_⟩
    refine h10 _ ?_
    clear h10 K10
    refine W_seqK fun K11 h11 => ?_
    refine W_seqK fun K12 h12 => ?_
    refine W_reg ?_
    simp [go_sem, ty4, ty9, markE_add]
    repeat refine ⟨by first | omega | grind, ?_⟩
    refine h12 _ ?_
    clear h12 K12
    refine W_cond rfl (fun hb13 => by first | (simp at hb13; done) | (simp at hb13; omega) | (simp at hb13; exact absurd hb13 (Int.not_lt.2 (markE_nn _ (by omega))))) fun hb13 => ?_
    clear hb13
    refine W_skip ?_
    repeat refine ⟨by first | omega | grind, ?_⟩
    refine h11 _ ?_
    clear h11 K11
    refine W_seqK fun K14 h14 => ?_
    refine W_seqK fun K15 h15 => ?_
    refine W_drawT true mixed (by decide +kernel) ?_
    simp [go_sem, ty58, ty61, markE_add]
    refine callG_pc (fun hG => pc_laws_toHart h (by first | assumption | omega | (unfold GHart.small at hq_h; exact hq_h))) (by first | (simp; done) | (simp [inR_iff]; done) | (simp [inR_iff]; grind) | grind) (fun hG => by simp [go_sem, markE_add]) rfl rfl (by first | exact Or.inl rfl | exact Or.inr rfl) ?_
    simp [go_sem, ty4, ty61, markE_add]
    refine callG_pc (fun hG => pc_laws_eqHart h h (by first | assumption | omega | (unfold GHart.small at hq_h; exact hq_h))) (by first | (simp; done) | (simp [inR_iff]; done) | (simp [inR_iff]; grind) | grind) (fun hG => by simp [go_sem, markE_add]) rfl rfl (by first | exact Or.inl rfl | exact Or.inr rfl) ?_
    simp [go_sem, ty4, markE_add]
    repeat refine ⟨by first | omega | grind, ?_⟩
    refine h15 _ ?_
    clear h15 K15
    refine W_cond rfl (fun hb16 => by first | (simp at hb16; done) | (simp at hb16; omega) | (simp at hb16; exact absurd hb16 (Int.not_lt.2 (markE_nn _ (by omega))))) fun hb16 => ?_
    clear hb16
    refine W_skip ?_
    repeat refine ⟨by first | omega | grind, ?_⟩
    refine h14 _ ?_
    clear h14 K14
    refine W_seqK fun K17 h17 => ?_
    refine W_reg ?_
    simp [go_sem, ty4, markE_add]
    repeat refine ⟨by first | omega | grind, ?_⟩
    refine h17 _ ?_
    clear h17 K17
    refine W_ret ?_
    simp [go_sem]
end Go.Tw
