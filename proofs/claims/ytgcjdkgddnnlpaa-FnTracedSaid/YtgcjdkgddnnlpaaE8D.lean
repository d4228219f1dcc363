/- Walks of functions: laws.words, laws.big, laws.sameInts, laws.sameEvents -/
import Derived.Test.YtgcjdkgddnnlpaaE6e
import Derived.Test.YtgcjdkgddnnlpaaBaseG
set_option linter.unusedSimpArgs false
set_option linter.unusedVariables false
set_option linter.unnecessarySimpa false
namespace Go.Tw
open Go.Proofs

set_option maxRecDepth 100000 in
set_option maxHeartbeats 4000000 in
theorem pc_laws_words (xs : List Int) (hx : xs.length ≤ 1048576) : PC Try.prog 56 [(false, [.sl 1 (enc eI xs)])] [(false, [.bool (xs.all isW)])] := by
  refine PC_of (n := 22) Try.func56 rfl rfl rfl rfl (by simp) ?_
  refine W_seqK fun K1 h1 => ?_
  refine W_reg ?_
  simp [go_sem, ty4]
  repeat refine ⟨by first | omega | grind, ?_⟩
  refine h1 _ ?_
  clear h1 K1
  refine W_seqK fun K2 h2 => ?_
  refine W_seqK fun K3 h3 => ?_
  refine W_reg ?_
  simp [go_sem, ty3]
  repeat refine ⟨by first | omega | grind, ?_⟩
  refine h3 _ ?_
  clear h3 K3
  refine W_block ?_
  refine W_loopI (α := Nat) (fun i => ({ env := [(0, true, .l (.ref 0 [] 1 0 (xs).length)), (3, true, .l (.t (.int .i64 (i))))], box := [], row := [(0, ⟨.ro, 1, enc eI xs⟩)], nxt := 60, sav := [] } : St)) (fun i => i ≤ xs.length ∧ ∀ j, (h1 : j < xs.length) → j < i → isW xs[j] = true) (fun i => xs.length - i) 0 ?_ ?_ ?_
  · exact Sub.of_neat [0, 3] [0] [] 60 (by decide) (by simp [go_sem])
  · exact ⟨Nat.zero_le _, fun j _ h => absurd h (Nat.not_lt_zero _)⟩
  rintro i hinv
  obtain ⟨hi, hall⟩ := hinv
  refine W_seqK fun K5 h5 => ?_
  refine W_seqK fun K6 h6 => ?_
  refine W_reg ?_
  simp [go_sem, ty3, ty4, ty22]
  repeat refine ⟨by first | omega | grind, ?_⟩
  refine h6 _ ?_
  clear h6 K6
  refine W_cond rfl (fun hb7 => ?_) fun hb7 => ?_
  · have hlt : i < xs.length := by simpa using hb7
    clear hb7
    refine W_skip ?_
    repeat refine ⟨by first | omega | grind, ?_⟩
    refine h5 _ ?_
    clear h5 K5
    refine W_seqK fun K8 h8 => ?_
    refine W_block ?_
    refine W_seqK fun K9 h9 => ?_
    refine W_reg ?_
    simp [go_sem, ty3, ty4, ty22, hlt]
    repeat refine ⟨by first | omega | grind, ?_⟩
    refine h9 _ ?_
    clear h9 K9
    refine W_cond rfl (fun hb10 => ?_) fun hb10 => ?_
    · have q : xs.all isW = false := all_no hlt (by simp [hlt] at hb10; unfold isW inR; simp; omega)
      clear hb10
      refine W_seqK fun K11 h11 => ?_
      refine W_reg ?_
      simp [go_sem, ty4, hlt]
      repeat refine ⟨by first | omega | grind, ?_⟩
      refine h11 _ ?_
      clear h11 K11
      refine W_ret ?_
      simp [go_sem, q]
    · have hw : isW xs[i] = true := (isW_iff _).2 (by simp [hlt] at hb10; omega)
      clear hb10
      refine W_skip ?_
      repeat refine ⟨by first | omega | grind, ?_⟩
      refine h8 _ ?_
      clear h8 K8
      refine W_reg ?_
      simp [go_sem, ty3, hlt]
      refine ⟨i + 1, ?_, ?_, ?_⟩
      · exact Sub.of_neat [0, 3] [0] [] 60 (by decide) (by simp [go_sem, wrap_succ (show i < 9223372036854775807 by omega)])
      · refine ⟨hlt, fun j h1 hj => ?_⟩
        rcases Nat.lt_succ_iff_lt_or_eq.1 hj with hj | rfl
        · exact hall j h1 hj
        · exact hw
      · omega
  · obtain rfl : i = xs.length := by simp at hb7; omega
    have q : xs.all isW = true := all_of fun j hj => hall j hj hj
    clear hb7
    refine W_exit ?_
    simp [go_sem]
    repeat refine ⟨by first | omega | grind, ?_⟩
    refine h2 _ ?_
    clear h5 K5 h2 K2
    refine W_seqK fun K12 h12 => ?_
    refine W_reg ?_
    simp [go_sem, ty4]
    repeat refine ⟨by first | omega | grind, ?_⟩
    refine h12 _ ?_
    clear h12 K12
    refine W_ret ?_
    simp [go_sem, q]

set_option maxRecDepth 100000 in
set_option maxHeartbeats 4000000 in
theorem pc_laws_big (code : List Int)  : PC Try.prog 40 [(false, [.sl 1 (enc eU code)])] [(false, [.bool (decide ((1048576 : Int) < code.length))])] := by
  refine PC_of (n := 6) Try.func40 rfl rfl rfl rfl (by simp) ?_
  refine W_seqK fun K1 h1 => ?_
  refine W_reg ?_
  simp [go_sem, ty4]
  repeat refine ⟨by first | omega | grind, ?_⟩
  refine h1 _ ?_
  clear h1 K1
  refine W_seqK fun K2 h2 => ?_
  refine W_reg ?_
  simp [go_sem, ty3, ty4, ty5, ty71]
  repeat refine ⟨by first | omega | grind, ?_⟩
  refine h2 _ ?_
  clear h2 K2
  refine W_ret ?_
  simp [go_sem]

set_option maxRecDepth 100000 in
set_option maxHeartbeats 4000000 in
theorem pc_laws_sameInts (xs : List Int) (ys : List Int) (hx : xs.length ≤ 17592186043904) : PC Try.prog 51 [(false, [.sl 1 (enc eI xs)]), (false, [.sl 1 (enc eI ys)])] [(false, [.bool (decide (xs = ys))])] := by
  refine PC_of (n := 26) Try.func51 rfl rfl rfl rfl (by simp) ?_
  refine W_seqK fun K1 h1 => ?_
  refine W_reg ?_
  simp [go_sem, ty4]
  repeat refine ⟨by first | omega | grind, ?_⟩
  refine h1 _ ?_
  clear h1 K1
  refine W_seqK fun K2 h2 => ?_
  refine W_seqK fun K3 h3 => ?_
  refine W_reg ?_
  simp [go_sem, ty3, ty4, ty22]
  repeat refine ⟨by first | omega | grind, ?_⟩
  refine h3 _ ?_
  clear h3 K3
  refine W_cond rfl (fun hb4 => ?_) fun hb4 => ?_
  · have hne : xs ≠ ys := ne_of_len (by simp at hb4; omega)
    refine W_seqK fun K5 h5 => ?_
    refine W_reg ?_
    simp [go_sem, ty4]
    repeat refine ⟨by first | omega | grind, ?_⟩
    refine h5 _ ?_
    clear h5 K5
    refine W_ret ?_
    simp [go_sem, hne]
  · have hl : xs.length = ys.length := by simp at hb4; omega
    clear hb4
    refine W_skip ?_
    repeat refine ⟨by first | omega | grind, ?_⟩
    refine h2 _ ?_
    clear h2 K2
    refine W_seqK fun K6 h6 => ?_
    refine W_seqK fun K7 h7 => ?_
    refine W_reg ?_
    simp [go_sem, ty3]
    repeat refine ⟨by first | omega | grind, ?_⟩
    refine h7 _ ?_
    clear h7 K7
    refine W_block ?_
    refine W_loopI (α := Nat) (fun i => ({ env := [(0, true, .l (.ref 0 [] 1 0 (xs.length))), (1, true, .l (.ref 1 [] 1 0 (ys.length))), (5, true, .l (.t (.int .i64 (i))))], box := [], row := [(0, ⟨.ro, 1, enc eI xs⟩), (1, ⟨.ro, 1, enc eI ys⟩)], nxt := 2, sav := [] } : St)) (fun i => i ≤ xs.length ∧ xs.take i = ys.take i) (fun i => xs.length - i) 0 ?_ ?_ ?_
    · exact Sub.of_neat [0, 1, 5] [0, 1] [] 2 (by decide) (by simp [go_sem])
    · simp
    rintro i hinv
    obtain ⟨hi, htk⟩ := hinv
    refine W_seqK fun K9 h9 => ?_
    refine W_seqK fun K10 h10 => ?_
    refine W_reg ?_
    simp [go_sem, ty3, ty4, ty22]
    repeat refine ⟨by first | omega | grind, ?_⟩
    refine h10 _ ?_
    clear h10 K10
    refine W_cond rfl (fun hb11 => ?_) fun hb11 => ?_
    · have hlt : i < xs.length := by simpa using hb11
      have hlt2 : i < ys.length := hl ▸ hlt
      clear hb11
      refine W_skip ?_
      repeat refine ⟨by first | omega | grind, ?_⟩
      refine h9 _ ?_
      clear h9 K9
      refine W_seqK fun K12 h12 => ?_
      refine W_block ?_
      refine W_seqK fun K13 h13 => ?_
      refine W_drawT true mixed (by decide +kernel) ?_
      simp [go_sem, ty3, ty4, ty22, hlt, hlt2]
      repeat refine ⟨by first | omega | grind, ?_⟩
      refine h13 _ ?_
      clear h13 K13
      refine W_cond rfl (fun hb14 => ?_) fun hb14 => ?_
      · have hne : xs ≠ ys := ne_of_get hlt hlt2 (by simpa [hlt, hlt2] using hb14)
        refine W_seqK fun K15 h15 => ?_
        refine W_reg ?_
        simp [go_sem, ty4]
        repeat refine ⟨by first | omega | grind, ?_⟩
        refine h15 _ ?_
        clear h15 K15
        refine W_ret ?_
        simp [go_sem, hne]
      · have he : xs[i] = ys[i] := by simpa [hlt, hlt2] using hb14
        clear hb14
        refine W_skip ?_
        repeat refine ⟨by first | omega | grind, ?_⟩
        refine h12 _ ?_
        clear h12 K12
        refine W_reg ?_
        simp [go_sem, ty3]
        refine ⟨i + 1, ?_, ?_, ?_⟩
        · exact Sub.of_neat [0, 1, 5] [0, 1] [] 2 (by decide) (by simp [go_sem, wrap_succ (show i < 9223372036854775807 by omega)])
        · exact ⟨hlt, take_succ_eq htk hlt hlt2 he⟩
        · omega
    · obtain rfl : i = xs.length := by simp at hb11; omega
      have hxy : xs = ys := eq_of_take hl htk
      clear hb11
      refine W_exit ?_
      simp [go_sem]
      repeat refine ⟨by first | omega | grind, ?_⟩
      refine h6 _ ?_
      clear h9 K9 h6 K6
      refine W_seqK fun K16 h16 => ?_
      refine W_reg ?_
      simp [go_sem, ty4]
      repeat refine ⟨by first | omega | grind, ?_⟩
      refine h16 _ ?_
      clear h16 K16
      refine W_ret ?_
      simp [go_sem, hxy]

set_option maxRecDepth 100000 in
set_option maxHeartbeats 4000000 in
theorem pc_laws_sameEvents (xs : List GEvent) (ys : List GEvent) (hx : xs.length ≤ 17592186043904) : PC Try.prog 50 [(false, [.sl 5 (enc eEvent xs)]), (false, [.sl 5 (enc eEvent ys)])] [(false, [.bool (decide (xs = ys))])] := by
  refine PC_of (n := 26) Try.func50 rfl rfl rfl rfl (by simp) ?_
  refine W_seqK fun K1 h1 => ?_
  refine W_reg ?_
  simp [go_sem, ty4]
  repeat refine ⟨by first | omega | grind, ?_⟩
  refine h1 _ ?_
  clear h1 K1
  refine W_seqK fun K2 h2 => ?_
  refine W_seqK fun K3 h3 => ?_
  refine W_reg ?_
  simp [go_sem, ty3, ty4, ty41, ty54]
  repeat refine ⟨by first | omega | grind, ?_⟩
  refine h3 _ ?_
  clear h3 K3
  refine W_cond rfl (fun hb4 => ?_) fun hb4 => ?_
  · have hne : xs ≠ ys := ne_of_len (by simp at hb4; omega)
    refine W_seqK fun K5 h5 => ?_
    refine W_reg ?_
    simp [go_sem, ty4]
    repeat refine ⟨by first | omega | grind, ?_⟩
    refine h5 _ ?_
    clear h5 K5
    refine W_ret ?_
    simp [go_sem, hne]
  · have hl : xs.length = ys.length := by simp at hb4; omega
    clear hb4
    refine W_skip ?_
    repeat refine ⟨by first | omega | grind, ?_⟩
    refine h2 _ ?_
    clear h2 K2
    refine W_seqK fun K6 h6 => ?_
    refine W_seqK fun K7 h7 => ?_
    refine W_reg ?_
    simp [go_sem, ty3]
    repeat refine ⟨by first | omega | grind, ?_⟩
    refine h7 _ ?_
    clear h7 K7
    refine W_block ?_
    refine W_loopI (α := Nat) (fun i => ({ env := [(0, true, .l (.ref 0 [] 5 0 (xs.length))), (1, true, .l (.ref 1 [] 5 0 (ys.length))), (5, true, .l (.t (.int .i64 (i))))], box := [], row := [(0, ⟨.ro, 5, enc eEvent xs⟩), (1, ⟨.ro, 5, enc eEvent ys⟩)], nxt := 2, sav := [] } : St)) (fun i => i ≤ xs.length ∧ xs.take i = ys.take i) (fun i => xs.length - i) 0 ?_ ?_ ?_
    · exact Sub.of_neat [0, 1, 5] [0, 1] [] 2 (by decide) (by simp [go_sem])
    · simp
    rintro i hinv
    obtain ⟨hi, htk⟩ := hinv
    refine W_seqK fun K9 h9 => ?_
    refine W_seqK fun K10 h10 => ?_
    refine W_reg ?_
    simp [go_sem, ty3, ty4, ty41, ty54]
    repeat refine ⟨by first | omega | grind, ?_⟩
    refine h10 _ ?_
    clear h10 K10
    refine W_cond rfl (fun hb11 => ?_) fun hb11 => ?_
    · have hlt : i < xs.length := by simpa using hb11
      have hlt2 : i < ys.length := hl ▸ hlt
      clear hb11
      refine W_skip ?_
      repeat refine ⟨by first | omega | grind, ?_⟩
      refine h9 _ ?_
      clear h9 K9
      refine W_seqK fun K12 h12 => ?_
      refine W_block ?_
      refine W_seqK fun K13 h13 => ?_
      refine W_drawT true mixed (by decide +kernel) ?_
      simp [go_sem, ty3, ty4, ty41, ty54, fk54, hlt, hlt2]
      repeat refine ⟨by first | omega | grind, ?_⟩
      refine h13 _ ?_
      clear h13 K13
      refine W_cond rfl (fun hb14 => ?_) fun hb14 => ?_
      · have hne : xs ≠ ys := ne_of_get hlt hlt2 (by simp [hlt, hlt2, GEvent.ext_iff] at hb14 ⊢; grind)
        refine W_seqK fun K15 h15 => ?_
        refine W_reg ?_
        simp [go_sem, ty4]
        repeat refine ⟨by first | omega | grind, ?_⟩
        refine h15 _ ?_
        clear h15 K15
        refine W_ret ?_
        simp [go_sem, hne]
      · have he : xs[i] = ys[i] := by simp [hlt, hlt2, GEvent.ext_iff] at hb14 ⊢; grind
        clear hb14
        refine W_skip ?_
        repeat refine ⟨by first | omega | grind, ?_⟩
        refine h12 _ ?_
        clear h12 K12
        refine W_reg ?_
        simp [go_sem, ty3]
        refine ⟨i + 1, ?_, ?_, ?_⟩
        · exact Sub.of_neat [0, 1, 5] [0, 1] [] 2 (by decide) (by simp [go_sem, wrap_succ (show i < 9223372036854775807 by omega)])
        · exact ⟨hlt, take_succ_eq htk hlt hlt2 he⟩
        · omega
    · obtain rfl : i = xs.length := by simp at hb11; omega
      have hxy : xs = ys := eq_of_take hl htk
      clear hb11
      refine W_exit ?_
      simp [go_sem]
      repeat refine ⟨by first | omega | grind, ?_⟩
      refine h6 _ ?_
      clear h9 K9 h6 K6
      refine W_seqK fun K16 h16 => ?_
      refine W_reg ?_
      simp [go_sem, ty4]
      repeat refine ⟨by first | omega | grind, ?_⟩
      refine h16 _ ?_
      clear h16 K16
      refine W_ret ?_
      simp [go_sem, hxy]
end Go.Tw
