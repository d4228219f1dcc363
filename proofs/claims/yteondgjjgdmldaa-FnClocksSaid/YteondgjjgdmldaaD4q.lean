/- Walks of functions: spec.l20DrawClocks, spec.DrawClockJoin, spec.DrawClockWithin, laws.sameInts, laws.FnClocks -/
import Derived.Test.YteondgjjgdmldaaD4p
import Derived.Test.YteondgjjgdmldaaD4n
set_option linter.unusedSimpArgs false
set_option linter.unusedVariables false
set_option linter.unnecessarySimpa false
namespace Go.Tw
open Go.Proofs

set_option maxRecDepth 100000 in
set_option maxHeartbeats 4000000 in
theorem pe_spec_l20DrawClocks (code : List Int) (hcs : code.length ≤ 1048576) : PE Try.prog 84 [(false, [.sl 1 (enc eU code)])] (fun (x : List Int × List Int) => x.1.length ≤ 3 ∧ x.2.length ≤ 4) (fun (x : List Int × List Int) => [(false, [.sl 1 (enc eI x.1)]), (false, [.sl 1 (enc eI x.2)])]) := by
  refine PE_of (n := 36) Try.func84 rfl rfl rfl rfl (by simp) ?_
  refine W_seqK fun K1 h1 => ?_
  refine W_reg ?_
  simp [go_sem, ty3, ty24]
  first | refine h1 _ ?_ | refine ⟨by omega, h1 _ ?_⟩ | refine ⟨by omega, by omega, h1 _ ?_⟩ | (repeat (refine ⟨by first | omega | grind, ?_⟩)); refine h1 _ ?_
  clear h1 K1
  refine W_seqK fun K2 h2 => ?_
  refine W_reg ?_
  simp [go_sem, ty5, ty22]
  refine callG_true (by simp) (CallW_new (pnew_spec_l1New code hcs) rfl (by simp [go_sem]) rfl fun g3 => ?_)
  simp [go_sem]
  first | refine h2 _ ?_ | refine ⟨by omega, h2 _ ?_⟩ | refine ⟨by omega, by omega, h2 _ ?_⟩ | (repeat (refine ⟨by first | omega | grind, ?_⟩)); refine h2 _ ?_
  clear h2 K2
  refine W_seqK fun K4 h4 => ?_
  refine W_reg ?_
  simp [go_sem, ty3, ty24]
  first | refine h4 _ ?_ | refine ⟨by omega, h4 _ ?_⟩ | refine ⟨by omega, by omega, h4 _ ?_⟩ | (repeat (refine ⟨by first | omega | grind, ?_⟩)); refine h4 _ ?_
  clear h4 K4
  refine W_seqK fun K5 h5 => ?_
  refine W_seqK fun K6 h6 => ?_
  refine W_reg ?_
  simp [go_sem, ty3]
  first | refine h6 _ ?_ | refine ⟨by omega, h6 _ ?_⟩ | refine ⟨by omega, by omega, h6 _ ?_⟩ | (repeat (refine ⟨by first | omega | grind, ?_⟩)); refine h6 _ ?_
  clear h6 K6
  refine W_block ?_
  refine W_loopI (α := Nat × Int × Int × List Int × List Int) (fun p => ({ env := [(4, true, .l (.ptr 1 0)), (5, true, .l (.ref 40 [] 1 0 ((p.2.2.2.1).length))), (6, true, .l (.ref 41 [] 1 0 ((p.2.2.2.2).length))), (7, true, .l (.t (.int .i64 (p.1))))], box := [(1, [.ref 0 [] 1 0 code.length, .t (.int .i64 p.2.1), .t (.int .i64 p.2.2.1)])], row := [(0, ⟨.ro, 1, enc eU code⟩), (40, ⟨.own, 1, enc eI p.2.2.2.1⟩), (41, ⟨.own, 1, enc eI p.2.2.2.2⟩)], nxt := 61, sav := [] } : St)) (fun p => p.1 ≤ 3 ∧ 0 ≤ p.2.1 ∧ p.2.2.2.1.length = p.1 ∧ p.2.2.2.2.length = p.1) (fun p => 3 - p.1) (0, 0, g3, [], []) ?_ ?_ ?_
  · exact (Sub.nilRow (t := 5) (nm := 40) (z := 1) (by rfl) (by rfl)).trans ((Sub.nilRow (t := 6) (nm := 41) (z := 1) (by rfl) (by rfl)).trans (Sub.of_neat [4, 5, 6, 7] [0, 40, 41] [1] 61 (by decide) (by simp [go_sem, enc_nil])))
  · exact ⟨Nat.zero_le _, (Int.le_refl 0), rfl, rfl⟩
  rintro p hinv
  obtain ⟨hp1, hp2, hp3, hp4⟩ := hinv
  refine W_seqK fun K8 h8 => ?_
  refine W_seqK fun K9 h9 => ?_
  refine W_reg ?_
  simp [go_sem, ty3]
  refine callG_true (by simp) (CallW_draw (pd_spec_l1Below code hcs 3) rfl rfl (by simp [go_sem]) hp2 (by simp [go_sem]) _ (fun _ => rfl) rfl ?_)
  rintro i10 g10 hi10 x10 hq10
  try dsimp only at hq10
  simp [go_sem, ty3, ty4]
  first | refine h9 _ ?_ | refine ⟨by omega, h9 _ ?_⟩ | refine ⟨by omega, by omega, h9 _ ?_⟩ | (repeat (refine ⟨by first | omega | grind, ?_⟩)); refine h9 _ ?_
  clear h9 K9
  refine W_cond rfl (fun hb11 => ?_) fun hb11 => ?_
  · have hlt : p.1 < 3 := by simp at hb11; rw [wrap_ok (by omega) (by omega)] at hb11; omega
    clear hb11
    refine W_skip ?_
    first | refine h8 _ ?_ | refine ⟨by omega, h8 _ ?_⟩ | refine ⟨by omega, by omega, h8 _ ?_⟩ | (repeat (refine ⟨by first | omega | grind, ?_⟩)); refine h8 _ ?_
    clear h8 K8
    refine W_seqK fun K12 h12 => ?_
    refine W_block ?_
    refine W_seqK fun K13 h13 => ?_
    refine W_reg ?_
    simp [go_sem, ty3, ty24]
    refine callG_true (by simp) (CallW_draw (pd_spec_l1Below code hcs 3) rfl rfl (by simp [go_sem]) hi10 (by simp [go_sem]) _ (fun _ => rfl) rfl ?_)
    rintro i14 g14 hi14 x14 hq14
    try dsimp only at hq14
    simp [go_sem, ty3, ty24]
    first | refine h13 _ ?_ | refine ⟨by omega, h13 _ ?_⟩ | refine ⟨by omega, by omega, h13 _ ?_⟩ | (repeat (refine ⟨by first | omega | grind, ?_⟩)); refine h13 _ ?_
    clear h13 K13
    refine W_reg ?_
    simp [go_sem, ty3, ty24]
    refine callG_true (by simp) (CallW_draw (pd_spec_l1Below code hcs 3) rfl rfl (by simp [go_sem]) hi14 (by simp [go_sem]) _ (fun _ => rfl) rfl ?_)
    rintro i15 g15 hi15 x15 hq15
    try dsimp only at hq15
    simp [go_sem, ty3, ty24]
    first | refine h12 _ ?_ | refine ⟨by omega, h12 _ ?_⟩ | refine ⟨by omega, by omega, h12 _ ?_⟩ | (repeat (refine ⟨by first | omega | grind, ?_⟩)); refine h12 _ ?_
    clear h12 K12
    refine W_reg ?_
    simp [go_sem, ty3]
    refine ⟨p.1 + 1, i15, g15, (p.2.2.2.1 ++ [x14]), (p.2.2.2.2 ++ [x15]), ?_, ?_, ?_⟩
    · exact (Sub.swp_row 64 40 rfl).trans ((Sub.swp_row 67 41 rfl).trans (Sub.of_neat [4, 5, 6, 7] [0, 40, 41] [1] 61 (by decide) (by simp [go_sem, wrap_succ (show p.1 < 9223372036854775807 by omega)])))
    · exact ⟨by omega, by omega, by simp; omega, by simp; omega⟩
    · first | omega | (simp only; omega)
  · clear hb11
    refine W_exit ?_
    simp [go_sem]
    first | refine h5 _ ?_ | refine ⟨by omega, h5 _ ?_⟩ | refine ⟨by omega, by omega, h5 _ ?_⟩ | (repeat (refine ⟨by first | omega | grind, ?_⟩)); refine h5 _ ?_
    clear h8 K8 h5 K5
    refine W_seqK fun K16 h16 => ?_
    refine W_seqK fun K17 h17 => ?_
    refine W_reg ?_
    simp [go_sem, ty3, ty4]
    refine callG_true (by simp) (CallW_draw (pd_spec_l1Once code hcs 8) rfl rfl (by simp [go_sem]) hi10 (by simp [go_sem]) _ (fun _ => rfl) rfl ?_)
    rintro i18 g18 hi18 b18 hq18
    simp [go_sem]
    first | refine h17 _ ?_ | refine ⟨by omega, h17 _ ?_⟩ | refine ⟨by omega, by omega, h17 _ ?_⟩ | (repeat (refine ⟨by first | omega | grind, ?_⟩)); refine h17 _ ?_
    clear h17 K17
    refine W_cond rfl (fun hb19 => ?_) fun hb19 => ?_
    · clear hb19
      refine W_reg ?_
      simp [go_sem, ty3, ty24]
      first | refine h16 _ ?_ | refine ⟨by omega, h16 _ ?_⟩ | refine ⟨by omega, by omega, h16 _ ?_⟩ | (repeat (refine ⟨by first | omega | grind, ?_⟩)); refine h16 _ ?_
      clear h16 K16
      refine W_seqK fun K20 h20 => ?_
      refine W_reg ?_
      simp [go_sem, ty3, ty24]
      first | refine h20 _ ?_ | refine ⟨by omega, h20 _ ?_⟩ | refine ⟨by omega, by omega, h20 _ ?_⟩ | (repeat (refine ⟨by first | omega | grind, ?_⟩)); refine h20 _ ?_
      clear h20 K20
      refine W_ret ?_
      refine OutE_in (⟨p.2.2.2.1, (p.2.2.2.2 ++ [1])⟩) (by dsimp only; constructor <;> first | omega | (simp; omega)) ?_
      simp [go_sem]
    · clear hb19
      refine W_skip ?_
      first | refine h16 _ ?_ | refine ⟨by omega, h16 _ ?_⟩ | refine ⟨by omega, by omega, h16 _ ?_⟩ | (repeat (refine ⟨by first | omega | grind, ?_⟩)); refine h16 _ ?_
      clear h16 K16
      refine W_seqK fun K21 h21 => ?_
      refine W_reg ?_
      simp [go_sem, ty3, ty24]
      first | refine h21 _ ?_ | refine ⟨by omega, h21 _ ?_⟩ | refine ⟨by omega, by omega, h21 _ ?_⟩ | (repeat (refine ⟨by first | omega | grind, ?_⟩)); refine h21 _ ?_
      clear h21 K21
      refine W_ret ?_
      refine OutE_in (⟨p.2.2.2.1, p.2.2.2.2⟩) (by dsimp only; constructor <;> first | omega | (simp; omega)) ?_
      simp [go_sem]

set_option maxRecDepth 100000 in
set_option maxHeartbeats 4000000 in
theorem pe_spec_DrawClockJoin (code : List Int) (hcs : code.length ≤ 1048576) : PE Try.prog 24 [(false, [.sl 1 (enc eU code)])] (fun (x : List Int × List Int) => x.1.length ≤ 3 ∧ x.2.length ≤ 4) (fun (x : List Int × List Int) => [(false, [.sl 1 (enc eI x.1)]), (false, [.sl 1 (enc eI x.2)])]) := by
  refine PE_of (n := 13) Try.func24 rfl rfl rfl rfl (by simp) ?_
  refine W_seqK fun K1 h1 => ?_
  refine W_reg ?_
  simp [go_sem, ty3, ty24]
  first | refine h1 _ ?_ | refine ⟨by omega, h1 _ ?_⟩ | refine ⟨by omega, by omega, h1 _ ?_⟩ | (repeat (refine ⟨by first | omega | grind, ?_⟩)); refine h1 _ ?_
  clear h1 K1
  refine W_seqK fun K2 h2 => ?_
  refine W_reg ?_
  simp [go_sem, ty5, ty22]
  refine callG_true (by simp) (CallW_E (pe_spec_l20DrawClocks code (by first | omega | (simp; done) | (simp; omega))) (by simp [go_sem]) _ (fun _ => rfl) rfl ?_)
  rintro ⟨a3, b3⟩ hq3
  try dsimp only at hq3
  simp [go_sem, ty3, ty24]
  first | refine h2 _ ?_ | refine ⟨by omega, h2 _ ?_⟩ | refine ⟨by omega, by omega, h2 _ ?_⟩ | (repeat (refine ⟨by first | omega | grind, ?_⟩)); refine h2 _ ?_
  clear h2 K2
  refine W_seqK fun K4 h4 => ?_
  refine W_reg ?_
  simp [go_sem, ty3, ty24]
  first | refine h4 _ ?_ | refine ⟨by omega, h4 _ ?_⟩ | refine ⟨by omega, by omega, h4 _ ?_⟩ | (repeat (refine ⟨by first | omega | grind, ?_⟩)); refine h4 _ ?_
  clear h4 K4
  refine W_ret ?_
  refine OutE_in (⟨a3, b3⟩) (by dsimp only; exact hq3) ?_
  simp [go_sem]

set_option maxRecDepth 100000 in
set_option maxHeartbeats 4000000 in
theorem pe_spec_DrawClockWithin (code : List Int) (hcs : code.length ≤ 1048576) : PE Try.prog 26 [(false, [.sl 1 (enc eU code)])] (fun (x : List Int × List Int) => x.1.length ≤ 3 ∧ x.2.length ≤ 4) (fun (x : List Int × List Int) => [(false, [.sl 1 (enc eI x.1)]), (false, [.sl 1 (enc eI x.2)])]) := by
  refine PE_of (n := 13) Try.func26 rfl rfl rfl rfl (by simp) ?_
  refine W_seqK fun K1 h1 => ?_
  refine W_reg ?_
  simp [go_sem, ty3, ty24]
  first | refine h1 _ ?_ | refine ⟨by omega, h1 _ ?_⟩ | refine ⟨by omega, by omega, h1 _ ?_⟩ | (repeat (refine ⟨by first | omega | grind, ?_⟩)); refine h1 _ ?_
  clear h1 K1
  refine W_seqK fun K2 h2 => ?_
  refine W_reg ?_
  simp [go_sem, ty5, ty22]
  refine callG_true (by simp) (CallW_E (pe_spec_l20DrawClocks code (by first | omega | (simp; done) | (simp; omega))) (by simp [go_sem]) _ (fun _ => rfl) rfl ?_)
  rintro ⟨a3, b3⟩ hq3
  try dsimp only at hq3
  simp [go_sem, ty3, ty24]
  first | refine h2 _ ?_ | refine ⟨by omega, h2 _ ?_⟩ | refine ⟨by omega, by omega, h2 _ ?_⟩ | (repeat (refine ⟨by first | omega | grind, ?_⟩)); refine h2 _ ?_
  clear h2 K2
  refine W_seqK fun K4 h4 => ?_
  refine W_reg ?_
  simp [go_sem, ty3, ty24]
  first | refine h4 _ ?_ | refine ⟨by omega, h4 _ ?_⟩ | refine ⟨by omega, by omega, h4 _ ?_⟩ | (repeat (refine ⟨by first | omega | grind, ?_⟩)); refine h4 _ ?_
  clear h4 K4
  refine W_ret ?_
  refine OutE_in (⟨a3, b3⟩) (by dsimp only; exact hq3) ?_
  simp [go_sem]

set_option maxRecDepth 100000 in
set_option maxHeartbeats 4000000 in
theorem pc_laws_sameInts (xs : List Int) (ys : List Int) (hx : xs.length ≤ 17592186043904) : PC Try.prog 28 [(false, [.sl 1 (enc eI xs)]), (false, [.sl 1 (enc eI ys)])] [(false, [.bool (decide (xs = ys))])] := by
  refine PC_of (n := 26) Try.func28 rfl rfl rfl rfl (by simp) ?_
  refine W_seqK fun K1 h1 => ?_
  refine W_reg ?_
  simp [go_sem, ty4]
  first | refine h1 _ ?_ | refine ⟨by omega, h1 _ ?_⟩ | refine ⟨by omega, by omega, h1 _ ?_⟩ | (repeat (refine ⟨by first | omega | grind, ?_⟩)); refine h1 _ ?_
  clear h1 K1
  refine W_seqK fun K2 h2 => ?_
  refine W_seqK fun K3 h3 => ?_
  refine W_reg ?_
  simp [go_sem, ty3, ty4, ty24]
  first | refine h3 _ ?_ | refine ⟨by omega, h3 _ ?_⟩ | refine ⟨by omega, by omega, h3 _ ?_⟩ | (repeat (refine ⟨by first | omega | grind, ?_⟩)); refine h3 _ ?_
  clear h3 K3
  refine W_cond rfl (fun hb4 => ?_) fun hb4 => ?_
  · have hne : xs ≠ ys := ne_of_len (by simp at hb4; omega)
    refine W_seqK fun K5 h5 => ?_
    refine W_reg ?_
    simp [go_sem, ty4]
    first | refine h5 _ ?_ | refine ⟨by omega, h5 _ ?_⟩ | refine ⟨by omega, by omega, h5 _ ?_⟩ | (repeat (refine ⟨by first | omega | grind, ?_⟩)); refine h5 _ ?_
    clear h5 K5
    refine W_ret ?_
    simp [go_sem, hne]
  · have hl : xs.length = ys.length := by simp at hb4; omega
    clear hb4
    refine W_skip ?_
    first | refine h2 _ ?_ | refine ⟨by omega, h2 _ ?_⟩ | refine ⟨by omega, by omega, h2 _ ?_⟩ | (repeat (refine ⟨by first | omega | grind, ?_⟩)); refine h2 _ ?_
    clear h2 K2
    refine W_seqK fun K6 h6 => ?_
    refine W_seqK fun K7 h7 => ?_
    refine W_reg ?_
    simp [go_sem, ty3]
    first | refine h7 _ ?_ | refine ⟨by omega, h7 _ ?_⟩ | refine ⟨by omega, by omega, h7 _ ?_⟩ | (repeat (refine ⟨by first | omega | grind, ?_⟩)); refine h7 _ ?_
    clear h7 K7
    refine W_block ?_
    refine W_loopI (α := Nat) (fun i => ({ env := [(0, true, .l (.ref 0 [] 1 0 (xs.length))), (1, true, .l (.ref 1 [] 1 0 (ys.length))), (5, true, .l (.t (.int .i64 (i))))], box := [], row := [(0, ⟨.ro, 1, enc eI xs⟩), (1, ⟨.ro, 1, enc eI ys⟩)], nxt := 2, sav := [] } : St)) (fun i => i ≤ xs.length ∧ xs.take i = ys.take i) (fun i => xs.length - i) 0 ?_ ?_ ?_
    · exact Sub.of_neat [0, 1, 5] [0, 1] [] 2 (by decide) (by simp [go_sem])
    · simp
    rintro i hinv
    obtain ⟨hi, htk⟩ := hinv
    refine W_seqK fun K9 h9 => ?_
    refine W_seqK fun K10 h10 => ?_
    refine W_reg ?_
    simp [go_sem, ty3, ty4, ty24]
    first | refine h10 _ ?_ | refine ⟨by omega, h10 _ ?_⟩ | refine ⟨by omega, by omega, h10 _ ?_⟩ | (repeat (refine ⟨by first | omega | grind, ?_⟩)); refine h10 _ ?_
    clear h10 K10
    refine W_cond rfl (fun hb11 => ?_) fun hb11 => ?_
    · have hlt : i < xs.length := by simpa using hb11
      have hlt2 : i < ys.length := hl ▸ hlt
      clear hb11
      refine W_skip ?_
      first | refine h9 _ ?_ | refine ⟨by omega, h9 _ ?_⟩ | refine ⟨by omega, by omega, h9 _ ?_⟩ | (repeat (refine ⟨by first | omega | grind, ?_⟩)); refine h9 _ ?_
      clear h9 K9
      refine W_seqK fun K12 h12 => ?_
      refine W_block ?_
      refine W_seqK fun K13 h13 => ?_
      refine W_drawT true mixed (by decide +kernel) ?_
      simp [go_sem, ty3, ty4, ty24, hlt, hlt2]
      first | refine h13 _ ?_ | refine ⟨by omega, h13 _ ?_⟩ | refine ⟨by omega, by omega, h13 _ ?_⟩ | (repeat (refine ⟨by first | omega | grind, ?_⟩)); refine h13 _ ?_
      clear h13 K13
      refine W_cond rfl (fun hb14 => ?_) fun hb14 => ?_
      · have hne : xs ≠ ys := ne_of_get hlt hlt2 (by simpa [hlt, hlt2] using hb14)
        refine W_seqK fun K15 h15 => ?_
        refine W_reg ?_
        simp [go_sem, ty4]
        first | refine h15 _ ?_ | refine ⟨by omega, h15 _ ?_⟩ | refine ⟨by omega, by omega, h15 _ ?_⟩ | (repeat (refine ⟨by first | omega | grind, ?_⟩)); refine h15 _ ?_
        clear h15 K15
        refine W_ret ?_
        simp [go_sem, hne]
      · have he : xs[i] = ys[i] := by simpa [hlt, hlt2] using hb14
        clear hb14
        refine W_skip ?_
        first | refine h12 _ ?_ | refine ⟨by omega, h12 _ ?_⟩ | refine ⟨by omega, by omega, h12 _ ?_⟩ | (repeat (refine ⟨by first | omega | grind, ?_⟩)); refine h12 _ ?_
        clear h12 K12
        refine W_reg ?_
        simp [go_sem, ty3]
        refine ⟨i + 1, ?_, ?_, ?_⟩
        · exact Sub.of_neat [0, 1, 5] [0, 1] [] 2 (by decide) (by simp [go_sem, wrap_succ (show i < 9223372036854775807 by omega)])
        · exact ⟨hlt, take_succ_eq htk hlt hlt2 he⟩
        · omega
    · obtain rfl : i = xs.length := by simp at hb11; omega
      have hxy : xs = ys := eq_of_take hl htk
      clear hb11
      refine W_exit ?_
      simp [go_sem]
      first | refine h6 _ ?_ | refine ⟨by omega, h6 _ ?_⟩ | refine ⟨by omega, by omega, h6 _ ?_⟩ | (repeat (refine ⟨by first | omega | grind, ?_⟩)); refine h6 _ ?_
      clear h9 K9 h6 K6
      refine W_seqK fun K16 h16 => ?_
      refine W_reg ?_
      simp [go_sem, ty4]
      first | refine h16 _ ?_ | refine ⟨by omega, h16 _ ?_⟩ | refine ⟨by omega, by omega, h16 _ ?_⟩ | (repeat (refine ⟨by first | omega | grind, ?_⟩)); refine h16 _ ?_
      clear h16 K16
      refine W_ret ?_
      simp [go_sem, hxy]

set_option maxRecDepth 100000 in
set_option maxHeartbeats 4000000 in
theorem pc_laws_FnClocks (code : List Int)  : PC Try.prog 6 [(false, [.sl 1 (enc eU code)])] [(false, [.bool true])] := by
  refine PC_of (n := 87) Try.func6 rfl rfl rfl rfl (by simp) ?_
  refine W_seqK fun K1 h1 => ?_
  refine W_reg ?_
  simp [go_sem, ty4]
  first | refine h1 _ ?_ | refine ⟨by omega, h1 _ ?_⟩ | refine ⟨by omega, by omega, h1 _ ?_⟩ | (repeat (refine ⟨by first | omega | grind, ?_⟩)); refine h1 _ ?_
  clear h1 K1
  refine W_seqK fun K2 h2 => ?_
  refine W_seqK fun K3 h3 => ?_
  refine W_reg ?_
  simp [go_sem, ty4, ty5, ty22]
  refine callG_pc (fun hG => pc_laws_big code) (by first | (simp; done) | (simp [inR_iff]; done) | (simp [inR_iff]; grind) | grind) (fun hG => by simp [go_sem]) rfl rfl (by first | exact Or.inl rfl | exact Or.inr rfl) ?_
  simp [go_sem]
  first | refine h3 _ ?_ | refine ⟨by omega, h3 _ ?_⟩ | refine ⟨by omega, by omega, h3 _ ?_⟩ | (repeat (refine ⟨by first | omega | grind, ?_⟩)); refine h3 _ ?_
  clear h3 K3
  refine W_cond rfl (fun hb4 => ?_) fun hb4 => ?_
  · skip
    refine W_seqK fun K5 h5 => ?_
    refine W_reg ?_
    simp [go_sem, ty4]
    first | refine h5 _ ?_ | refine ⟨by omega, h5 _ ?_⟩ | refine ⟨by omega, by omega, h5 _ ?_⟩ | (repeat (refine ⟨by first | omega | grind, ?_⟩)); refine h5 _ ?_
    clear h5 K5
    refine W_ret ?_
    simp [go_sem]
  · first | have hs4 := szL_pos hb4 | simp at hb4
    refine W_skip ?_
    first | refine h2 _ ?_ | refine ⟨by omega, h2 _ ?_⟩ | refine ⟨by omega, by omega, h2 _ ?_⟩ | (repeat (refine ⟨by first | omega | grind, ?_⟩)); refine h2 _ ?_
    clear h2 K2
    refine W_seqK fun K6 h6 => ?_
    refine W_reg ?_
    simp [go_sem, ty5, ty22]
    refine callG_true (by simp) (CallW_E (pe_spec_DrawClockJoin code (by first | first | omega | (have hj := clockJoin_len a7 b7; omega) | (exact Nat.le_trans (clockNew_len _) (by omega)) | (simp; done) | (simp; omega))) (by simp [go_sem]) _ (fun _ => rfl) rfl ?_)
    rintro ⟨a7, b7⟩ hq7
    try dsimp only at hq7
    simp [go_sem, ty3, ty24]
    first | refine h6 _ ?_ | refine ⟨by omega, h6 _ ?_⟩ | refine ⟨by omega, by omega, h6 _ ?_⟩ | (repeat (refine ⟨by first | omega | grind, ?_⟩)); refine h6 _ ?_
    clear h6 K6
    refine W_seqK fun K8 h8 => ?_
    refine W_reg ?_
    simp [go_sem, ty3, ty24]
    refine callG_pc (fun hG => pc_impl_ClockJoin a7 b7 (by first | omega | (have hj := clockJoin_len a7 b7; omega) | (exact Nat.le_trans (clockNew_len _) (by omega)))) (by first | (simp; done) | (simp [inR_iff]; done) | (simp [inR_iff]; grind) | grind) (fun hG => by simp [go_sem]) rfl rfl (by first | exact Or.inl rfl | exact Or.inr rfl) ?_
    simp [go_sem, ty3, ty24]
    first | refine h8 _ ?_ | refine ⟨by omega, h8 _ ?_⟩ | refine ⟨by omega, by omega, h8 _ ?_⟩ | (repeat (refine ⟨by first | omega | grind, ?_⟩)); refine h8 _ ?_
    clear h8 K8
    refine W_seqK fun K9 h9 => ?_
    refine W_reg ?_
    simp [go_sem, ty5, ty22]
    refine callG_true (by simp) (CallW_E (pe_spec_DrawClockWithin code (by first | first | omega | (have hj := clockJoin_len a7 b7; omega) | (exact Nat.le_trans (clockNew_len _) (by omega)) | (simp; done) | (simp; omega))) (by simp [go_sem]) _ (fun _ => rfl) rfl ?_)
    rintro ⟨a10, b10⟩ hq10
    try dsimp only at hq10
    simp [go_sem, ty3, ty24]
    first | refine h9 _ ?_ | refine ⟨by omega, h9 _ ?_⟩ | refine ⟨by omega, by omega, h9 _ ?_⟩ | (repeat (refine ⟨by first | omega | grind, ?_⟩)); refine h9 _ ?_
    clear h9 K9
    refine W_seqK fun K11 h11 => ?_
    refine W_reg ?_
    simp [go_sem, ty3, ty5, ty22]
    refine callG_true (by simp) (CallW_E (pe_spec_DrawClockNew code (by first | first | omega | (have hj := clockJoin_len a7 b7; omega) | (exact Nat.le_trans (clockNew_len _) (by omega)) | (simp; done) | (simp; omega))) (by simp [go_sem]) _ (fun _ => rfl) rfl ?_)
    rintro n12 hq12
    simp [go_sem, ty3]
    first | refine h11 _ ?_ | refine ⟨by omega, h11 _ ?_⟩ | refine ⟨by omega, by omega, h11 _ ?_⟩ | (repeat (refine ⟨by first | omega | grind, ?_⟩)); refine h11 _ ?_
    clear h11 K11
    refine W_seqK fun K13 h13 => ?_
    refine W_seqK fun K14 h14 => ?_
    refine W_reg ?_
    simp [go_sem, ty3, ty24]
    refine callG_pc (fun hG => pc_spec_ClockJoin a7 b7 (by first | omega | (have hj := clockJoin_len a7 b7; omega) | (exact Nat.le_trans (clockNew_len _) (by omega)))) (by first | (simp; done) | (simp [inR_iff]; done) | (simp [inR_iff]; grind) | grind) (fun hG => by simp [go_sem]) rfl rfl (by first | exact Or.inl rfl | exact Or.inr rfl) ?_
    simp [go_sem, ty3, ty4, ty24]
    refine callG_pc (fun hG => pc_laws_sameInts (clockJoin a7 b7) (clockJoin a7 b7) (by first | omega | (have hj := clockJoin_len a7 b7; omega) | (exact Nat.le_trans (clockNew_len _) (by omega)))) (by first | (simp; done) | (simp [inR_iff]; done) | (simp [inR_iff]; grind) | grind) (fun hG => by simp [go_sem]) rfl rfl (by first | exact Or.inl rfl | exact Or.inr rfl) ?_
    simp [go_sem, ty3, ty4, ty24]
    refine callG_pc (fun hG => pc_impl_ClockWithin a10 b10 (by first | omega | (have hj := clockJoin_len a7 b7; omega) | (exact Nat.le_trans (clockNew_len _) (by omega)))) (by first | (simp; done) | (simp [inR_iff]; done) | (simp [inR_iff]; grind) | grind) (fun hG => by simp [go_sem]) rfl rfl (by first | exact Or.inl rfl | exact Or.inr rfl) ?_
    simp [go_sem, ty3, ty4, ty24]
    refine callG_pc (fun hG => pc_spec_ClockWithin a10 b10 (by first | omega | (have hj := clockJoin_len a7 b7; omega) | (exact Nat.le_trans (clockNew_len _) (by omega)))) (by first | (simp; done) | (simp [inR_iff]; done) | (simp [inR_iff]; grind) | grind) (fun hG => by simp [go_sem]) rfl rfl (by first | exact Or.inl rfl | exact Or.inr rfl) ?_
    simp [go_sem, ty3, ty4, ty24]
    refine callG_pc (fun hG => pc_impl_ClockNew n12) (by first | (simp; done) | (simp [inR_iff]; done) | (simp [inR_iff]; grind) | grind) (fun hG => by simp [go_sem]) rfl rfl (by first | exact Or.inl rfl | exact Or.inr rfl) ?_
    simp [go_sem, ty3, ty24]
    refine callG_pc (fun hG => pc_spec_ClockNew n12) (by first | (simp; done) | (simp [inR_iff]; done) | (simp [inR_iff]; grind) | grind) (fun hG => by simp [go_sem]) rfl rfl (by first | exact Or.inl rfl | exact Or.inr rfl) ?_
    simp [go_sem, ty3, ty4, ty24]
    refine callG_pc (fun hG => pc_laws_sameInts (clockNew n12) (clockNew n12) (by first | omega | (have hj := clockJoin_len a7 b7; omega) | (exact Nat.le_trans (clockNew_len _) (by omega)))) (by first | (simp; done) | (simp [inR_iff]; done) | (simp [inR_iff]; grind) | grind) (fun hG => by simp [go_sem]) rfl rfl (by first | exact Or.inl rfl | exact Or.inr rfl) ?_
    simp [go_sem, ty4]
    first | refine h14 _ ?_ | refine ⟨by omega, h14 _ ?_⟩ | refine ⟨by omega, by omega, h14 _ ?_⟩ | (repeat (refine ⟨by first | omega | grind, ?_⟩)); refine h14 _ ?_
    clear h14 K14
    refine W_cond rfl (fun hb15 => by first | (simp at hb15; done) | (simp at hb15; omega)) fun hb15 => ?_
    clear hb15
    refine W_skip ?_
    first | refine h13 _ ?_ | refine ⟨by omega, h13 _ ?_⟩ | refine ⟨by omega, by omega, h13 _ ?_⟩ | (repeat (refine ⟨by first | omega | grind, ?_⟩)); refine h13 _ ?_
    clear h13 K13
    refine W_seqK fun K16 h16 => ?_
    refine W_seqK fun K17 h17 => ?_
    refine W_reg ?_
    simp [go_sem, ty3, ty4, ty24]
    first | refine h17 _ ?_ | refine ⟨by omega, h17 _ ?_⟩ | refine ⟨by omega, by omega, h17 _ ?_⟩ | (repeat (refine ⟨by first | omega | grind, ?_⟩)); refine h17 _ ?_
    clear h17 K17
    refine W_cond rfl (fun hb18 => ?_) fun hb18 => ?_
    · have hl : a7.length ≠ b7.length := by simp at hb18; omega
      have w1 := join_no hl
      have w2 := clockWithin_no hl
      clear hb18
      refine W_seqK fun K19 h19 => ?_
      refine W_reg ?_
      simp [go_sem, ty3, ty4, ty24, w1, w2]
      refine callG_pc (fun hG => pc_laws_sameInts (clockJoin a7 b7) a7 (by first | omega | (have hj := clockJoin_len a7 b7; omega) | (exact Nat.le_trans (clockNew_len _) (by omega)))) (by first | (simp; done) | (simp [inR_iff]; done) | (simp [inR_iff]; grind) | grind) (fun hG => by simp [go_sem, w1]) rfl rfl (by first | exact Or.inl rfl | exact Or.inr rfl) ?_
      simp [go_sem, ty3, ty4, ty24, w1, w2]
      refine callG_pc (fun hG => pc_impl_ClockWithin a7 b7 (by first | omega | (have hj := clockJoin_len a7 b7; omega) | (exact Nat.le_trans (clockNew_len _) (by omega)))) (by first | (simp; done) | (simp [inR_iff]; done) | (simp [inR_iff]; grind) | grind) (fun hG => by simp [go_sem]) rfl rfl (by first | exact Or.inl rfl | exact Or.inr rfl) ?_
      simp [go_sem, ty4, w1, w2]
      first | refine h19 _ ?_ | refine ⟨by omega, h19 _ ?_⟩ | refine ⟨by omega, by omega, h19 _ ?_⟩ | (repeat (refine ⟨by first | omega | grind, ?_⟩)); refine h19 _ ?_
      clear h19 K19
      refine W_ret ?_
      simp [go_sem, hb4, w1, w2]
    · have hl : a7.length = b7.length := by simp at hb18; omega
      have w1 := join_comm hl
      have w2 := within_l hl
      have w3 := within_r hl
      have w4 := within_eq hl
      clear hb18
      refine W_skip ?_
      first | refine h16 _ ?_ | refine ⟨by omega, h16 _ ?_⟩ | refine ⟨by omega, by omega, h16 _ ?_⟩ | (repeat (refine ⟨by first | omega | grind, ?_⟩)); refine h16 _ ?_
      clear h16 K16
      refine W_seqK fun K20 h20 => ?_
      refine W_reg ?_
      simp [go_sem, ty3, ty24, w1, w2, w3, w4]
      refine callG_pc (fun hG => pc_impl_ClockJoin b7 a7 (by first | omega | (have hj := clockJoin_len a7 b7; omega) | (exact Nat.le_trans (clockNew_len _) (by omega)))) (by first | (simp; done) | (simp [inR_iff]; done) | (simp [inR_iff]; grind) | grind) (fun hG => by simp [go_sem]) rfl rfl (by first | exact Or.inl rfl | exact Or.inr rfl) ?_
      simp [go_sem, ty3, ty4, ty24, w1, w2, w3, w4]
      refine callG_pc (fun hG => pc_laws_sameInts (clockJoin a7 b7) (clockJoin b7 a7) (by first | omega | (have hj := clockJoin_len a7 b7; omega) | (exact Nat.le_trans (clockNew_len _) (by omega)))) (by first | (simp; done) | (simp [inR_iff]; done) | (simp [inR_iff]; grind) | grind) (fun hG => by simp [go_sem, w1]) rfl rfl (by first | exact Or.inl rfl | exact Or.inr rfl) ?_
      simp [go_sem, ty3, ty4, ty24, w1, w2, w3, w4]
      refine callG_pc (fun hG => pc_impl_ClockWithin a7 (clockJoin a7 b7) (by first | omega | (have hj := clockJoin_len a7 b7; omega) | (exact Nat.le_trans (clockNew_len _) (by omega)))) (by first | (simp; done) | (simp [inR_iff]; done) | (simp [inR_iff]; grind) | grind) (fun hG => by simp [go_sem]) rfl rfl (by first | exact Or.inl rfl | exact Or.inr rfl) ?_
      simp [go_sem, ty3, ty4, ty24, w1, w2, w3, w4]
      refine callG_pc (fun hG => pc_impl_ClockWithin b7 (clockJoin a7 b7) (by first | omega | (have hj := clockJoin_len a7 b7; omega) | (exact Nat.le_trans (clockNew_len _) (by omega)))) (by first | (simp; done) | (simp [inR_iff]; done) | (simp [inR_iff]; grind) | grind) (fun hG => by simp [go_sem]) rfl rfl (by first | exact Or.inl rfl | exact Or.inr rfl) ?_
      simp [go_sem, ty3, ty4, ty24, w1, w2, w3, w4]
      refine callG_pc (fun hG => pc_impl_ClockWithin a7 b7 (by first | omega | (have hj := clockJoin_len a7 b7; omega) | (exact Nat.le_trans (clockNew_len _) (by omega)))) (by first | (simp; done) | (simp [inR_iff]; done) | (simp [inR_iff]; grind) | grind) (fun hG => by simp [go_sem]) rfl rfl (by first | exact Or.inl rfl | exact Or.inr rfl) ?_
      simp [go_sem, ty3, ty4, ty24, w1, w2, w3, w4]
      refine callG_pc (fun hG => pc_laws_sameInts (clockJoin a7 b7) b7 (by first | omega | (have hj := clockJoin_len a7 b7; omega) | (exact Nat.le_trans (clockNew_len _) (by omega)))) (by first | (simp; done) | (simp [inR_iff]; done) | (simp [inR_iff]; grind) | grind) (fun hG => by simp [go_sem]) rfl rfl (by first | exact Or.inl rfl | exact Or.inr rfl) ?_
      simp [go_sem, ty4, w1, w2, w3, w4]
      first | refine h20 _ ?_ | refine ⟨by omega, h20 _ ?_⟩ | refine ⟨by omega, by omega, h20 _ ?_⟩ | (repeat (refine ⟨by first | omega | grind, ?_⟩)); refine h20 _ ?_
      clear h20 K20
      refine W_ret ?_
      simp [go_sem, hb4, w1, w2, w3, w4]
end Go.Tw
