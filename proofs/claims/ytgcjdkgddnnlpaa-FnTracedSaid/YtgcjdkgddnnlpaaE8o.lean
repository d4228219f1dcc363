/- Walks of functions: spec.DrawFlatRun -/
import Derived.Test.YtgcjdkgddnnlpaaE8m
import Derived.Test.YtgcjdkgddnnlpaaE6c
set_option linter.unusedSimpArgs false
set_option linter.unusedVariables false
set_option linter.unnecessarySimpa false
namespace Go.Tw
open Go.Proofs

set_option maxRecDepth 100000 in
set_option maxHeartbeats 4000000 in
theorem pe_spec_DrawFlatRun (code : List Int) (hcs : code.length ≤ 1048576) : PE Try.prog 102 [(false, [.sl 1 (enc eU code)])] (fun (x : List Int × List GHart × List Int) => x.1.length ≤ 24 ∧ x.2.1.length ≤ 3 ∧ (∀ a ∈ x.2.1, a.regs.length ≤ 4) ∧ x.2.2.length ≤ 2001) (fun (x : List Int × List GHart × List Int) => [(false, [.sl 1 (enc eI x.1)]), (false, [.sl 3 (enc eHart x.2.1)]), (false, [.sl 1 (enc eI x.2.2)])]) := by
  refine PE_of (n := 49) Try.func102 rfl rfl rfl rfl (by simp) ?_
  refine W_seqK fun K1 h1 => ?_
  refine W_reg ?_
  simp [go_sem, ty3, ty22, ty61, ty73]
  repeat refine ⟨by first | omega | grind, ?_⟩
  refine h1 _ ?_
  clear h1 K1
  refine W_seqK fun K2 h2 => ?_
  refine W_reg ?_
  simp [go_sem, ty5, ty71]
  refine callG_true (by simp) (CallW_new (pnew_spec_l1New code hcs) rfl (by simp [go_sem]) rfl fun g3 => ?_)
  simp [go_sem]
  repeat refine ⟨by first | omega | grind, ?_⟩
  refine h2 _ ?_
  clear h2 K2
  refine W_seqK fun K4 h4 => ?_
  refine W_reg ?_
  simp [go_sem, ty3, ty22]
  refine callG_true (by simp) (CallW_draw (pd_spec_l9DrawMem code hcs ) rfl rfl (by simp [go_sem]) (Int.le_refl 0) (by simp [go_sem]) _ (fun _ => rfl) rfl ?_)
  rintro i5 g5 hi5 xs5 hq5
  try dsimp only at hq5
  simp [go_sem, ty3, ty22]
  repeat refine ⟨by first | omega | grind, ?_⟩
  refine h4 _ ?_
  clear h4 K4
  refine W_seqK fun K6 h6 => ?_
  refine W_reg ?_
  simp [go_sem, ty61, ty73]
  repeat refine ⟨by first | omega | grind, ?_⟩
  refine h6 _ ?_
  clear h6 K6
  refine W_seqK fun K7 h7 => ?_
  refine W_seqK fun K8 h8 => ?_
  refine W_reg ?_
  simp [go_sem, ty3]
  repeat refine ⟨by first | omega | grind, ?_⟩
  refine h8 _ ?_
  clear h8 K8
  refine W_block ?_
  refine W_loopI (α := Nat × Int × Int × List (GHart)) (fun p => ({ env := [(5, true, .l (.ptr 1 0)), (6, true, .l (.ref 2 [] 1 0 (xs5).length)), (7, true, .l (.ref 40 [] 3 0 ((p.2.2.2).length))), (8, true, .l (.t (.int .i64 (p.1))))], box := [(1, [.ref 0 [] 1 0 code.length, .t (.int .i64 p.2.1), .t (.int .i64 p.2.2.1)])], row := [(0, ⟨.ro, 1, enc eU code⟩), (2, ⟨.own, 1, enc eI xs5⟩), (40, ⟨.own, 3, enc eHart p.2.2.2⟩)], nxt := 60, sav := [] } : St)) (fun p => p.1 ≤ 3 ∧ 0 ≤ p.2.1 ∧ p.2.2.2.length = p.1 ∧ ∀ a ∈ p.2.2.2, a.regs.length ≤ 4) (fun p => 3 - p.1) (0, i5, g5, []) ?_ ?_ ?_
  · exact (Sub.nilRow (t := 7) (nm := 40) (z := 3) (by rfl) (by rfl)).trans (Sub.of_neat [5, 6, 7, 8] [0, 2, 40] [1] 60 (by decide) (by simp [go_sem, enc_nil]))
  · exact ⟨Nat.zero_le _, hi5, rfl, fun a ha => absurd ha List.not_mem_nil⟩
  rintro p hinv
  obtain ⟨hp1, hp2, hp3, hp4⟩ := hinv
  refine W_seqK fun K10 h10 => ?_
  refine W_seqK fun K11 h11 => ?_
  refine W_reg ?_
  simp [go_sem, ty3]
  refine callG_true (by simp) (CallW_draw (pd_spec_l1Below code hcs 3) rfl rfl (by simp [go_sem]) hp2 (by simp [go_sem]) _ (fun _ => rfl) rfl ?_)
  rintro i12 g12 hi12 x12 hq12
  try dsimp only at hq12
  simp [go_sem, ty3, ty4]
  repeat refine ⟨by first | omega | grind, ?_⟩
  refine h11 _ ?_
  clear h11 K11
  refine W_cond rfl (fun hb13 => ?_) fun hb13 => ?_
  · have hlt : p.1 < 3 := by simp at hb13; rw [wrap_ok (by omega) (by omega)] at hb13; omega
    clear hb13
    refine W_skip ?_
    repeat refine ⟨by first | omega | grind, ?_⟩
    refine h10 _ ?_
    clear h10 K10
    refine W_seqK fun K14 h14 => ?_
    refine W_block ?_
    refine W_reg ?_
    simp [go_sem, ty61, ty73]
    refine callG_true (by simp) (CallW_draw (pd_spec_l9DrawHart code hcs ) rfl rfl (by simp [go_sem]) hi12 (by simp [go_sem]) _ (fun _ => rfl) rfl ?_)
    rintro i15 g15 hi15 h15 hq15
    try dsimp only at hq15
    simp [go_sem, ty61, ty73]
    repeat refine ⟨by first | omega | grind, ?_⟩
    refine h14 _ ?_
    clear h14 K14
    refine W_reg ?_
    simp [go_sem, ty3]
    refine ⟨p.1 + 1, i15, g15, (p.2.2.2 ++ [h15]), ?_, ?_, ?_⟩
    · exact (Sub.swp_row 65 40 rfl).trans (Sub.of_neat [5, 6, 7, 8] [0, 2, 40] [1] 60 (by decide) (by simp [go_sem, wrap_succ (show p.1 < 9223372036854775807 by omega)]))
    · refine ⟨by omega, by omega, by simp; omega, fun a ha => ?_⟩
      rcases List.mem_append.1 ha with ha | ha
      · exact hp4 a ha
      · obtain rfl := List.mem_singleton.1 ha; first | trivial | omega | (simp [hartNew]; done) | grind
    · first | omega | (simp only; omega)
  · clear hb13
    refine W_exit ?_
    simp [go_sem]
    repeat refine ⟨by first | omega | grind, ?_⟩
    refine h7 _ ?_
    clear h10 K10 h7 K7
    refine W_seqK fun K16 h16 => ?_
    refine W_reg ?_
    simp [go_sem, ty3, ty22]
    repeat refine ⟨by first | omega | grind, ?_⟩
    refine h16 _ ?_
    clear h16 K16
    refine W_seqK fun K17 h17 => ?_
    refine W_seqK fun K18 h18 => ?_
    refine W_reg ?_
    simp [go_sem, ty3]
    repeat refine ⟨by first | omega | grind, ?_⟩
    refine h18 _ ?_
    clear h18 K18
    refine W_block ?_
    refine W_loopI (α := Nat × Int × Int × List (Int)) (fun q => ({ env := [(5, true, .l (.ptr 1 0)), (6, true, .l (.ref 2 [] 1 0 (xs5).length)), (7, true, .l (.ref 40 [] 3 0 (p.2.2.2).length)), (9, true, .l (.ref 41 [] 1 0 ((q.2.2.2).length))), (10, true, .l (.t (.int .i64 (q.1))))], box := [(1, [.ref 0 [] 1 0 code.length, .t (.int .i64 q.2.1), .t (.int .i64 q.2.2.1)])], row := [(0, ⟨.ro, 1, enc eU code⟩), (2, ⟨.own, 1, enc eI xs5⟩), (40, ⟨.own, 3, enc eHart p.2.2.2⟩), (41, ⟨.own, 1, enc eI q.2.2.2⟩)], nxt := 61, sav := [] } : St)) (fun q => q.1 ≤ 39 ∧ 0 ≤ q.2.1 ∧ q.2.2.2.length = q.1) (fun q => 39 - q.1) (0, i12, g12, []) ?_ ?_ ?_
    · exact (Sub.nilRow (t := 9) (nm := 41) (z := 1) (by rfl) (by rfl)).trans (Sub.of_neat [5, 6, 7, 9, 10] [0, 2, 40, 41] [1] 61 (by decide) (by simp [go_sem, enc_nil]))
    · exact ⟨Nat.zero_le _, hi12, rfl⟩
    rintro q hinv
    obtain ⟨hq1, hq2, hq3⟩ := hinv
    refine W_seqK fun K20 h20 => ?_
    refine W_seqK fun K21 h21 => ?_
    refine W_reg ?_
    simp [go_sem, ty3]
    refine callG_true (by simp) (CallW_draw (pd_spec_l1Below code hcs 40) rfl rfl (by simp [go_sem]) hq2 (by simp [go_sem]) _ (fun _ => rfl) rfl ?_)
    rintro i22 g22 hi22 x22 hq22
    try dsimp only at hq22
    simp [go_sem, ty3, ty4]
    repeat refine ⟨by first | omega | grind, ?_⟩
    refine h21 _ ?_
    clear h21 K21
    refine W_cond rfl (fun hb23 => ?_) fun hb23 => ?_
    · have hlt : q.1 < 39 := by simp at hb23; omega
      clear hb23
      refine W_skip ?_
      repeat refine ⟨by first | omega | grind, ?_⟩
      refine h20 _ ?_
      clear h20 K20
      refine W_seqK fun K24 h24 => ?_
      refine W_block ?_
      refine W_reg ?_
      simp [go_sem, ty3, ty22]
      refine callG_true (by simp) (CallW_draw (pd_spec_l1Below code hcs 4) rfl rfl (by simp [go_sem]) hi22 (by simp [go_sem]) _ (fun _ => rfl) rfl ?_)
      rintro i25 g25 hi25 x25 hq25
      try dsimp only at hq25
      simp [go_sem, ty3, ty22]
      repeat refine ⟨by first | omega | grind, ?_⟩
      refine h24 _ ?_
      clear h24 K24
      refine W_reg ?_
      simp [go_sem, ty3]
      refine ⟨q.1 + 1, i25, g25, (q.2.2.2 ++ [x25]), ?_, ?_, ?_⟩
      · exact (Sub.swp_row 64 41 rfl).trans (Sub.of_neat [5, 6, 7, 9, 10] [0, 2, 40, 41] [1] 61 (by decide) (by simp [go_sem, wrap_succ (show q.1 < 9223372036854775807 by omega)]))
      · exact ⟨by omega, by omega, by simp; omega⟩
      · first | omega | (simp only; omega)
    · clear hb23
      refine W_exit ?_
      simp [go_sem]
      repeat refine ⟨by first | omega | grind, ?_⟩
      refine h17 _ ?_
      clear h20 K20 h17 K17
      refine W_seqK fun K26 h26 => ?_
      refine W_seqK fun K27 h27 => ?_
      refine W_reg ?_
      simp [go_sem, ty3, ty4]
      refine callG_true (by simp) (CallW_draw (pd_spec_l1Once code hcs 60) rfl rfl (by simp [go_sem]) hi22 (by simp [go_sem]) _ (fun _ => rfl) rfl ?_)
      rintro i28 g28 hi28 b28 hq28
      simp [go_sem]
      repeat refine ⟨by first | omega | grind, ?_⟩
      refine h27 _ ?_
      clear h27 K27
      refine W_cond rfl (fun hb29 => ?_) fun hb29 => ?_
      · clear hb29
        refine W_reg ?_
        simp [go_sem, ty3]
        refine callG_true (by simp) (CallW_draw (pd_spec_l1Below code hcs 2) rfl rfl (by simp [go_sem]) hi28 (by simp [go_sem]) _ (fun _ => rfl) rfl ?_)
        rintro i30 g30 hi30 x30 hq30
        try dsimp only at hq30
        have hw : IntKind.wrap .i64 (2000 + x30) = 2000 + x30 := wrap_ok (by omega) (by omega)
        simp [go_sem, ty3, ty22, hw]
        repeat refine ⟨by first | omega | grind, ?_⟩
        refine h26 _ ?_
        clear h26 K26
        refine W_seqK fun K31 h31 => ?_
        refine W_reg ?_
        simp [go_sem, ty3, ty22, ty61, ty73]
        repeat refine ⟨by first | omega | grind, ?_⟩
        refine h31 _ ?_
        clear h31 K31
        refine W_ret ?_
        refine OutE_in (⟨xs5, p.2.2.2, (List.replicate ((IntKind.wrap .i64 (2000 + x30))).toNat 0)⟩) (by dsimp only; refine ⟨by omega, by omega, hp4, ?_⟩; first | omega | (simp; omega) | (simp [hw]; omega)) ?_
        simp [go_sem, hw]
      · clear hb29
        refine W_skip ?_
        repeat refine ⟨by first | omega | grind, ?_⟩
        refine h26 _ ?_
        clear h26 K26
        refine W_seqK fun K32 h32 => ?_
        refine W_reg ?_
        simp [go_sem, ty3, ty22, ty61, ty73]
        repeat refine ⟨by first | omega | grind, ?_⟩
        refine h32 _ ?_
        clear h32 K32
        refine W_ret ?_
        refine OutE_in (⟨xs5, p.2.2.2, q.2.2.2⟩) (by dsimp only; refine ⟨by omega, by omega, hp4, ?_⟩; first | omega | (simp; omega) | (simp [hw]; omega)) ?_
        simp [go_sem]
end Go.Tw
