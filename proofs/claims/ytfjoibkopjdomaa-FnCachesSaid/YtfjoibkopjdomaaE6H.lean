/- Walks of functions: spec.l1DrawList, spec.l3DrawRight, spec.l3Draw -/
import Derived.Test.YtfjoibkopjdomaaE6c
import Derived.Test.YtfjoibkopjdomaaBaseF
set_option linter.unusedSimpArgs false
set_option linter.unusedVariables false
set_option linter.unnecessarySimpa false
namespace Go.Tw
open Go.Proofs

set_option maxRecDepth 100000 in
set_option maxHeartbeats 4000000 in
theorem pd_spec_l1DrawList (cs : List Int) (hcs : cs.length ≤ 1048576)   : PD Try.prog 211 (enc eU cs) [] (fun (x : List Int) => x.length = 4) (fun (x : List Int) => [(false, [.sl 1 (enc eI x)])]) := by
  refine PD_of (n := 17) Try.func211 rfl rfl rfl rfl (by simp) fun a0 ci ch hci => ?_
  refine W_seqK fun K1 h1 => ?_
  refine W_reg ?_
  simp [go_sem, ty3, ty24]
  first | refine h1 _ ?_ | refine ⟨by omega, h1 _ ?_⟩ | refine ⟨by omega, by omega, h1 _ ?_⟩ | (repeat (refine ⟨by first | omega | grind, ?_⟩)); refine h1 _ ?_
  clear h1 K1
  refine W_seqK fun K2 h2 => ?_
  refine W_reg ?_
  simp [go_sem, ty3, ty24]
  first | refine h2 _ ?_ | refine ⟨by omega, h2 _ ?_⟩ | refine ⟨by omega, by omega, h2 _ ?_⟩ | (repeat (refine ⟨by first | omega | grind, ?_⟩)); refine h2 _ ?_
  clear h2 K2
  refine W_seqK fun K3 h3 => ?_
  refine W_seqK fun K4 h4 => ?_
  refine W_reg ?_
  simp [go_sem, ty3]
  first | refine h4 _ ?_ | refine ⟨by omega, h4 _ ?_⟩ | refine ⟨by omega, by omega, h4 _ ?_⟩ | (repeat (refine ⟨by first | omega | grind, ?_⟩)); refine h4 _ ?_
  clear h4 K4
  refine W_block ?_
  refine W_loopI (α := Nat × Int × Int × List (Int)) (fun p => ({ env := [(0, true, .l (.ptr 0 0)), (3, true, .l (.ref 40 [] 1 0 ((p.2.2.2).length))), (4, true, .l (.t (.int .i64 (p.1))))], box := [(0, [.ref 0 [] 1 0 cs.length, .t (.int .i64 p.2.1), .t (.int .i64 p.2.2.1)])], row := [(0, ⟨.ro, 1, enc eU cs⟩), (40, ⟨.own, 1, enc eI p.2.2.2⟩)], nxt := 60, sav := [([(0, true, .l (.ptr 0 0)), (1, true, .l (.ref 0 [] 1 0 cs.length))], a0)] } : St)) (fun p => p.1 ≤ 4 ∧ 0 ≤ p.2.1 ∧ p.2.2.2.length = p.1) (fun p => 4 - p.1) (0, ci, ch, []) ?_ ?_ ?_
  · exact (Sub.nilRow (t := 3) (nm := 40) (z := 1) (by rfl) (by rfl)).trans (Sub.of_neat [0, 3, 4] [0, 40] [0] 60 (by decide) (by simp [go_sem, enc_nil]))
  · exact ⟨Nat.zero_le _, hci, rfl⟩
  rintro p hinv
  obtain ⟨hp1, hp2, hp3⟩ := hinv
  refine W_seqK fun K6 h6 => ?_
  refine W_seqK fun K7 h7 => ?_
  refine W_reg ?_
  simp [go_sem, ty3, ty4]
  first | refine h7 _ ?_ | refine ⟨by omega, h7 _ ?_⟩ | refine ⟨by omega, by omega, h7 _ ?_⟩ | (repeat (refine ⟨by first | omega | grind, ?_⟩)); refine h7 _ ?_
  clear h7 K7
  refine W_cond rfl (fun hb8 => ?_) fun hb8 => ?_
  · have hlt : p.1 < 4 := by simp at hb8; omega
    clear hb8
    refine W_skip ?_
    first | refine h6 _ ?_ | refine ⟨by omega, h6 _ ?_⟩ | refine ⟨by omega, by omega, h6 _ ?_⟩ | (repeat (refine ⟨by first | omega | grind, ?_⟩)); refine h6 _ ?_
    clear h6 K6
    refine W_seqK fun K9 h9 => ?_
    refine W_block ?_
    refine W_reg ?_
    simp [go_sem, ty3, ty24]
    refine callG_true (by simp) (CallW_draw (pd_spec_l1PickInt cs hcs ([0, 1, 5, 300, 65535]) (by first | omega | (simp; done) | (simp; omega)) (by first | omega | (simp; done) | (simp; omega))) rfl rfl (by simp [go_sem]) hp2 (by simp [go_sem, enc, eI]) _ (fun _ => rfl) rfl ?_)
    rintro i10 g10 hi10 x10 hq10
    try dsimp only at hq10
    simp [go_sem, ty3, ty24]
    first | refine h9 _ ?_ | refine ⟨by omega, h9 _ ?_⟩ | refine ⟨by omega, by omega, h9 _ ?_⟩ | (repeat (refine ⟨by first | omega | grind, ?_⟩)); refine h9 _ ?_
    clear h9 K9
    refine W_reg ?_
    simp [go_sem, ty3]
    refine ⟨p.1 + 1, i10, g10, (p.2.2.2 ++ [x10]), ?_, ?_, ?_⟩
    · exact (Sub.swp_row 63 40 rfl).trans (Sub.of_neat [0, 3, 4] [0, 40] [0] 60 (by decide) (by simp [go_sem, wrap_succ (show p.1 < 9223372036854775807 by omega)]))
    · exact ⟨by omega, by omega, by simp; omega⟩
    · first | omega | (simp only; omega)
  · have hil : p.1 = 4 := by simp at hb8; omega
    clear hb8
    refine W_exit ?_
    simp [go_sem]
    first | refine h3 _ ?_ | refine ⟨by omega, h3 _ ?_⟩ | refine ⟨by omega, by omega, h3 _ ?_⟩ | (repeat (refine ⟨by first | omega | grind, ?_⟩)); refine h3 _ ?_
    clear h6 K6 h3 K3
    refine W_seqK fun K11 h11 => ?_
    refine W_reg ?_
    simp [go_sem, ty3, ty24]
    first | refine h11 _ ?_ | refine ⟨by omega, h11 _ ?_⟩ | refine ⟨by omega, by omega, h11 _ ?_⟩ | (repeat (refine ⟨by first | omega | grind, ?_⟩)); refine h11 _ ?_
    clear h11 K11
    refine W_ret ?_
    refine OutD_in p.2.2.2 (by first | omega | (dsimp only; omega)) ⟨_, _, _, _, _, _, _, rfl, rfl, rfl, rfl, rfl, by simp [go_sem], hp2⟩ ?_
    simp [go_sem]

set_option maxRecDepth 100000 in
set_option maxHeartbeats 4000000 in
theorem pd_spec_l3DrawRight (cs : List Int) (hcs : cs.length ≤ 1048576)   : PD Try.prog 191 (enc eU cs) [] (fun (x : GFrame) => x.list.length ≤ 4) (fun (x : GFrame) => [(true, eFrame x)]) := by
  refine PD_of (n := 16) Try.func191 rfl rfl rfl rfl (by simp) fun a0 ci ch hci => ?_
  refine W_seqK fun K1 h1 => ?_
  refine W_reg ?_
  simp [go_sem, ty130]
  first | refine h1 _ ?_ | refine ⟨by omega, h1 _ ?_⟩ | refine ⟨by omega, by omega, h1 _ ?_⟩ | (repeat (refine ⟨by first | omega | grind, ?_⟩)); refine h1 _ ?_
  clear h1 K1
  refine W_seqK fun K2 h2 => ?_
  refine W_reg ?_
  simp [go_sem, ty3]
  refine callG_true (by simp) (CallW_draw (pd_spec_l1Below cs hcs 3) rfl rfl (by simp [go_sem]) hci (by simp [go_sem]) _ (fun _ => rfl) rfl ?_)
  rintro i3 g3 hi3 x3 hq3
  try dsimp only at hq3
  simp [go_sem, ty3, ty4]
  refine callG_true (by simp) (CallW_draw (pd_spec_l1Once cs hcs 3) rfl rfl (by simp [go_sem]) hi3 (by simp [go_sem]) _ (fun _ => rfl) rfl ?_)
  rintro i4 g4 hi4 b4 hq4
  simp [go_sem, ty130, fw130]
  first | refine h2 _ ?_ | refine ⟨by omega, h2 _ ?_⟩ | refine ⟨by omega, by omega, h2 _ ?_⟩ | (repeat (refine ⟨by first | omega | grind, ?_⟩)); refine h2 _ ?_
  clear h2 K2
  refine W_seqK fun K5 h5 => ?_
  refine W_seqK fun K6 h6 => ?_
  refine W_reg ?_
  simp [go_sem, ty3, ty4, ty130]
  first | refine h6 _ ?_ | refine ⟨by omega, h6 _ ?_⟩ | refine ⟨by omega, by omega, h6 _ ?_⟩ | (repeat (refine ⟨by first | omega | grind, ?_⟩)); refine h6 _ ?_
  clear h6 K6
  refine W_cond rfl (fun hb7 => ?_) fun hb7 => ?_
  · clear hb7
    refine W_reg ?_
    simp [go_sem, ty3, ty24]
    refine callG_true (by simp) (CallW_draw (pd_spec_l1DrawList cs hcs ) rfl rfl (by simp [go_sem]) hi4 (by simp [go_sem]) _ (fun _ => rfl) rfl ?_)
    rintro i8 g8 hi8 xs8 hq8
    try dsimp only at hq8
    simp [go_sem, ty3, ty24, ty130]
    first | refine h5 _ ?_ | refine ⟨by omega, h5 _ ?_⟩ | refine ⟨by omega, by omega, h5 _ ?_⟩ | (repeat (refine ⟨by first | omega | grind, ?_⟩)); refine h5 _ ?_
    clear h5 K5
    refine W_seqK fun K9 h9 => ?_
    refine W_reg ?_
    simp [go_sem, ty130]
    first | refine h9 _ ?_ | refine ⟨by omega, h9 _ ?_⟩ | refine ⟨by omega, by omega, h9 _ ?_⟩ | (repeat (refine ⟨by first | omega | grind, ?_⟩)); refine h9 _ ?_
    clear h9 K9
    refine W_ret ?_
    refine OutD_in (⟨x3, xs8, b4⟩ : GFrame) (by first | (dsimp only; omega) | (simp; done) | (simp; omega)) ⟨_, _, _, _, _, _, _, rfl, rfl, rfl, rfl, rfl, by simp [go_sem], hi8⟩ ?_
    simp [go_sem, ty130]
  · clear hb7
    refine W_skip ?_
    first | refine h5 _ ?_ | refine ⟨by omega, h5 _ ?_⟩ | refine ⟨by omega, by omega, h5 _ ?_⟩ | (repeat (refine ⟨by first | omega | grind, ?_⟩)); refine h5 _ ?_
    clear h5 K5
    refine W_seqK fun K10 h10 => ?_
    refine W_reg ?_
    simp [go_sem, ty130]
    first | refine h10 _ ?_ | refine ⟨by omega, h10 _ ?_⟩ | refine ⟨by omega, by omega, h10 _ ?_⟩ | (repeat (refine ⟨by first | omega | grind, ?_⟩)); refine h10 _ ?_
    clear h10 K10
    refine W_ret ?_
    refine OutD_in (⟨x3, [], b4⟩ : GFrame) (by first | (dsimp only; omega) | (simp; done) | (simp; omega)) ⟨_, _, _, _, _, _, _, rfl, rfl, rfl, rfl, rfl, by simp [go_sem], hi4⟩ ?_
    simp [go_sem, ty130]

set_option maxRecDepth 100000 in
set_option maxHeartbeats 4000000 in
theorem pd_spec_l3Draw (cs : List Int) (hcs : cs.length ≤ 1048576)   : PD Try.prog 160 (enc eU cs) [] (fun (x : GFrame) => x.few) (fun (x : GFrame) => [(true, eFrame x)]) := by
  refine PD_of (n := 25) Try.func160 rfl rfl rfl rfl (by simp) fun a0 ci ch hci => ?_
  refine W_seqK fun K1 h1 => ?_
  refine W_reg ?_
  simp [go_sem, ty130]
  first | refine h1 _ ?_ | refine ⟨by omega, h1 _ ?_⟩ | refine ⟨by omega, by omega, h1 _ ?_⟩ | (repeat (refine ⟨by first | omega | grind, ?_⟩)); refine h1 _ ?_
  clear h1 K1
  refine W_seqK fun K2 h2 => ?_
  refine W_reg ?_
  simp [go_sem, ty130]
  refine callG_true (by simp) (CallW_draw (pd_spec_l3DrawRight cs hcs ) rfl rfl (by simp [go_sem]) hci (by simp [go_sem]) _ (fun _ => rfl) rfl ?_)
  rintro i3 g3 hi3 f3 hq3
  try dsimp only at hq3
  simp [go_sem, ty130]
  first | refine h2 _ ?_ | refine ⟨by omega, h2 _ ?_⟩ | refine ⟨by omega, by omega, h2 _ ?_⟩ | (repeat (refine ⟨by first | omega | grind, ?_⟩)); refine h2 _ ?_
  clear h2 K2
  refine W_seqK fun K4 h4 => ?_
  refine W_seqK fun K5 h5 => ?_
  refine W_reg ?_
  simp [go_sem, ty3]
  refine callG_true (by simp) (CallW_draw (pd_spec_l1Below cs hcs 12) rfl rfl (by simp [go_sem]) hi3 (by simp [go_sem]) _ (fun _ => rfl) rfl ?_)
  rintro i6 g6 hi6 x6 hq6
  try dsimp only at hq6
  simp [go_sem]
  first | refine h5 _ ?_ | refine ⟨by omega, h5 _ ?_⟩ | refine ⟨by omega, by omega, h5 _ ?_⟩ | (repeat (refine ⟨by first | omega | grind, ?_⟩)); refine h5 _ ?_
  clear h5 K5
  refine W_block ?_
  refine W_seqK fun K7 h7 => ?_
  refine W_reg ?_
  simp [go_sem, ty3, ty4]
  first | refine h7 _ ?_ | refine ⟨by omega, h7 _ ?_⟩ | refine ⟨by omega, by omega, h7 _ ?_⟩ | (repeat (refine ⟨by first | omega | grind, ?_⟩)); refine h7 _ ?_
  clear h7 K7
  refine W_cond rfl (fun hb8 => ?_) fun hb8 => ?_
  · clear hb8
    refine W_reg ?_
    simp [go_sem, ty3]
    refine callG_true (by simp) (CallW_draw (pd_spec_l1Below cs hcs 5) rfl rfl (by simp [go_sem]) hi6 (by simp [go_sem]) _ (fun _ => rfl) rfl ?_)
    rintro i9 g9 hi9 x9 hq9
    try dsimp only at hq9
    simp [go_sem, ty3, ty130]
    first | refine h4 _ ?_ | refine ⟨by omega, h4 _ ?_⟩ | refine ⟨by omega, by omega, h4 _ ?_⟩ | (repeat (refine ⟨by first | omega | grind, ?_⟩)); refine h4 _ ?_
    clear h4 K4
    refine W_seqK fun K10 h10 => ?_
    refine W_reg ?_
    simp [go_sem, ty130]
    first | refine h10 _ ?_ | refine ⟨by omega, h10 _ ?_⟩ | refine ⟨by omega, by omega, h10 _ ?_⟩ | (repeat (refine ⟨by first | omega | grind, ?_⟩)); refine h10 _ ?_
    clear h10 K10
    refine W_ret ?_
    refine OutD_in (⟨(IntKind.wrap .i64 (x9 - 1)), f3.list, f3.asked⟩ : GFrame) (by unfold GFrame.few; first | omega | (dsimp only; omega) | (simp; done) | (simp; omega)) ⟨_, _, _, _, _, _, _, rfl, rfl, rfl, rfl, rfl, by simp [go_sem], hi9⟩ ?_
    simp [go_sem, ty130]
  · clear hb8
    refine W_seqK fun K11 h11 => ?_
    refine W_reg ?_
    simp [go_sem, ty3, ty4]
    first | refine h11 _ ?_ | refine ⟨by omega, h11 _ ?_⟩ | refine ⟨by omega, by omega, h11 _ ?_⟩ | (repeat (refine ⟨by first | omega | grind, ?_⟩)); refine h11 _ ?_
    clear h11 K11
    refine W_cond rfl (fun hb12 => ?_) fun hb12 => ?_
    · clear hb12
      refine W_reg ?_
      simp [go_sem, ty3, ty24, ty130]
      first | refine h4 _ ?_ | refine ⟨by omega, h4 _ ?_⟩ | refine ⟨by omega, by omega, h4 _ ?_⟩ | (repeat (refine ⟨by first | omega | grind, ?_⟩)); refine h4 _ ?_
      clear h4 K4
      refine W_seqK fun K13 h13 => ?_
      refine W_reg ?_
      simp [go_sem, ty130]
      first | refine h13 _ ?_ | refine ⟨by omega, h13 _ ?_⟩ | refine ⟨by omega, by omega, h13 _ ?_⟩ | (repeat (refine ⟨by first | omega | grind, ?_⟩)); refine h13 _ ?_
      clear h13 K13
      refine W_ret ?_
      refine OutD_in (⟨f3.state, (f3.list ++ [3]), f3.asked⟩ : GFrame) (by unfold GFrame.few; first | omega | (dsimp only; omega) | (simp; done) | (simp; omega)) ⟨_, _, _, _, _, _, _, rfl, rfl, rfl, rfl, rfl, by simp [go_sem], hi6⟩ ?_
      simp [go_sem, ty130]
    · clear hb12
      refine W_seqK fun K14 h14 => ?_
      refine W_reg ?_
      simp [go_sem, ty3, ty4]
      first | refine h14 _ ?_ | refine ⟨by omega, h14 _ ?_⟩ | refine ⟨by omega, by omega, h14 _ ?_⟩ | (repeat (refine ⟨by first | omega | grind, ?_⟩)); refine h14 _ ?_
      clear h14 K14
      refine W_cond rfl (fun hb15 => ?_) fun hb15 => ?_
      · clear hb15
        refine W_reg ?_
        simp [go_sem, ty3, ty24, ty130]
        first | refine h4 _ ?_ | refine ⟨by omega, h4 _ ?_⟩ | refine ⟨by omega, by omega, h4 _ ?_⟩ | (repeat (refine ⟨by first | omega | grind, ?_⟩)); refine h4 _ ?_
        clear h4 K4
        refine W_seqK fun K16 h16 => ?_
        refine W_reg ?_
        simp [go_sem, ty130]
        first | refine h16 _ ?_ | refine ⟨by omega, h16 _ ?_⟩ | refine ⟨by omega, by omega, h16 _ ?_⟩ | (repeat (refine ⟨by first | omega | grind, ?_⟩)); refine h16 _ ?_
        clear h16 K16
        refine W_ret ?_
        refine OutD_in (⟨f3.state, [], f3.asked⟩ : GFrame) (by unfold GFrame.few; first | omega | (dsimp only; omega) | (simp; done) | (simp; omega)) ⟨_, _, _, _, _, _, _, rfl, rfl, rfl, rfl, rfl, by simp [go_sem], hi6⟩ ?_
        simp [go_sem, ty130]
      · clear hb15
        refine W_skip ?_
        first | refine h4 _ ?_ | refine ⟨by omega, h4 _ ?_⟩ | refine ⟨by omega, by omega, h4 _ ?_⟩ | (repeat (refine ⟨by first | omega | grind, ?_⟩)); refine h4 _ ?_
        clear h4 K4
        refine W_seqK fun K17 h17 => ?_
        refine W_reg ?_
        simp [go_sem, ty130]
        first | refine h17 _ ?_ | refine ⟨by omega, h17 _ ?_⟩ | refine ⟨by omega, by omega, h17 _ ?_⟩ | (repeat (refine ⟨by first | omega | grind, ?_⟩)); refine h17 _ ?_
        clear h17 K17
        refine W_ret ?_
        refine OutD_in f3 (by unfold GFrame.few; first | omega | (dsimp only; omega) | (simp; done) | (simp; omega)) ⟨_, _, _, _, _, _, _, rfl, rfl, rfl, rfl, rfl, by simp [go_sem], hi6⟩ ?_
        simp [go_sem, ty130]
end Go.Tw
