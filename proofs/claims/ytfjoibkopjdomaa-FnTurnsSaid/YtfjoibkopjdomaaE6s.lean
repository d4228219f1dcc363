/- Walks of functions: spec.l19DrawEvent, spec.DrawReadsOf, spec.DrawWritesOf, spec.DrawApart, spec.DrawTurnAt, laws.at -/
import Derived.Test.YtfjoibkopjdomaaE6b
import Derived.Test.YtfjoibkopjdomaaBaseF
set_option linter.unusedSimpArgs false
set_option linter.unusedVariables false
set_option linter.unnecessarySimpa false
namespace Go.Tw
open Go.Proofs

set_option maxRecDepth 100000 in
set_option maxHeartbeats 4000000 in
theorem pd_spec_l19DrawEvent (cs : List Int) (hcs : cs.length ≤ 1048576)   : PD Try.prog 102 (enc eU cs) [] (fun (x : GEvent) => True) (fun (x : GEvent) => [(true, eEvent x)]) := by
  refine PD_of (n := 39) Try.func102 rfl rfl rfl rfl (by simp) fun a0 ci ch hci => ?_
  refine W_seqK fun K1 h1 => ?_
  refine W_reg ?_
  simp [go_sem, ty45]
  first | refine h1 _ ?_ | refine ⟨by omega, h1 _ ?_⟩ | refine ⟨by omega, by omega, h1 _ ?_⟩ | (repeat (refine ⟨by first | omega | grind, ?_⟩)); refine h1 _ ?_
  clear h1 K1
  refine W_seqK fun K2 h2 => ?_
  refine W_reg ?_
  simp [go_sem, ty3]
  refine callG_true (by simp) (CallW_draw (pd_spec_l1Below cs hcs 3) rfl rfl (by simp [go_sem]) hci (by simp [go_sem]) _ (fun _ => rfl) rfl ?_)
  rintro i3 g3 hi3 x3 hq3
  try dsimp only at hq3
  simp [go_sem, ty3]
  refine callG_true (by simp) (CallW_draw (pd_spec_l1Below cs hcs 6) rfl rfl (by simp [go_sem]) hi3 (by simp [go_sem]) _ (fun _ => rfl) rfl ?_)
  rintro i4 g4 hi4 x4 hq4
  try dsimp only at hq4
  simp [go_sem, ty45, fw45]
  first | refine h2 _ ?_ | refine ⟨by omega, h2 _ ?_⟩ | refine ⟨by omega, by omega, h2 _ ?_⟩ | (repeat (refine ⟨by first | omega | grind, ?_⟩)); refine h2 _ ?_
  clear h2 K2
  refine W_seqK fun K5 h5 => ?_
  refine W_seqK fun K6 h6 => ?_
  refine W_reg ?_
  simp [go_sem, ty3]
  refine callG_true (by simp) (CallW_draw (pd_spec_l1Below cs hcs 4) rfl rfl (by simp [go_sem]) hi4 (by simp [go_sem]) _ (fun _ => rfl) rfl ?_)
  rintro i7 g7 hi7 x7 hq7
  try dsimp only at hq7
  simp [go_sem]
  first | refine h6 _ ?_ | refine ⟨by omega, h6 _ ?_⟩ | refine ⟨by omega, by omega, h6 _ ?_⟩ | (repeat (refine ⟨by first | omega | grind, ?_⟩)); refine h6 _ ?_
  clear h6 K6
  refine W_block ?_
  refine W_seqK fun K8 h8 => ?_
  refine W_reg ?_
  simp [go_sem, ty3, ty4]
  first | refine h8 _ ?_ | refine ⟨by omega, h8 _ ?_⟩ | refine ⟨by omega, by omega, h8 _ ?_⟩ | (repeat (refine ⟨by first | omega | grind, ?_⟩)); refine h8 _ ?_
  clear h8 K8
  refine W_cond rfl (fun hb9 => ?_) fun hb9 => ?_
  · clear hb9
    refine W_seqK fun K10 h10 => ?_
    refine W_reg ?_
    simp [go_sem, ty3]
    refine callG_true (by simp) (CallW_draw (pd_spec_l1Below cs hcs 6) rfl rfl (by simp [go_sem]) hi7 (by simp [go_sem]) _ (fun _ => rfl) rfl ?_)
    rintro i11 g11 hi11 x11 hq11
    try dsimp only at hq11
    simp [go_sem, ty3, ty45]
    first | refine h10 _ ?_ | refine ⟨by omega, h10 _ ?_⟩ | refine ⟨by omega, by omega, h10 _ ?_⟩ | (repeat (refine ⟨by first | omega | grind, ?_⟩)); refine h10 _ ?_
    clear h10 K10
    refine W_reg ?_
    simp [go_sem, ty3]
    refine callG_true (by simp) (CallW_draw (pd_spec_l1Below cs hcs 4) rfl rfl (by simp [go_sem]) hi11 (by simp [go_sem]) _ (fun _ => rfl) rfl ?_)
    rintro i12 g12 hi12 x12 hq12
    try dsimp only at hq12
    simp [go_sem, ty3, ty45]
    first | refine h5 _ ?_ | refine ⟨by omega, h5 _ ?_⟩ | refine ⟨by omega, by omega, h5 _ ?_⟩ | (repeat (refine ⟨by first | omega | grind, ?_⟩)); refine h5 _ ?_
    clear h5 K5
    refine W_seqK fun K13 h13 => ?_
    refine W_reg ?_
    simp [go_sem, ty45]
    first | refine h13 _ ?_ | refine ⟨by omega, h13 _ ?_⟩ | refine ⟨by omega, by omega, h13 _ ?_⟩ | (repeat (refine ⟨by first | omega | grind, ?_⟩)); refine h13 _ ?_
    clear h13 K13
    refine W_ret ?_
    refine OutD_in (⟨x3, x4, x11, x12, (-1)⟩ : GEvent) (trivial) ⟨_, _, _, _, _, _, _, rfl, rfl, rfl, rfl, rfl, by simp [go_sem], hi12⟩ ?_
    simp [go_sem, ty45]
  · clear hb9
    refine W_seqK fun K14 h14 => ?_
    refine W_reg ?_
    simp [go_sem, ty3, ty4]
    first | refine h14 _ ?_ | refine ⟨by omega, h14 _ ?_⟩ | refine ⟨by omega, by omega, h14 _ ?_⟩ | (repeat (refine ⟨by first | omega | grind, ?_⟩)); refine h14 _ ?_
    clear h14 K14
    refine W_cond rfl (fun hb15 => ?_) fun hb15 => ?_
    · clear hb15
      refine W_seqK fun K16 h16 => ?_
      refine W_reg ?_
      simp [go_sem, ty3]
      refine callG_true (by simp) (CallW_draw (pd_spec_l1Below cs hcs 6) rfl rfl (by simp [go_sem]) hi7 (by simp [go_sem]) _ (fun _ => rfl) rfl ?_)
      rintro i17 g17 hi17 x17 hq17
      try dsimp only at hq17
      simp [go_sem, ty3, ty45]
      first | refine h16 _ ?_ | refine ⟨by omega, h16 _ ?_⟩ | refine ⟨by omega, by omega, h16 _ ?_⟩ | (repeat (refine ⟨by first | omega | grind, ?_⟩)); refine h16 _ ?_
      clear h16 K16
      refine W_reg ?_
      simp [go_sem, ty3]
      refine callG_true (by simp) (CallW_draw (pd_spec_l1Below cs hcs 4) rfl rfl (by simp [go_sem]) hi17 (by simp [go_sem]) _ (fun _ => rfl) rfl ?_)
      rintro i18 g18 hi18 x18 hq18
      try dsimp only at hq18
      simp [go_sem, ty3, ty45]
      first | refine h5 _ ?_ | refine ⟨by omega, h5 _ ?_⟩ | refine ⟨by omega, by omega, h5 _ ?_⟩ | (repeat (refine ⟨by first | omega | grind, ?_⟩)); refine h5 _ ?_
      clear h5 K5
      refine W_seqK fun K19 h19 => ?_
      refine W_reg ?_
      simp [go_sem, ty45]
      first | refine h19 _ ?_ | refine ⟨by omega, h19 _ ?_⟩ | refine ⟨by omega, by omega, h19 _ ?_⟩ | (repeat (refine ⟨by first | omega | grind, ?_⟩)); refine h19 _ ?_
      clear h19 K19
      refine W_ret ?_
      refine OutD_in (⟨x3, x4, x17, (-1), x18⟩ : GEvent) (trivial) ⟨_, _, _, _, _, _, _, rfl, rfl, rfl, rfl, rfl, by simp [go_sem], hi18⟩ ?_
      simp [go_sem, ty45]
    · clear hb15
      refine W_seqK fun K20 h20 => ?_
      refine W_reg ?_
      simp [go_sem, ty3, ty4]
      first | refine h20 _ ?_ | refine ⟨by omega, h20 _ ?_⟩ | refine ⟨by omega, by omega, h20 _ ?_⟩ | (repeat (refine ⟨by first | omega | grind, ?_⟩)); refine h20 _ ?_
      clear h20 K20
      refine W_cond rfl (fun hb21 => ?_) fun hb21 => ?_
      · clear hb21
        refine W_seqK fun K22 h22 => ?_
        refine W_reg ?_
        simp [go_sem, ty3]
        refine callG_true (by simp) (CallW_draw (pd_spec_l1Below cs hcs 6) rfl rfl (by simp [go_sem]) hi7 (by simp [go_sem]) _ (fun _ => rfl) rfl ?_)
        rintro i23 g23 hi23 x23 hq23
        try dsimp only at hq23
        simp [go_sem, ty3, ty45]
        first | refine h22 _ ?_ | refine ⟨by omega, h22 _ ?_⟩ | refine ⟨by omega, by omega, h22 _ ?_⟩ | (repeat (refine ⟨by first | omega | grind, ?_⟩)); refine h22 _ ?_
        clear h22 K22
        refine W_seqK fun K24 h24 => ?_
        refine W_reg ?_
        simp [go_sem, ty3]
        refine callG_true (by simp) (CallW_draw (pd_spec_l1Below cs hcs 4) rfl rfl (by simp [go_sem]) hi23 (by simp [go_sem]) _ (fun _ => rfl) rfl ?_)
        rintro i25 g25 hi25 x25 hq25
        try dsimp only at hq25
        simp [go_sem, ty3, ty45]
        first | refine h24 _ ?_ | refine ⟨by omega, h24 _ ?_⟩ | refine ⟨by omega, by omega, h24 _ ?_⟩ | (repeat (refine ⟨by first | omega | grind, ?_⟩)); refine h24 _ ?_
        clear h24 K24
        refine W_reg ?_
        simp [go_sem, ty3]
        refine callG_true (by simp) (CallW_draw (pd_spec_l1Below cs hcs 4) rfl rfl (by simp [go_sem]) hi25 (by simp [go_sem]) _ (fun _ => rfl) rfl ?_)
        rintro i26 g26 hi26 x26 hq26
        try dsimp only at hq26
        simp [go_sem, ty3, ty45]
        first | refine h5 _ ?_ | refine ⟨by omega, h5 _ ?_⟩ | refine ⟨by omega, by omega, h5 _ ?_⟩ | (repeat (refine ⟨by first | omega | grind, ?_⟩)); refine h5 _ ?_
        clear h5 K5
        refine W_seqK fun K27 h27 => ?_
        refine W_reg ?_
        simp [go_sem, ty45]
        first | refine h27 _ ?_ | refine ⟨by omega, h27 _ ?_⟩ | refine ⟨by omega, by omega, h27 _ ?_⟩ | (repeat (refine ⟨by first | omega | grind, ?_⟩)); refine h27 _ ?_
        clear h27 K27
        refine W_ret ?_
        refine OutD_in (⟨x3, x4, x23, x25, x26⟩ : GEvent) (trivial) ⟨_, _, _, _, _, _, _, rfl, rfl, rfl, rfl, rfl, by simp [go_sem], hi26⟩ ?_
        simp [go_sem, ty45]
      · clear hb21
        refine W_skip ?_
        first | refine h5 _ ?_ | refine ⟨by omega, h5 _ ?_⟩ | refine ⟨by omega, by omega, h5 _ ?_⟩ | (repeat (refine ⟨by first | omega | grind, ?_⟩)); refine h5 _ ?_
        clear h5 K5
        refine W_seqK fun K28 h28 => ?_
        refine W_reg ?_
        simp [go_sem, ty45]
        first | refine h28 _ ?_ | refine ⟨by omega, h28 _ ?_⟩ | refine ⟨by omega, by omega, h28 _ ?_⟩ | (repeat (refine ⟨by first | omega | grind, ?_⟩)); refine h28 _ ?_
        clear h28 K28
        refine W_ret ?_
        refine OutD_in (⟨x3, x4, (-1), (-1), (-1)⟩ : GEvent) (trivial) ⟨_, _, _, _, _, _, _, rfl, rfl, rfl, rfl, rfl, by simp [go_sem], hi7⟩ ?_
        simp [go_sem, ty45]

set_option maxRecDepth 100000 in
set_option maxHeartbeats 4000000 in
theorem pe_spec_DrawReadsOf (code : List Int) (hcs : code.length ≤ 1048576) : PE Try.prog 30 [(false, [.sl 1 (enc eU code)])] (fun (x : GEvent) => True) (fun (x : GEvent) => [(true, eEvent x)]) := by
  refine PE_of (n := 6) Try.func30 rfl rfl rfl rfl (by simp) ?_
  refine W_seqK fun K1 h1 => ?_
  refine W_reg ?_
  simp [go_sem, ty45]
  first | refine h1 _ ?_ | refine ⟨by omega, h1 _ ?_⟩ | refine ⟨by omega, by omega, h1 _ ?_⟩ | (repeat (refine ⟨by first | omega | grind, ?_⟩)); refine h1 _ ?_
  clear h1 K1
  refine W_seqK fun K2 h2 => ?_
  refine W_reg ?_
  simp [go_sem, ty5, ty22]
  refine callG_true (by simp) (CallW_new (pnew_spec_l1New code hcs) rfl (by simp [go_sem]) rfl fun g3 => ?_)
  simp [go_sem, ty45]
  refine callG_true (by simp) (CallW_draw (pd_spec_l19DrawEvent code hcs ) rfl rfl (by simp [go_sem]) (Int.le_refl 0) (by simp [go_sem]) _ (fun _ => rfl) rfl ?_)
  rintro i4 g4 hi4 e4 hq4
  simp [go_sem, ty45]
  first | refine h2 _ ?_ | refine ⟨by omega, h2 _ ?_⟩ | refine ⟨by omega, by omega, h2 _ ?_⟩ | (repeat (refine ⟨by first | omega | grind, ?_⟩)); refine h2 _ ?_
  clear h2 K2
  refine W_ret ?_
  refine OutE_in e4 (trivial) ?_
  simp [go_sem, ty45]

set_option maxRecDepth 100000 in
set_option maxHeartbeats 4000000 in
theorem pe_spec_DrawWritesOf (code : List Int) (hcs : code.length ≤ 1048576) : PE Try.prog 31 [(false, [.sl 1 (enc eU code)])] (fun (x : GEvent) => True) (fun (x : GEvent) => [(true, eEvent x)]) := by
  refine PE_of (n := 6) Try.func31 rfl rfl rfl rfl (by simp) ?_
  refine W_seqK fun K1 h1 => ?_
  refine W_reg ?_
  simp [go_sem, ty45]
  first | refine h1 _ ?_ | refine ⟨by omega, h1 _ ?_⟩ | refine ⟨by omega, by omega, h1 _ ?_⟩ | (repeat (refine ⟨by first | omega | grind, ?_⟩)); refine h1 _ ?_
  clear h1 K1
  refine W_seqK fun K2 h2 => ?_
  refine W_reg ?_
  simp [go_sem, ty5, ty22]
  refine callG_true (by simp) (CallW_new (pnew_spec_l1New code hcs) rfl (by simp [go_sem]) rfl fun g3 => ?_)
  simp [go_sem, ty45]
  refine callG_true (by simp) (CallW_draw (pd_spec_l19DrawEvent code hcs ) rfl rfl (by simp [go_sem]) (Int.le_refl 0) (by simp [go_sem]) _ (fun _ => rfl) rfl ?_)
  rintro i4 g4 hi4 e4 hq4
  simp [go_sem, ty45]
  first | refine h2 _ ?_ | refine ⟨by omega, h2 _ ?_⟩ | refine ⟨by omega, by omega, h2 _ ?_⟩ | (repeat (refine ⟨by first | omega | grind, ?_⟩)); refine h2 _ ?_
  clear h2 K2
  refine W_ret ?_
  refine OutE_in e4 (trivial) ?_
  simp [go_sem, ty45]

set_option maxRecDepth 100000 in
set_option maxHeartbeats 4000000 in
theorem pe_spec_DrawApart (code : List Int) (hcs : code.length ≤ 1048576) : PE Try.prog 29 [(false, [.sl 1 (enc eU code)])] (fun (x : GEvent × GEvent) => True) (fun (x : GEvent × GEvent) => [(true, eEvent x.1), (true, eEvent x.2)]) := by
  refine PE_of (n := 13) Try.func29 rfl rfl rfl rfl (by simp) ?_
  refine W_seqK fun K1 h1 => ?_
  refine W_reg ?_
  simp [go_sem, ty45]
  first | refine h1 _ ?_ | refine ⟨by omega, h1 _ ?_⟩ | refine ⟨by omega, by omega, h1 _ ?_⟩ | (repeat (refine ⟨by first | omega | grind, ?_⟩)); refine h1 _ ?_
  clear h1 K1
  refine W_seqK fun K2 h2 => ?_
  refine W_reg ?_
  simp [go_sem, ty5, ty22]
  refine callG_true (by simp) (CallW_new (pnew_spec_l1New code hcs) rfl (by simp [go_sem]) rfl fun g3 => ?_)
  simp [go_sem]
  first | refine h2 _ ?_ | refine ⟨by omega, h2 _ ?_⟩ | refine ⟨by omega, by omega, h2 _ ?_⟩ | (repeat (refine ⟨by first | omega | grind, ?_⟩)); refine h2 _ ?_
  clear h2 K2
  refine W_seqK fun K4 h4 => ?_
  refine W_reg ?_
  simp [go_sem, ty45]
  refine callG_true (by simp) (CallW_draw (pd_spec_l19DrawEvent code hcs ) rfl rfl (by simp [go_sem]) (Int.le_refl 0) (by simp [go_sem]) _ (fun _ => rfl) rfl ?_)
  rintro i5 g5 hi5 e5 hq5
  simp [go_sem, ty45]
  first | refine h4 _ ?_ | refine ⟨by omega, h4 _ ?_⟩ | refine ⟨by omega, by omega, h4 _ ?_⟩ | (repeat (refine ⟨by first | omega | grind, ?_⟩)); refine h4 _ ?_
  clear h4 K4
  refine W_seqK fun K6 h6 => ?_
  refine W_drawS false (.op 1 (.fork 0 (.op 2 (.op 3 (.op 4 .nil))) 2 (.op 0 (.op 3 (.op 4 .nil))))) mixed (by decide +kernel) rfl ?_
  simp (config := {maxSteps := 10000000}) [go_sem]
  refine ⟨?_, ?_⟩
  · try simp (config := {maxSteps := 10000000}) [go_sem, ty45]
    refine callG_true (by simp) (CallW_draw (pd_spec_l19DrawEvent code hcs ) rfl rfl (by simp [go_sem]) hi5 (by simp [go_sem]) _ (fun _ => rfl) rfl ?_)
    rintro i7 g7 hi7 e7 hq7
    simp (config := {maxSteps := 10000000}) [go_sem, ty45]
    first | refine h6 _ ?_ | refine ⟨by omega, h6 _ ?_⟩ | refine ⟨by omega, by omega, h6 _ ?_⟩ | (repeat (refine ⟨by first | omega | grind, ?_⟩)); refine h6 _ ?_
    clear h6 K6
    refine W_ret ?_
    refine OutE_in (⟨e5, e7⟩) (trivial) ?_
    simp [go_sem, ty45]
  · try simp (config := {maxSteps := 10000000}) [go_sem, ty45]
    refine callG_true (by simp) (CallW_draw (pd_spec_l19DrawEvent code hcs ) rfl rfl (by simp [go_sem]) hi5 (by simp [go_sem]) _ (fun _ => rfl) rfl ?_)
    rintro i8 g8 hi8 e8 hq8
    simp (config := {maxSteps := 10000000}) [go_sem, ty45]
    first | refine h6 _ ?_ | refine ⟨by omega, h6 _ ?_⟩ | refine ⟨by omega, by omega, h6 _ ?_⟩ | (repeat (refine ⟨by first | omega | grind, ?_⟩)); refine h6 _ ?_
    clear h6 K6
    refine W_ret ?_
    refine OutE_in (⟨e5, e8⟩) (trivial) ?_
    simp [go_sem, ty45]

set_option maxRecDepth 100000 in
set_option maxHeartbeats 4000000 in
theorem pe_spec_DrawTurnAt (code : List Int) (hcs : code.length ≤ 1048576) : PE Try.prog 32 [(false, [.sl 1 (enc eU code)])] (fun (x : List Int × Int) => x.1.length ≤ 6) (fun (x : List Int × Int) => [(false, [.sl 1 (enc eI x.1)]), (false, [.int .i64 x.2])]) := by
  refine PE_of (n := 25) Try.func32 rfl rfl rfl rfl (by simp) ?_
  refine W_seqK fun K1 h1 => ?_
  refine W_reg ?_
  simp [go_sem, ty3, ty24]
  first | refine h1 _ ?_ | refine ⟨by omega, h1 _ ?_⟩ | refine ⟨by omega, by omega, h1 _ ?_⟩ | (repeat (refine ⟨by first | omega | grind, ?_⟩)); refine h1 _ ?_
  clear h1 K1
  refine W_seqK fun K2 h2 => ?_
  refine W_reg ?_
  simp [go_sem, ty5, ty22]
  refine callG_true (by simp) (CallW_new (pnew_spec_l1New code hcs) rfl (by simp [go_sem]) rfl fun g3 => ?_)
  simp [go_sem]
  first | refine h2 _ ?_ | refine ⟨by omega, h2 _ ?_⟩ | refine ⟨by omega, by omega, h2 _ ?_⟩ | (repeat (refine ⟨by first | omega | grind, ?_⟩)); refine h2 _ ?_
  clear h2 K2
  refine W_seqK fun K4 h4 => ?_
  refine W_reg ?_
  simp [go_sem, ty3, ty24]
  first | refine h4 _ ?_ | refine ⟨by omega, h4 _ ?_⟩ | refine ⟨by omega, by omega, h4 _ ?_⟩ | (repeat (refine ⟨by first | omega | grind, ?_⟩)); refine h4 _ ?_
  clear h4 K4
  refine W_seqK fun K5 h5 => ?_
  refine W_seqK fun K6 h6 => ?_
  refine W_reg ?_
  simp [go_sem, ty3]
  first | refine h6 _ ?_ | refine ⟨by omega, h6 _ ?_⟩ | refine ⟨by omega, by omega, h6 _ ?_⟩ | (repeat (refine ⟨by first | omega | grind, ?_⟩)); refine h6 _ ?_
  clear h6 K6
  refine W_block ?_
  refine W_loopI (α := Nat × Int × Int × List (Int)) (fun p => ({ env := [(4, true, .l (.ptr 1 0)), (5, true, .l (.ref 40 [] 1 0 ((p.2.2.2).length))), (6, true, .l (.t (.int .i64 (p.1))))], box := [(1, [.ref 0 [] 1 0 code.length, .t (.int .i64 p.2.1), .t (.int .i64 p.2.2.1)])], row := [(0, ⟨.ro, 1, enc eU code⟩), (40, ⟨.own, 1, enc eI p.2.2.2⟩)], nxt := 60, sav := [] } : St)) (fun p => p.1 ≤ 6 ∧ 0 ≤ p.2.1 ∧ p.2.2.2.length = p.1) (fun p => 6 - p.1) (0, 0, g3, []) ?_ ?_ ?_
  · exact (Sub.nilRow (t := 5) (nm := 40) (z := 1) (by rfl) (by rfl)).trans (Sub.of_neat [4, 5, 6] [0, 40] [1] 60 (by decide) (by simp [go_sem, enc_nil]))
  · exact ⟨Nat.zero_le _, (Int.le_refl 0), rfl⟩
  rintro p hinv
  obtain ⟨hp1, hp2, hp3⟩ := hinv
  refine W_seqK fun K8 h8 => ?_
  refine W_seqK fun K9 h9 => ?_
  refine W_reg ?_
  simp [go_sem, ty3]
  refine callG_true (by simp) (CallW_draw (pd_spec_l1Below code hcs 6) rfl rfl (by simp [go_sem]) hp2 (by simp [go_sem]) _ (fun _ => rfl) rfl ?_)
  rintro i10 g10 hi10 x10 hq10
  try dsimp only at hq10
  simp [go_sem, ty3, ty4]
  first | refine h9 _ ?_ | refine ⟨by omega, h9 _ ?_⟩ | refine ⟨by omega, by omega, h9 _ ?_⟩ | (repeat (refine ⟨by first | omega | grind, ?_⟩)); refine h9 _ ?_
  clear h9 K9
  refine W_cond rfl (fun hb11 => ?_) fun hb11 => ?_
  · have hlt : p.1 < 6 := by simp at hb11; omega
    clear hb11
    refine W_skip ?_
    first | refine h8 _ ?_ | refine ⟨by omega, h8 _ ?_⟩ | refine ⟨by omega, by omega, h8 _ ?_⟩ | (repeat (refine ⟨by first | omega | grind, ?_⟩)); refine h8 _ ?_
    clear h8 K8
    refine W_seqK fun K12 h12 => ?_
    refine W_block ?_
    refine W_reg ?_
    simp [go_sem, ty3, ty24]
    refine callG_true (by simp) (CallW_draw (pd_spec_l1Below code hcs 4) rfl rfl (by simp [go_sem]) hi10 (by simp [go_sem]) _ (fun _ => rfl) rfl ?_)
    rintro i13 g13 hi13 x13 hq13
    try dsimp only at hq13
    simp [go_sem, ty3, ty24]
    first | refine h12 _ ?_ | refine ⟨by omega, h12 _ ?_⟩ | refine ⟨by omega, by omega, h12 _ ?_⟩ | (repeat (refine ⟨by first | omega | grind, ?_⟩)); refine h12 _ ?_
    clear h12 K12
    refine W_reg ?_
    simp [go_sem, ty3]
    refine ⟨p.1 + 1, i13, g13, (p.2.2.2 ++ [x13]), ?_, ?_, ?_⟩
    · exact (Sub.swp_row 63 40 rfl).trans (Sub.of_neat [4, 5, 6] [0, 40] [1] 60 (by decide) (by simp [go_sem, wrap_succ (show p.1 < 9223372036854775807 by omega)]))
    · exact ⟨by omega, by omega, by simp; omega⟩
    · first | omega | (simp only; omega)
  · clear hb11
    refine W_exit ?_
    simp [go_sem]
    first | refine h5 _ ?_ | refine ⟨by omega, h5 _ ?_⟩ | refine ⟨by omega, by omega, h5 _ ?_⟩ | (repeat (refine ⟨by first | omega | grind, ?_⟩)); refine h5 _ ?_
    clear h8 K8 h5 K5
    refine W_seqK fun K14 h14 => ?_
    refine W_reg ?_
    simp [go_sem, ty3, ty24]
    refine callG_true (by simp) (CallW_draw (pd_spec_l1PickInt code hcs ([0, 1, 2, 4, (-1), 9223372036854775807]) (by first | omega | (simp; done) | (simp; omega)) (by first | omega | (simp; done) | (simp; omega))) rfl rfl (by simp [go_sem]) hi10 (by simp [go_sem, enc, eI]) _ (fun _ => rfl) rfl ?_)
    rintro i15 g15 hi15 x15 hq15
    try dsimp only at hq15
    simp [go_sem, ty3, ty24]
    first | refine h14 _ ?_ | refine ⟨by omega, h14 _ ?_⟩ | refine ⟨by omega, by omega, h14 _ ?_⟩ | (repeat (refine ⟨by first | omega | grind, ?_⟩)); refine h14 _ ?_
    clear h14 K14
    refine W_ret ?_
    refine OutE_in (⟨p.2.2.2, x15⟩) (by dsimp only; omega) ?_
    simp [go_sem]

set_option maxRecDepth 100000 in
set_option maxHeartbeats 4000000 in
theorem pc_laws_at (code : List Int) (i : Int) (hx : code.length ≤ 1048576) (h0 : 0 ≤ i) (h1 : i ≤ 1048576) (hu : ∀ a ∈ code, 0 ≤ a ∧ a ≤ 255) : PC Try.prog 24 [(false, [.sl 1 (enc eU code)]), (false, [.int .i64 i])] [(false, [.int .i64 (atC code i)])] := by
  refine PC_of (n := 20) Try.func24 rfl rfl rfl rfl (by simp) ?_
  refine W_seqK fun K1 h1 => ?_
  refine W_reg ?_
  simp [go_sem, ty3]
  first | refine h1 _ ?_ | refine ⟨by omega, h1 _ ?_⟩ | refine ⟨by omega, by omega, h1 _ ?_⟩ | (repeat (refine ⟨by first | omega | grind, ?_⟩)); refine h1 _ ?_
  clear h1 K1
  refine W_seqK fun K2 h2 => ?_
  refine W_seqK fun K3 h3 => ?_
  refine W_reg ?_
  simp [go_sem, ty3, ty4, ty5, ty22]
  first | refine h3 _ ?_ | refine ⟨by omega, h3 _ ?_⟩ | refine ⟨by omega, by omega, h3 _ ?_⟩ | (repeat (refine ⟨by first | omega | grind, ?_⟩)); refine h3 _ ?_
  clear h3 K3
  refine W_cond rfl (fun hb4 => ?_) fun hb4 => ?_
  · have hlt : i < code.length := by simpa using hb4
    have hlt2 : i.toNat < code.length := by omega
    have hu2 := hu _ (List.getElem_mem hlt2)
    have q : atC code i = code[i.toNat] := by unfold atC; rw [if_pos hlt, List.getD_eq_getElem?_getD, List.getElem?_eq_getElem hlt2]; rfl
    have hw : IntKind.wrap .i64 code[i.toNat] = code[i.toNat] := wrap_ok (by omega) (by omega)
    clear hb4
    refine W_seqK fun K5 h5 => ?_
    refine W_reg ?_
    simp [go_sem, ty3, ty5, ty22, h0, hlt, hlt2, hw]
    first | refine h5 _ ?_ | refine ⟨by omega, h5 _ ?_⟩ | refine ⟨by omega, by omega, h5 _ ?_⟩ | (repeat (refine ⟨by first | omega | grind, ?_⟩)); refine h5 _ ?_
    clear h5 K5
    refine W_ret ?_
    simp [go_sem, q, hlt2]
  · have hge : ¬ i < code.length := by simp at hb4; omega
    have q : atC code i = (i * 7 + code.length) % 256 := if_neg hge
    have hw1 : IntKind.wrap .i64 (i * 7) = i * 7 := wrap_ok (by omega) (by omega)
    have hw2 : IntKind.wrap .i64 (i * 7 + code.length) = i * 7 + code.length := wrap_ok (by omega) (by omega)
    have hw3 : (i * 7 + (code.length : Int)).tmod 256 = (i * 7 + code.length) % 256 := tmod_pos (by omega)
    clear hb4
    refine W_skip ?_
    first | refine h2 _ ?_ | refine ⟨by omega, h2 _ ?_⟩ | refine ⟨by omega, by omega, h2 _ ?_⟩ | (repeat (refine ⟨by first | omega | grind, ?_⟩)); refine h2 _ ?_
    clear h2 K2
    refine W_seqK fun K6 h6 => ?_
    refine W_reg ?_
    simp [go_sem, ty3, ty5, ty22, hw1, hw2, hw3]
    first | refine h6 _ ?_ | refine ⟨by omega, h6 _ ?_⟩ | refine ⟨by omega, by omega, h6 _ ?_⟩ | (repeat (refine ⟨by first | omega | grind, ?_⟩)); refine h6 _ ?_
    clear h6 K6
    refine W_ret ?_
    simp [go_sem, q]
end Go.Tw
