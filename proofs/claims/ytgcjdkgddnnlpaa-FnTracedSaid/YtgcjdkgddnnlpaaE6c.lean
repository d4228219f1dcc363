/- Walks of functions: spec.l9Address, impl.address, spec.HartNew, impl.HartNew, spec.l9DrawHart -/
import Derived.Test.YtgcjdkgddnnlpaaE6b
set_option linter.unusedSimpArgs false
set_option linter.unusedVariables false
set_option linter.unnecessarySimpa false
namespace Go.Tw
open Go.Proofs

set_option maxRecDepth 100000 in
set_option maxHeartbeats 4000000 in
theorem pc_spec_l9Address (n : Int)  : PC Try.prog 120 [(false, [.int .i64 n])] [(false, [.int .i64 (addr n)])] := by
  refine PC_of (n := 11) Try.func120 rfl rfl rfl rfl (by simp) ?_
  refine W_seqK fun K1 h1 => ?_
  refine W_reg ?_
  simp [go_sem, ty3]
  repeat refine ⟨by first | omega | grind, ?_⟩
  refine h1 _ ?_
  clear h1 K1
  refine W_seqK fun K2 h2 => ?_
  refine W_reg ?_
  simp [go_sem, ty3]
  repeat refine ⟨by first | omega | grind, ?_⟩
  refine h2 _ ?_
  clear h2 K2
  refine W_seqK fun K3 h3 => ?_
  refine W_seqK fun K4 h4 => ?_
  refine W_reg ?_
  simp [go_sem, ty3, ty4]
  repeat refine ⟨by first | omega | grind, ?_⟩
  refine h4 _ ?_
  clear h4 K4
  refine W_cond rfl (fun hb5 => ?_) fun hb5 => ?_
  · have q := addr_spec_neg (n := n) (by simpa using hb5)
    refine W_seqK fun K6 h6 => ?_
    refine W_reg ?_
    simp [go_sem, ty3]
    repeat refine ⟨by first | omega | grind, ?_⟩
    refine h6 _ ?_
    clear h6 K6
    refine W_ret ?_
    simp [go_sem, q]
  · have q := addr_spec_pos (n := n) (by simpa using hb5)
    refine W_skip ?_
    repeat refine ⟨by first | omega | grind, ?_⟩
    refine h3 _ ?_
    clear h3 K3
    refine W_seqK fun K7 h7 => ?_
    refine W_reg ?_
    simp [go_sem, ty3]
    repeat refine ⟨by first | omega | grind, ?_⟩
    refine h7 _ ?_
    clear h7 K7
    refine W_ret ?_
    simp [go_sem, q]

set_option maxRecDepth 100000 in
set_option maxHeartbeats 4000000 in
theorem pc_impl_address (n : Int)  : PC Try.prog 123 [(false, [.int .i64 n])] [(false, [.int .i64 (addr n)])] := by
  refine PC_of (n := 7) Try.func123 rfl rfl rfl rfl (by simp) ?_
  refine W_seqK fun K1 h1 => ?_
  refine W_reg ?_
  simp [go_sem, ty3]
  repeat refine ⟨by first | omega | grind, ?_⟩
  refine h1 _ ?_
  clear h1 K1
  refine W_seqK fun K2 h2 => ?_
  refine W_reg ?_
  simp [go_sem, ty3]
  repeat refine ⟨by first | omega | grind, ?_⟩
  refine h2 _ ?_
  clear h2 K2
  refine W_ret ?_
  simp [go_sem, addr_impl]

set_option maxRecDepth 100000 in
set_option maxHeartbeats 4000000 in
theorem pc_spec_HartNew (pc : Int)  : PC Try.prog 60 [(false, [.int .i64 pc])] [(true, eHart (hartNew pc))] := by
  refine PC_of (n := 7) Try.func60 rfl rfl rfl rfl (by simp) ?_
  refine W_seqK fun K1 h1 => ?_
  refine W_reg ?_
  simp [go_sem, ty61]
  repeat refine ⟨by first | omega | grind, ?_⟩
  refine h1 _ ?_
  clear h1 K1
  refine W_seqK fun K2 h2 => ?_
  refine W_drawS true (.op 1 (.fork 0 (.op 2 (.op 3 (.op 4 .nil))) 2 (.op 0 (.op 3 (.op 4 .nil))))) mixed (by decide +kernel) rfl ?_
  simp (config := {maxSteps := 10000000}) [go_sem, ty3]
  refine ⟨?_, ?_⟩
  · try simp (config := {maxSteps := 10000000}) [go_sem, ty3, ty22]
    refine callG_pc (fun hG => pc_spec_l9Address pc) (by first | (simp; done) | (simp [inR_iff]; done) | (simp [inR_iff]; grind) | grind) (fun hG => by simp [go_sem]) rfl rfl (by first | exact Or.inl rfl | exact Or.inr rfl) ?_
    simp (config := {maxSteps := 10000000}) [go_sem, ty61, fw61]
    repeat refine ⟨by first | omega | grind, ?_⟩
    refine h2 _ ?_
    clear h2 K2
    refine W_ret ?_
    simp [go_sem, ty61, hartNew, enc]
  · try simp (config := {maxSteps := 10000000}) [go_sem, ty3, fw61]
    refine callG_pc (fun hG => pc_spec_l9Address pc) (by first | (simp; done) | (simp [inR_iff]; done) | (simp [inR_iff]; grind) | grind) (fun hG => by simp [go_sem]) rfl rfl (by first | exact Or.inl rfl | exact Or.inr rfl) ?_
    simp (config := {maxSteps := 10000000}) [go_sem, ty3, ty22, ty61, fw61]
    repeat refine ⟨by first | omega | grind, ?_⟩
    refine h2 _ ?_
    clear h2 K2
    refine W_ret ?_
    simp [go_sem, ty61, hartNew, enc]

set_option maxRecDepth 100000 in
set_option maxHeartbeats 4000000 in
theorem pc_impl_HartNew (pc : Int)  : PC Try.prog 64 [(false, [.int .i64 pc])] [(true, eHart (hartNew pc))] := by
  refine PC_of (n := 7) Try.func64 rfl rfl rfl rfl (by simp) ?_
  refine W_seqK fun K1 h1 => ?_
  refine W_reg ?_
  simp [go_sem, ty61]
  repeat refine ⟨by first | omega | grind, ?_⟩
  refine h1 _ ?_
  clear h1 K1
  refine W_seqK fun K2 h2 => ?_
  refine W_drawS true (.op 1 (.fork 0 (.op 2 (.op 3 (.op 4 .nil))) 2 (.op 0 (.op 3 (.op 4 .nil))))) mixed (by decide +kernel) rfl ?_
  simp (config := {maxSteps := 10000000}) [go_sem, ty3]
  refine ⟨?_, ?_⟩
  · try simp (config := {maxSteps := 10000000}) [go_sem, ty3, ty22]
    refine callG_pc (fun hG => pc_impl_address pc) (by first | (simp; done) | (simp [inR_iff]; done) | (simp [inR_iff]; grind) | grind) (fun hG => by simp [go_sem]) rfl rfl (by first | exact Or.inl rfl | exact Or.inr rfl) ?_
    simp (config := {maxSteps := 10000000}) [go_sem, ty61, fw61]
    repeat refine ⟨by first | omega | grind, ?_⟩
    refine h2 _ ?_
    clear h2 K2
    refine W_ret ?_
    simp [go_sem, ty61, hartNew, enc]
  · try simp (config := {maxSteps := 10000000}) [go_sem, ty3, fw61]
    refine callG_pc (fun hG => pc_impl_address pc) (by first | (simp; done) | (simp [inR_iff]; done) | (simp [inR_iff]; grind) | grind) (fun hG => by simp [go_sem]) rfl rfl (by first | exact Or.inl rfl | exact Or.inr rfl) ?_
    simp (config := {maxSteps := 10000000}) [go_sem, ty3, ty22, ty61, fw61]
    repeat refine ⟨by first | omega | grind, ?_⟩
    refine h2 _ ?_
    clear h2 K2
    refine W_ret ?_
    simp [go_sem, ty61, hartNew, enc]

set_option maxRecDepth 100000 in
set_option maxHeartbeats 4000000 in
theorem pd_spec_l9DrawHart (cs : List Int) (hcs : cs.length ≤ 1048576)   : PD Try.prog 110 (enc eU cs) [] (fun (x : GHart) => x.regs.length ≤ 4) (fun (x : GHart) => [(true, eHart x)]) := by
  refine PD_of (n := 48) Try.func110 rfl rfl rfl rfl (by simp) fun a0 ci ch hci => ?_
  refine W_seqK fun K1 h1 => ?_
  refine W_reg ?_
  simp [go_sem, ty61]
  repeat refine ⟨by first | omega | grind, ?_⟩
  refine h1 _ ?_
  clear h1 K1
  refine W_seqK fun K2 h2 => ?_
  refine W_reg ?_
  simp [go_sem, ty3]
  refine callG_true (by simp) (CallW_draw (pd_spec_l1Below cs hcs 20) rfl rfl (by simp [go_sem]) hci (by simp [go_sem]) _ (fun _ => rfl) rfl ?_)
  rintro i3 g3 hi3 x3 hq3
  try dsimp only at hq3
  simp [go_sem, ty3, ty61]
  refine callG_pc (fun hG => pc_spec_HartNew x3) (by first | (simp; done) | (simp [inR_iff]; done) | (simp [inR_iff]; grind) | grind) (fun hG => by simp [go_sem]) rfl rfl (by first | exact Or.inl rfl | exact Or.inr rfl) ?_
  simp [go_sem, ty61]
  repeat refine ⟨by first | omega | grind, ?_⟩
  refine h2 _ ?_
  clear h2 K2
  refine W_seqK fun K4 h4 => ?_
  refine W_seqK fun K5 h5 => ?_
  refine W_reg ?_
  simp [go_sem, ty3]
  repeat refine ⟨by first | omega | grind, ?_⟩
  refine h5 _ ?_
  clear h5 K5
  refine W_block ?_
  refine W_loopI (α := Nat × Int × Int × List Int) (fun p => ({ env := [(0, true, .l (.ptr 0 0)), (2, true, .l (.ptr 1 0)), (3, true, .l (.ptr 6 0)), (4, true, .l (.t (.int .i64 (p.1))))], box := [(0, [.ref 0 [] 1 0 cs.length, .t (.int .i64 p.2.1), .t (.int .i64 p.2.2.1)]), (6, [.ref 3 [] 1 0 p.2.2.2.length, .t (.int .i64 (addr x3)), .t (.int .i64 0)]), (1, [.nil, .t (.int .i64 0), .t (.int .i64 0)])], row := [(0, ⟨.ro, 1, enc eU cs⟩), (3, ⟨.own, 1, enc eI p.2.2.2⟩)], nxt := 60, sav := [([(0, true, .l (.ptr 0 0)), (1, true, .l (.ref 0 [] 1 0 cs.length))], a0)] } : St)) (fun p => p.1 ≤ 4 ∧ 0 ≤ p.2.1 ∧ p.2.2.2.length = 4) (fun p => 4 - p.1) (0, i3, g3, [0, 0, 0, 0]) ?_ ?_ ?_
  · exact Sub.of_neat [0, 2, 3, 4] [0, 3] [0, 6, 1] 60 (by decide) (by simp [go_sem, enc, hartNew])
  · exact ⟨by omega, by omega, rfl⟩
  rintro p hinv
  refine W_seqK fun K7 h7 => ?_
  refine W_seqK fun K8 h8 => ?_
  refine W_reg ?_
  simp [go_sem, ty3, ty4]
  repeat refine ⟨by first | omega | grind, ?_⟩
  refine h8 _ ?_
  clear h8 K8
  refine W_cond rfl (fun hb9 => ?_) fun hb9 => ?_
  · have hlt : p.1 < 4 := by simp at hb9; omega
    clear hb9
    refine W_skip ?_
    repeat refine ⟨by first | omega | grind, ?_⟩
    refine h7 _ ?_
    clear h7 K7
    refine W_seqK fun K10 h10 => ?_
    refine W_block ?_
    refine W_drawS false (.op 0 (.op 2 (.op 3 (.fork 1 (.op 4 (.op 5 (.op 6 (.op 7 .nil)))) 4 (.fork 1 (.op 5 (.op 6 (.op 7 .nil))) 5 (.op 1 (.op 6 (.op 7 .nil)))))))) mixed (by decide +kernel) rfl ?_
    simp (config := {maxSteps := 10000000}) [go_sem, ty3, ty61]
    refine ⟨?_, ?_⟩
    · try simp (config := {maxSteps := 10000000}) [go_sem, ty3, ty22]
      refine callG_true (by simp) (CallW_draw (pd_spec_l1PickInt cs hcs ([0, 1, 2, 20, 65535]) (by first | omega | (simp; done) | (simp; omega)) (by first | omega | (simp; done) | (simp; omega))) rfl rfl (by simp [go_sem]) hinv.2.1 (by simp [go_sem, enc, eI]) _ (fun _ => rfl) rfl ?_)
      rintro i11 g11 hi11 x11 hq11
      try dsimp only at hq11
      simp (config := {maxSteps := 10000000}) [go_sem, ty3, ty22]
      repeat refine ⟨by first | omega | grind, ?_⟩
      refine h10 _ ?_
      clear h10 K10
      refine W_reg ?_
      simp [go_sem, ty3]
      refine ⟨p.1 + 1, i11, g11, p.2.2.2.set p.1 x11, ?_, ?_, ?_⟩
      · exact Sub.of_neat [0, 2, 3, 4] [0, 3] [0, 6, 1] 60 (by decide) (by simp [go_sem, wrap_succ (show p.1 < 9223372036854775807 by omega)])
      · first | omega | (simp; omega) | grind
      · first | omega | (simp only; omega)
    · try simp (config := {maxSteps := 10000000}) [go_sem, ty3, ty22]
      refine ⟨?_, ?_⟩
      · try simp (config := {maxSteps := 10000000}) [go_sem, ty3, ty22]
        refine callG_true (by simp) (CallW_draw (pd_spec_l1PickInt cs hcs ([0, 1, 2, 20, 65535]) (by first | omega | (simp; done) | (simp; omega)) (by first | omega | (simp; done) | (simp; omega))) rfl rfl (by simp [go_sem]) hinv.2.1 (by simp [go_sem, enc, eI]) _ (fun _ => rfl) rfl ?_)
        rintro i12 g12 hi12 x12 hq12
        try dsimp only at hq12
        simp (config := {maxSteps := 10000000}) [go_sem, ty3, ty22]
        repeat refine ⟨by first | omega | grind, ?_⟩
        refine h10 _ ?_
        clear h10 K10
        refine W_reg ?_
        simp [go_sem, ty3]
        refine ⟨p.1 + 1, i12, g12, p.2.2.2.set p.1 x12, ?_, ?_, ?_⟩
        · exact Sub.of_neat [0, 2, 3, 4] [0, 3] [0, 6, 1] 60 (by decide) (by simp [go_sem, wrap_succ (show p.1 < 9223372036854775807 by omega)])
        · first | omega | (simp; omega) | grind
        · first | omega | (simp only; omega)
      · try simp (config := {maxSteps := 10000000}) [go_sem, ty3, ty22]
        refine callG_true (by simp) (CallW_draw (pd_spec_l1PickInt cs hcs ([0, 1, 2, 20, 65535]) (by first | omega | (simp; done) | (simp; omega)) (by first | omega | (simp; done) | (simp; omega))) rfl rfl (by simp [go_sem]) hinv.2.1 (by simp [go_sem, enc, eI]) _ (fun _ => rfl) rfl ?_)
        rintro i13 g13 hi13 x13 hq13
        try dsimp only at hq13
        simp (config := {maxSteps := 10000000}) [go_sem, ty3, ty22]
        repeat refine ⟨by first | omega | grind, ?_⟩
        refine h10 _ ?_
        clear h10 K10
        refine W_reg ?_
        simp [go_sem, ty3]
        refine ⟨p.1 + 1, i13, g13, p.2.2.2.set p.1 x13, ?_, ?_, ?_⟩
        · exact Sub.of_neat [0, 2, 3, 4] [0, 3] [0, 6, 1] 60 (by decide) (by simp [go_sem, wrap_succ (show p.1 < 9223372036854775807 by omega)])
        · first | omega | (simp; omega) | grind
        · first | omega | (simp only; omega)
  · clear hb9
    refine W_exit ?_
    simp [go_sem]
    repeat refine ⟨by first | omega | grind, ?_⟩
    refine h4 _ ?_
    clear h7 K7 h4 K4
    refine W_seqK fun K14 h14 => ?_
    refine W_seqK fun K15 h15 => ?_
    refine W_reg ?_
    simp [go_sem, ty3]
    refine callG_true (by simp) (CallW_draw (pd_spec_l1Below cs hcs 12) rfl rfl (by simp [go_sem]) hinv.2.1 (by simp [go_sem]) _ (fun _ => rfl) rfl ?_)
    rintro i16 g16 hi16 x16 hq16
    try dsimp only at hq16
    simp [go_sem]
    repeat refine ⟨by first | omega | grind, ?_⟩
    refine h15 _ ?_
    clear h15 K15
    refine W_block ?_
    refine W_seqK fun K17 h17 => ?_
    refine W_reg ?_
    simp [go_sem, ty3, ty4]
    repeat refine ⟨by first | omega | grind, ?_⟩
    refine h17 _ ?_
    clear h17 K17
    refine W_cond rfl (fun hb18 => ?_) fun hb18 => ?_
    · try simp at hb18
      refine W_reg ?_
      simp [go_sem, ty3]
      refine callG_true (by simp) (CallW_draw (pd_spec_l1Below cs hcs 5) rfl rfl (by simp [go_sem]) hi16 (by simp [go_sem]) _ (fun _ => rfl) rfl ?_)
      rintro i19 g19 hi19 x19 hq19
      try dsimp only at hq19
      simp [go_sem, ty3, ty61]
      repeat refine ⟨by first | omega | grind, ?_⟩
      refine h14 _ ?_
      clear h14 K14
      refine W_seqK fun K20 h20 => ?_
      refine W_reg ?_
      simp [go_sem, ty61]
      repeat refine ⟨by first | omega | grind, ?_⟩
      refine h20 _ ?_
      clear h20 K20
      refine W_ret ?_
      refine OutD_in (⟨(⟨p.2.2.2, addr x3, 0⟩ : GHart).regs, (⟨p.2.2.2, addr x3, 0⟩ : GHart).pc, (IntKind.wrap .i64 (x19 - 1))⟩ : GHart) (by simp; omega) ⟨_, _, _, _, _, _, _, rfl, rfl, rfl, rfl, rfl, by simp [go_sem], hi19⟩ ?_
      simp [go_sem, ty61, hb18]
    · try simp at hb18
      refine W_seqK fun K21 h21 => ?_
      refine W_reg ?_
      simp [go_sem, ty3, ty4]
      repeat refine ⟨by first | omega | grind, ?_⟩
      refine h21 _ ?_
      clear h21 K21
      refine W_cond rfl (fun hb22 => ?_) fun hb22 => ?_
      · try simp at hb22
        refine W_drawS false (.op 0 (.op 2 (.fork 1 (.op 3 (.op 4 (.op 5 (.op 6 .nil)))) 3 (.fork 1 (.op 4 (.op 5 (.op 6 .nil))) 4 (.op 1 (.op 5 (.op 6 .nil))))))) mixed (by decide +kernel) rfl ?_
        simp (config := {maxSteps := 10000000}) [go_sem, ty61]
        refine ⟨?_, ?_⟩
        · try simp (config := {maxSteps := 10000000}) [go_sem, ty3, ty22]
          refine callG_true (by simp) (CallW_draw (pd_spec_l1PickInt cs hcs ([(-1), 65536]) (by first | omega | (simp; done) | (simp; omega)) (by first | omega | (simp; done) | (simp; omega))) rfl rfl (by simp [go_sem]) hi16 (by simp [go_sem, enc, eI]) _ (fun _ => rfl) rfl ?_)
          rintro i23 g23 hi23 x23 hq23
          try dsimp only at hq23
          simp (config := {maxSteps := 10000000}) [go_sem, ty3, ty22]
          repeat refine ⟨by first | omega | grind, ?_⟩
          refine h14 _ ?_
          clear h14 K14
          refine W_seqK fun K24 h24 => ?_
          refine W_reg ?_
          simp [go_sem, ty61]
          repeat refine ⟨by first | omega | grind, ?_⟩
          refine h24 _ ?_
          clear h24 K24
          refine W_ret ?_
          refine OutD_in (⟨(((⟨p.2.2.2, addr x3, 0⟩ : GHart).regs).set 0 x23), (⟨p.2.2.2, addr x3, 0⟩ : GHart).pc, (⟨p.2.2.2, addr x3, 0⟩ : GHart).state⟩ : GHart) (by simp; omega) ⟨_, _, _, _, _, _, _, rfl, rfl, rfl, rfl, rfl, by simp [go_sem], hi23⟩ ?_
          simp [go_sem, ty61, hb18, hb22]
        · try simp (config := {maxSteps := 10000000}) [go_sem, ty3, ty22]
          refine ⟨?_, ?_⟩
          · try simp (config := {maxSteps := 10000000}) [go_sem, ty3, ty22]
            refine callG_true (by simp) (CallW_draw (pd_spec_l1PickInt cs hcs ([(-1), 65536]) (by first | omega | (simp; done) | (simp; omega)) (by first | omega | (simp; done) | (simp; omega))) rfl rfl (by simp [go_sem]) hi16 (by simp [go_sem, enc, eI]) _ (fun _ => rfl) rfl ?_)
            rintro i25 g25 hi25 x25 hq25
            try dsimp only at hq25
            simp (config := {maxSteps := 10000000}) [go_sem, ty3, ty22]
            repeat refine ⟨by first | omega | grind, ?_⟩
            refine h14 _ ?_
            clear h14 K14
            refine W_seqK fun K26 h26 => ?_
            refine W_reg ?_
            simp [go_sem, ty61]
            repeat refine ⟨by first | omega | grind, ?_⟩
            refine h26 _ ?_
            clear h26 K26
            refine W_ret ?_
            refine OutD_in (⟨(((⟨p.2.2.2, addr x3, 0⟩ : GHart).regs).set 0 x25), (⟨p.2.2.2, addr x3, 0⟩ : GHart).pc, (⟨p.2.2.2, addr x3, 0⟩ : GHart).state⟩ : GHart) (by simp; omega) ⟨_, _, _, _, _, _, _, rfl, rfl, rfl, rfl, rfl, by simp [go_sem], hi25⟩ ?_
            simp [go_sem, ty61, hb18, hb22]
          · try simp (config := {maxSteps := 10000000}) [go_sem, ty3, ty22]
            refine callG_true (by simp) (CallW_draw (pd_spec_l1PickInt cs hcs ([(-1), 65536]) (by first | omega | (simp; done) | (simp; omega)) (by first | omega | (simp; done) | (simp; omega))) rfl rfl (by simp [go_sem]) hi16 (by simp [go_sem, enc, eI]) _ (fun _ => rfl) rfl ?_)
            rintro i27 g27 hi27 x27 hq27
            try dsimp only at hq27
            simp (config := {maxSteps := 10000000}) [go_sem, ty3, ty22]
            repeat refine ⟨by first | omega | grind, ?_⟩
            refine h14 _ ?_
            clear h14 K14
            refine W_seqK fun K28 h28 => ?_
            refine W_reg ?_
            simp [go_sem, ty61]
            repeat refine ⟨by first | omega | grind, ?_⟩
            refine h28 _ ?_
            clear h28 K28
            refine W_ret ?_
            refine OutD_in (⟨(((⟨p.2.2.2, addr x3, 0⟩ : GHart).regs).set 0 x27), (⟨p.2.2.2, addr x3, 0⟩ : GHart).pc, (⟨p.2.2.2, addr x3, 0⟩ : GHart).state⟩ : GHart) (by simp; omega) ⟨_, _, _, _, _, _, _, rfl, rfl, rfl, rfl, rfl, by simp [go_sem], hi27⟩ ?_
            simp [go_sem, ty61, hb18, hb22]
      · try simp at hb22
        refine W_seqK fun K29 h29 => ?_
        refine W_reg ?_
        simp [go_sem, ty3, ty4]
        repeat refine ⟨by first | omega | grind, ?_⟩
        refine h29 _ ?_
        clear h29 K29
        refine W_cond rfl (fun hb30 => ?_) fun hb30 => ?_
        · try simp at hb30
          refine W_reg ?_
          simp [go_sem, ty3, ty22]
          refine callG_true (by simp) (CallW_draw (pd_spec_l1PickInt cs hcs ([(-1), 24]) (by first | omega | (simp; done) | (simp; omega)) (by first | omega | (simp; done) | (simp; omega))) rfl rfl (by simp [go_sem]) hi16 (by simp [go_sem, enc, eI]) _ (fun _ => rfl) rfl ?_)
          rintro i31 g31 hi31 x31 hq31
          try dsimp only at hq31
          simp [go_sem, ty3, ty61]
          repeat refine ⟨by first | omega | grind, ?_⟩
          refine h14 _ ?_
          clear h14 K14
          refine W_seqK fun K32 h32 => ?_
          refine W_reg ?_
          simp [go_sem, ty61]
          repeat refine ⟨by first | omega | grind, ?_⟩
          refine h32 _ ?_
          clear h32 K32
          refine W_ret ?_
          refine OutD_in (⟨(⟨p.2.2.2, addr x3, 0⟩ : GHart).regs, x31, (⟨p.2.2.2, addr x3, 0⟩ : GHart).state⟩ : GHart) (by simp; omega) ⟨_, _, _, _, _, _, _, rfl, rfl, rfl, rfl, rfl, by simp [go_sem], hi31⟩ ?_
          simp [go_sem, ty61, hb18, hb22, hb30]
        · try simp at hb30
          refine W_seqK fun K33 h33 => ?_
          refine W_reg ?_
          simp [go_sem, ty3, ty4]
          repeat refine ⟨by first | omega | grind, ?_⟩
          refine h33 _ ?_
          clear h33 K33
          refine W_cond rfl (fun hb34 => ?_) fun hb34 => ?_
          · try simp at hb34
            refine W_reg ?_
            simp [go_sem, ty3, ty22, ty61]
            repeat refine ⟨by first | omega | grind, ?_⟩
            refine h14 _ ?_
            clear h14 K14
            refine W_seqK fun K35 h35 => ?_
            refine W_reg ?_
            simp [go_sem, ty61]
            repeat refine ⟨by first | omega | grind, ?_⟩
            refine h35 _ ?_
            clear h35 K35
            refine W_ret ?_
            refine OutD_in (⟨(((⟨p.2.2.2, addr x3, 0⟩ : GHart).regs).drop 1), (⟨p.2.2.2, addr x3, 0⟩ : GHart).pc, (⟨p.2.2.2, addr x3, 0⟩ : GHart).state⟩ : GHart) (by simp; omega) ⟨_, _, _, _, _, _, _, rfl, rfl, rfl, rfl, rfl, by simp [go_sem], hi16⟩ ?_
            simp [go_sem, ty61, hb18, hb22, hb30, hb34]
          · try simp at hb34
            refine W_skip ?_
            repeat refine ⟨by first | omega | grind, ?_⟩
            refine h14 _ ?_
            clear h14 K14
            refine W_seqK fun K36 h36 => ?_
            refine W_reg ?_
            simp [go_sem, ty61]
            repeat refine ⟨by first | omega | grind, ?_⟩
            refine h36 _ ?_
            clear h36 K36
            refine W_ret ?_
            refine OutD_in (⟨p.2.2.2, addr x3, 0⟩ : GHart) (by simp; omega) ⟨_, _, _, _, _, _, _, rfl, rfl, rfl, rfl, rfl, by simp [go_sem], hi16⟩ ?_
            simp [go_sem, ty61, hb18, hb22, hb30, hb34]
end Go.Tw
