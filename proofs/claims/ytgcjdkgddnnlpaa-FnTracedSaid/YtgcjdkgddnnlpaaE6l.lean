/- Walks of functions: spec.l8DrawIns -/
import Derived.Test.YtgcjdkgddnnlpaaE6c
import Derived.Test.YtgcjdkgddnnlpaaE6e
set_option linter.unusedSimpArgs false
set_option linter.unusedVariables false
set_option linter.unnecessarySimpa false
namespace Go.Tw
open Go.Proofs

set_option maxRecDepth 100000 in
set_option maxHeartbeats 4000000 in
theorem pd_spec_l8DrawIns (cs : List Int) (hcs : cs.length ≤ 1048576)   : PD Try.prog 147 (enc eU cs) [] (fun (x : GIns) => True) (fun (x : GIns) => [(true, eIns x)]) := by
  refine PD_of (n := 38) Try.func147 rfl rfl rfl rfl (by simp) fun a0 ci ch hci => ?_
  refine W_seqK fun K1 h1 => ?_
  refine W_reg ?_
  simp [go_sem, ty68]
  repeat refine ⟨by first | omega | grind, ?_⟩
  refine h1 _ ?_
  clear h1 K1
  refine W_seqK fun K2 h2 => ?_
  refine W_reg ?_
  simp [go_sem, ty3, ty22]
  refine callG_true (by simp) (CallW_draw (pd_spec_l1PickInt cs hcs ([1, 1, 2, 3, 3, 4, 4, 5, 5, 5, 6, 6, 7, 8, 9, 10]) (by first | omega | (simp; done) | (simp; omega)) (by first | omega | (simp; done) | (simp; omega))) rfl rfl (by simp [go_sem]) hci (by simp [go_sem, enc, eI]) _ (fun _ => rfl) rfl ?_)
  rintro i3 g3 hi3 x3 hq3
  try dsimp only at hq3
  simp [go_sem, ty68, fw68]
  repeat refine ⟨by first | omega | grind, ?_⟩
  refine h2 _ ?_
  clear h2 K2
  refine W_seqK fun K4 h4 => ?_
  refine W_reg ?_
  simp [go_sem, ty3, ty68]
  refine callG_pc (fun hG => pc_spec_l8Has x3) (by first | (simp; done) | (simp [inR_iff]; done) | (simp [inR_iff]; grind) | grind) (fun hG => by simp [go_sem]) rfl rfl (by first | exact Or.inl rfl | exact Or.inr rfl) ?_
  simp [go_sem, ty3]
  repeat refine ⟨by first | omega | grind, ?_⟩
  refine h4 _ ?_
  clear h4 K4
  refine W_seqK fun K5 h5 => ?_
  refine W_seqK fun K6 h6 => ?_
  refine W_reg ?_
  simp [go_sem, ty3, ty4]
  repeat refine ⟨by first | omega | grind, ?_⟩
  refine h6 _ ?_
  clear h6 K6
  refine W_cond rfl (fun hb7 => ?_) fun hb7 => ?_
  · clear hb7
    refine W_reg ?_
    simp [go_sem, ty3]
    refine callG_true (by simp) (CallW_draw (pd_spec_l1Below cs hcs 4) rfl rfl (by simp [go_sem]) hi3 (by simp [go_sem]) _ (fun _ => rfl) rfl ?_)
    rintro i8 g8 hi8 x8 hq8
    try dsimp only at hq8
    simp [go_sem, ty3, ty68]
    repeat refine ⟨by first | omega | grind, ?_⟩
    refine h5 _ ?_
    clear h5 K5
    refine W_seqK fun K9 h9 => ?_
    refine W_seqK fun K10 h10 => ?_
    refine W_reg ?_
    simp [go_sem, ty3, ty4]
    repeat refine ⟨by first | omega | grind, ?_⟩
    refine h10 _ ?_
    clear h10 K10
    refine W_cond rfl (fun hb11 => ?_) fun hb11 => ?_
    · clear hb11
      refine W_reg ?_
      simp [go_sem, ty3]
      refine callG_true (by simp) (CallW_draw (pd_spec_l1Below cs hcs 4) rfl rfl (by simp [go_sem]) hi8 (by simp [go_sem]) _ (fun _ => rfl) rfl ?_)
      rintro i12 g12 hi12 x12 hq12
      try dsimp only at hq12
      simp [go_sem, ty3, ty68]
      repeat refine ⟨by first | omega | grind, ?_⟩
      refine h9 _ ?_
      clear h9 K9
      refine W_seqK fun K13 h13 => ?_
      refine W_seqK fun K14 h14 => ?_
      refine W_reg ?_
      simp [go_sem, ty3, ty4]
      repeat refine ⟨by first | omega | grind, ?_⟩
      refine h14 _ ?_
      clear h14 K14
      refine W_cond rfl (fun hb15 => ?_) fun hb15 => ?_
      · clear hb15
        refine W_reg ?_
        simp [go_sem, ty3]
        refine callG_true (by simp) (CallW_draw (pd_spec_l1Below cs hcs 4) rfl rfl (by simp [go_sem]) hi12 (by simp [go_sem]) _ (fun _ => rfl) rfl ?_)
        rintro i16 g16 hi16 x16 hq16
        try dsimp only at hq16
        simp [go_sem, ty3, ty68]
        repeat refine ⟨by first | omega | grind, ?_⟩
        refine h13 _ ?_
        clear h13 K13
        refine W_seqK fun K17 h17 => ?_
        refine W_seqK fun K18 h18 => ?_
        refine W_reg ?_
        simp [go_sem, ty3, ty4]
        repeat refine ⟨by first | omega | grind, ?_⟩
        refine h18 _ ?_
        clear h18 K18
        refine W_cond rfl (fun hb19 => ?_) fun hb19 => ?_
        · clear hb19
          refine W_reg ?_
          simp [go_sem, ty3, ty22]
          refine callG_true (by simp) (CallW_draw (pd_spec_l1PickInt cs hcs ([0, 1, 2, 4, 8, 9, 12, 20, 23]) (by first | omega | (simp; done) | (simp; omega)) (by first | omega | (simp; done) | (simp; omega))) rfl rfl (by simp [go_sem]) hi16 (by simp [go_sem, enc, eI]) _ (fun _ => rfl) rfl ?_)
          rintro i20 g20 hi20 x20 hq20
          try dsimp only at hq20
          simp [go_sem, ty3, ty68]
          repeat refine ⟨by first | omega | grind, ?_⟩
          refine h17 _ ?_
          clear h17 K17
          refine W_seqK fun K21 h21 => ?_
          refine W_reg ?_
          simp [go_sem, ty68]
          repeat refine ⟨by first | omega | grind, ?_⟩
          refine h21 _ ?_
          clear h21 K21
          refine W_ret ?_
          refine OutD_in (⟨x3, x8, x12, x16, x20⟩ : GIns) (trivial) ⟨_, _, _, _, _, _, _, rfl, rfl, rfl, rfl, rfl, by simp [go_sem], hi20⟩ ?_
          simp [go_sem, ty68]
        · clear hb19
          refine W_skip ?_
          repeat refine ⟨by first | omega | grind, ?_⟩
          refine h17 _ ?_
          clear h17 K17
          refine W_seqK fun K22 h22 => ?_
          refine W_reg ?_
          simp [go_sem, ty68]
          repeat refine ⟨by first | omega | grind, ?_⟩
          refine h22 _ ?_
          clear h22 K22
          refine W_ret ?_
          refine OutD_in (⟨x3, x8, x12, x16, 0⟩ : GIns) (trivial) ⟨_, _, _, _, _, _, _, rfl, rfl, rfl, rfl, rfl, by simp [go_sem], hi16⟩ ?_
          simp [go_sem, ty68]
      · clear hb15
        refine W_skip ?_
        repeat refine ⟨by first | omega | grind, ?_⟩
        refine h13 _ ?_
        clear h13 K13
        refine W_seqK fun K23 h23 => ?_
        refine W_seqK fun K24 h24 => ?_
        refine W_reg ?_
        simp [go_sem, ty3, ty4]
        repeat refine ⟨by first | omega | grind, ?_⟩
        refine h24 _ ?_
        clear h24 K24
        refine W_cond rfl (fun hb25 => ?_) fun hb25 => ?_
        · clear hb25
          refine W_reg ?_
          simp [go_sem, ty3, ty22]
          refine callG_true (by simp) (CallW_draw (pd_spec_l1PickInt cs hcs ([0, 1, 2, 4, 8, 9, 12, 20, 23]) (by first | omega | (simp; done) | (simp; omega)) (by first | omega | (simp; done) | (simp; omega))) rfl rfl (by simp [go_sem]) hi12 (by simp [go_sem, enc, eI]) _ (fun _ => rfl) rfl ?_)
          rintro i26 g26 hi26 x26 hq26
          try dsimp only at hq26
          simp [go_sem, ty3, ty68]
          repeat refine ⟨by first | omega | grind, ?_⟩
          refine h23 _ ?_
          clear h23 K23
          refine W_seqK fun K27 h27 => ?_
          refine W_reg ?_
          simp [go_sem, ty68]
          repeat refine ⟨by first | omega | grind, ?_⟩
          refine h27 _ ?_
          clear h27 K27
          refine W_ret ?_
          refine OutD_in (⟨x3, x8, x12, 0, x26⟩ : GIns) (trivial) ⟨_, _, _, _, _, _, _, rfl, rfl, rfl, rfl, rfl, by simp [go_sem], hi26⟩ ?_
          simp [go_sem, ty68]
        · clear hb25
          refine W_skip ?_
          repeat refine ⟨by first | omega | grind, ?_⟩
          refine h23 _ ?_
          clear h23 K23
          refine W_seqK fun K28 h28 => ?_
          refine W_reg ?_
          simp [go_sem, ty68]
          repeat refine ⟨by first | omega | grind, ?_⟩
          refine h28 _ ?_
          clear h28 K28
          refine W_ret ?_
          refine OutD_in (⟨x3, x8, x12, 0, 0⟩ : GIns) (trivial) ⟨_, _, _, _, _, _, _, rfl, rfl, rfl, rfl, rfl, by simp [go_sem], hi12⟩ ?_
          simp [go_sem, ty68]
    · clear hb11
      refine W_skip ?_
      repeat refine ⟨by first | omega | grind, ?_⟩
      refine h9 _ ?_
      clear h9 K9
      refine W_seqK fun K29 h29 => ?_
      refine W_seqK fun K30 h30 => ?_
      refine W_reg ?_
      simp [go_sem, ty3, ty4]
      repeat refine ⟨by first | omega | grind, ?_⟩
      refine h30 _ ?_
      clear h30 K30
      refine W_cond rfl (fun hb31 => ?_) fun hb31 => ?_
      · clear hb31
        refine W_reg ?_
        simp [go_sem, ty3]
        refine callG_true (by simp) (CallW_draw (pd_spec_l1Below cs hcs 4) rfl rfl (by simp [go_sem]) hi8 (by simp [go_sem]) _ (fun _ => rfl) rfl ?_)
        rintro i32 g32 hi32 x32 hq32
        try dsimp only at hq32
        simp [go_sem, ty3, ty68]
        repeat refine ⟨by first | omega | grind, ?_⟩
        refine h29 _ ?_
        clear h29 K29
        refine W_seqK fun K33 h33 => ?_
        refine W_seqK fun K34 h34 => ?_
        refine W_reg ?_
        simp [go_sem, ty3, ty4]
        repeat refine ⟨by first | omega | grind, ?_⟩
        refine h34 _ ?_
        clear h34 K34
        refine W_cond rfl (fun hb35 => ?_) fun hb35 => ?_
        · clear hb35
          refine W_reg ?_
          simp [go_sem, ty3, ty22]
          refine callG_true (by simp) (CallW_draw (pd_spec_l1PickInt cs hcs ([0, 1, 2, 4, 8, 9, 12, 20, 23]) (by first | omega | (simp; done) | (simp; omega)) (by first | omega | (simp; done) | (simp; omega))) rfl rfl (by simp [go_sem]) hi32 (by simp [go_sem, enc, eI]) _ (fun _ => rfl) rfl ?_)
          rintro i36 g36 hi36 x36 hq36
          try dsimp only at hq36
          simp [go_sem, ty3, ty68]
          repeat refine ⟨by first | omega | grind, ?_⟩
          refine h33 _ ?_
          clear h33 K33
          refine W_seqK fun K37 h37 => ?_
          refine W_reg ?_
          simp [go_sem, ty68]
          repeat refine ⟨by first | omega | grind, ?_⟩
          refine h37 _ ?_
          clear h37 K37
          refine W_ret ?_
          refine OutD_in (⟨x3, x8, 0, x32, x36⟩ : GIns) (trivial) ⟨_, _, _, _, _, _, _, rfl, rfl, rfl, rfl, rfl, by simp [go_sem], hi36⟩ ?_
          simp [go_sem, ty68]
        · clear hb35
          refine W_skip ?_
          repeat refine ⟨by first | omega | grind, ?_⟩
          refine h33 _ ?_
          clear h33 K33
          refine W_seqK fun K38 h38 => ?_
          refine W_reg ?_
          simp [go_sem, ty68]
          repeat refine ⟨by first | omega | grind, ?_⟩
          refine h38 _ ?_
          clear h38 K38
          refine W_ret ?_
          refine OutD_in (⟨x3, x8, 0, x32, 0⟩ : GIns) (trivial) ⟨_, _, _, _, _, _, _, rfl, rfl, rfl, rfl, rfl, by simp [go_sem], hi32⟩ ?_
          simp [go_sem, ty68]
      · clear hb31
        refine W_skip ?_
        repeat refine ⟨by first | omega | grind, ?_⟩
        refine h29 _ ?_
        clear h29 K29
        refine W_seqK fun K39 h39 => ?_
        refine W_seqK fun K40 h40 => ?_
        refine W_reg ?_
        simp [go_sem, ty3, ty4]
        repeat refine ⟨by first | omega | grind, ?_⟩
        refine h40 _ ?_
        clear h40 K40
        refine W_cond rfl (fun hb41 => ?_) fun hb41 => ?_
        · clear hb41
          refine W_reg ?_
          simp [go_sem, ty3, ty22]
          refine callG_true (by simp) (CallW_draw (pd_spec_l1PickInt cs hcs ([0, 1, 2, 4, 8, 9, 12, 20, 23]) (by first | omega | (simp; done) | (simp; omega)) (by first | omega | (simp; done) | (simp; omega))) rfl rfl (by simp [go_sem]) hi8 (by simp [go_sem, enc, eI]) _ (fun _ => rfl) rfl ?_)
          rintro i42 g42 hi42 x42 hq42
          try dsimp only at hq42
          simp [go_sem, ty3, ty68]
          repeat refine ⟨by first | omega | grind, ?_⟩
          refine h39 _ ?_
          clear h39 K39
          refine W_seqK fun K43 h43 => ?_
          refine W_reg ?_
          simp [go_sem, ty68]
          repeat refine ⟨by first | omega | grind, ?_⟩
          refine h43 _ ?_
          clear h43 K43
          refine W_ret ?_
          refine OutD_in (⟨x3, x8, 0, 0, x42⟩ : GIns) (trivial) ⟨_, _, _, _, _, _, _, rfl, rfl, rfl, rfl, rfl, by simp [go_sem], hi42⟩ ?_
          simp [go_sem, ty68]
        · clear hb41
          refine W_skip ?_
          repeat refine ⟨by first | omega | grind, ?_⟩
          refine h39 _ ?_
          clear h39 K39
          refine W_seqK fun K44 h44 => ?_
          refine W_reg ?_
          simp [go_sem, ty68]
          repeat refine ⟨by first | omega | grind, ?_⟩
          refine h44 _ ?_
          clear h44 K44
          refine W_ret ?_
          refine OutD_in (⟨x3, x8, 0, 0, 0⟩ : GIns) (trivial) ⟨_, _, _, _, _, _, _, rfl, rfl, rfl, rfl, rfl, by simp [go_sem], hi8⟩ ?_
          simp [go_sem, ty68]
  · clear hb7
    refine W_skip ?_
    repeat refine ⟨by first | omega | grind, ?_⟩
    refine h5 _ ?_
    clear h5 K5
    refine W_seqK fun K45 h45 => ?_
    refine W_seqK fun K46 h46 => ?_
    refine W_reg ?_
    simp [go_sem, ty3, ty4]
    repeat refine ⟨by first | omega | grind, ?_⟩
    refine h46 _ ?_
    clear h46 K46
    refine W_cond rfl (fun hb47 => ?_) fun hb47 => ?_
    · clear hb47
      refine W_reg ?_
      simp [go_sem, ty3]
      refine callG_true (by simp) (CallW_draw (pd_spec_l1Below cs hcs 4) rfl rfl (by simp [go_sem]) hi3 (by simp [go_sem]) _ (fun _ => rfl) rfl ?_)
      rintro i48 g48 hi48 x48 hq48
      try dsimp only at hq48
      simp [go_sem, ty3, ty68]
      repeat refine ⟨by first | omega | grind, ?_⟩
      refine h45 _ ?_
      clear h45 K45
      refine W_seqK fun K49 h49 => ?_
      refine W_seqK fun K50 h50 => ?_
      refine W_reg ?_
      simp [go_sem, ty3, ty4]
      repeat refine ⟨by first | omega | grind, ?_⟩
      refine h50 _ ?_
      clear h50 K50
      refine W_cond rfl (fun hb51 => ?_) fun hb51 => ?_
      · clear hb51
        refine W_reg ?_
        simp [go_sem, ty3]
        refine callG_true (by simp) (CallW_draw (pd_spec_l1Below cs hcs 4) rfl rfl (by simp [go_sem]) hi48 (by simp [go_sem]) _ (fun _ => rfl) rfl ?_)
        rintro i52 g52 hi52 x52 hq52
        try dsimp only at hq52
        simp [go_sem, ty3, ty68]
        repeat refine ⟨by first | omega | grind, ?_⟩
        refine h49 _ ?_
        clear h49 K49
        refine W_seqK fun K53 h53 => ?_
        refine W_seqK fun K54 h54 => ?_
        refine W_reg ?_
        simp [go_sem, ty3, ty4]
        repeat refine ⟨by first | omega | grind, ?_⟩
        refine h54 _ ?_
        clear h54 K54
        refine W_cond rfl (fun hb55 => ?_) fun hb55 => ?_
        · clear hb55
          refine W_reg ?_
          simp [go_sem, ty3, ty22]
          refine callG_true (by simp) (CallW_draw (pd_spec_l1PickInt cs hcs ([0, 1, 2, 4, 8, 9, 12, 20, 23]) (by first | omega | (simp; done) | (simp; omega)) (by first | omega | (simp; done) | (simp; omega))) rfl rfl (by simp [go_sem]) hi52 (by simp [go_sem, enc, eI]) _ (fun _ => rfl) rfl ?_)
          rintro i56 g56 hi56 x56 hq56
          try dsimp only at hq56
          simp [go_sem, ty3, ty68]
          repeat refine ⟨by first | omega | grind, ?_⟩
          refine h53 _ ?_
          clear h53 K53
          refine W_seqK fun K57 h57 => ?_
          refine W_reg ?_
          simp [go_sem, ty68]
          repeat refine ⟨by first | omega | grind, ?_⟩
          refine h57 _ ?_
          clear h57 K57
          refine W_ret ?_
          refine OutD_in (⟨x3, 0, x48, x52, x56⟩ : GIns) (trivial) ⟨_, _, _, _, _, _, _, rfl, rfl, rfl, rfl, rfl, by simp [go_sem], hi56⟩ ?_
          simp [go_sem, ty68]
        · clear hb55
          refine W_skip ?_
          repeat refine ⟨by first | omega | grind, ?_⟩
          refine h53 _ ?_
          clear h53 K53
          refine W_seqK fun K58 h58 => ?_
          refine W_reg ?_
          simp [go_sem, ty68]
          repeat refine ⟨by first | omega | grind, ?_⟩
          refine h58 _ ?_
          clear h58 K58
          refine W_ret ?_
          refine OutD_in (⟨x3, 0, x48, x52, 0⟩ : GIns) (trivial) ⟨_, _, _, _, _, _, _, rfl, rfl, rfl, rfl, rfl, by simp [go_sem], hi52⟩ ?_
          simp [go_sem, ty68]
      · clear hb51
        refine W_skip ?_
        repeat refine ⟨by first | omega | grind, ?_⟩
        refine h49 _ ?_
        clear h49 K49
        refine W_seqK fun K59 h59 => ?_
        refine W_seqK fun K60 h60 => ?_
        refine W_reg ?_
        simp [go_sem, ty3, ty4]
        repeat refine ⟨by first | omega | grind, ?_⟩
        refine h60 _ ?_
        clear h60 K60
        refine W_cond rfl (fun hb61 => ?_) fun hb61 => ?_
        · clear hb61
          refine W_reg ?_
          simp [go_sem, ty3, ty22]
          refine callG_true (by simp) (CallW_draw (pd_spec_l1PickInt cs hcs ([0, 1, 2, 4, 8, 9, 12, 20, 23]) (by first | omega | (simp; done) | (simp; omega)) (by first | omega | (simp; done) | (simp; omega))) rfl rfl (by simp [go_sem]) hi48 (by simp [go_sem, enc, eI]) _ (fun _ => rfl) rfl ?_)
          rintro i62 g62 hi62 x62 hq62
          try dsimp only at hq62
          simp [go_sem, ty3, ty68]
          repeat refine ⟨by first | omega | grind, ?_⟩
          refine h59 _ ?_
          clear h59 K59
          refine W_seqK fun K63 h63 => ?_
          refine W_reg ?_
          simp [go_sem, ty68]
          repeat refine ⟨by first | omega | grind, ?_⟩
          refine h63 _ ?_
          clear h63 K63
          refine W_ret ?_
          refine OutD_in (⟨x3, 0, x48, 0, x62⟩ : GIns) (trivial) ⟨_, _, _, _, _, _, _, rfl, rfl, rfl, rfl, rfl, by simp [go_sem], hi62⟩ ?_
          simp [go_sem, ty68]
        · clear hb61
          refine W_skip ?_
          repeat refine ⟨by first | omega | grind, ?_⟩
          refine h59 _ ?_
          clear h59 K59
          refine W_seqK fun K64 h64 => ?_
          refine W_reg ?_
          simp [go_sem, ty68]
          repeat refine ⟨by first | omega | grind, ?_⟩
          refine h64 _ ?_
          clear h64 K64
          refine W_ret ?_
          refine OutD_in (⟨x3, 0, x48, 0, 0⟩ : GIns) (trivial) ⟨_, _, _, _, _, _, _, rfl, rfl, rfl, rfl, rfl, by simp [go_sem], hi48⟩ ?_
          simp [go_sem, ty68]
    · clear hb47
      refine W_skip ?_
      repeat refine ⟨by first | omega | grind, ?_⟩
      refine h45 _ ?_
      clear h45 K45
      refine W_seqK fun K65 h65 => ?_
      refine W_seqK fun K66 h66 => ?_
      refine W_reg ?_
      simp [go_sem, ty3, ty4]
      repeat refine ⟨by first | omega | grind, ?_⟩
      refine h66 _ ?_
      clear h66 K66
      refine W_cond rfl (fun hb67 => ?_) fun hb67 => ?_
      · clear hb67
        refine W_reg ?_
        simp [go_sem, ty3]
        refine callG_true (by simp) (CallW_draw (pd_spec_l1Below cs hcs 4) rfl rfl (by simp [go_sem]) hi3 (by simp [go_sem]) _ (fun _ => rfl) rfl ?_)
        rintro i68 g68 hi68 x68 hq68
        try dsimp only at hq68
        simp [go_sem, ty3, ty68]
        repeat refine ⟨by first | omega | grind, ?_⟩
        refine h65 _ ?_
        clear h65 K65
        refine W_seqK fun K69 h69 => ?_
        refine W_seqK fun K70 h70 => ?_
        refine W_reg ?_
        simp [go_sem, ty3, ty4]
        repeat refine ⟨by first | omega | grind, ?_⟩
        refine h70 _ ?_
        clear h70 K70
        refine W_cond rfl (fun hb71 => ?_) fun hb71 => ?_
        · clear hb71
          refine W_reg ?_
          simp [go_sem, ty3, ty22]
          refine callG_true (by simp) (CallW_draw (pd_spec_l1PickInt cs hcs ([0, 1, 2, 4, 8, 9, 12, 20, 23]) (by first | omega | (simp; done) | (simp; omega)) (by first | omega | (simp; done) | (simp; omega))) rfl rfl (by simp [go_sem]) hi68 (by simp [go_sem, enc, eI]) _ (fun _ => rfl) rfl ?_)
          rintro i72 g72 hi72 x72 hq72
          try dsimp only at hq72
          simp [go_sem, ty3, ty68]
          repeat refine ⟨by first | omega | grind, ?_⟩
          refine h69 _ ?_
          clear h69 K69
          refine W_seqK fun K73 h73 => ?_
          refine W_reg ?_
          simp [go_sem, ty68]
          repeat refine ⟨by first | omega | grind, ?_⟩
          refine h73 _ ?_
          clear h73 K73
          refine W_ret ?_
          refine OutD_in (⟨x3, 0, 0, x68, x72⟩ : GIns) (trivial) ⟨_, _, _, _, _, _, _, rfl, rfl, rfl, rfl, rfl, by simp [go_sem], hi72⟩ ?_
          simp [go_sem, ty68]
        · clear hb71
          refine W_skip ?_
          repeat refine ⟨by first | omega | grind, ?_⟩
          refine h69 _ ?_
          clear h69 K69
          refine W_seqK fun K74 h74 => ?_
          refine W_reg ?_
          simp [go_sem, ty68]
          repeat refine ⟨by first | omega | grind, ?_⟩
          refine h74 _ ?_
          clear h74 K74
          refine W_ret ?_
          refine OutD_in (⟨x3, 0, 0, x68, 0⟩ : GIns) (trivial) ⟨_, _, _, _, _, _, _, rfl, rfl, rfl, rfl, rfl, by simp [go_sem], hi68⟩ ?_
          simp [go_sem, ty68]
      · clear hb67
        refine W_skip ?_
        repeat refine ⟨by first | omega | grind, ?_⟩
        refine h65 _ ?_
        clear h65 K65
        refine W_seqK fun K75 h75 => ?_
        refine W_seqK fun K76 h76 => ?_
        refine W_reg ?_
        simp [go_sem, ty3, ty4]
        repeat refine ⟨by first | omega | grind, ?_⟩
        refine h76 _ ?_
        clear h76 K76
        refine W_cond rfl (fun hb77 => ?_) fun hb77 => ?_
        · clear hb77
          refine W_reg ?_
          simp [go_sem, ty3, ty22]
          refine callG_true (by simp) (CallW_draw (pd_spec_l1PickInt cs hcs ([0, 1, 2, 4, 8, 9, 12, 20, 23]) (by first | omega | (simp; done) | (simp; omega)) (by first | omega | (simp; done) | (simp; omega))) rfl rfl (by simp [go_sem]) hi3 (by simp [go_sem, enc, eI]) _ (fun _ => rfl) rfl ?_)
          rintro i78 g78 hi78 x78 hq78
          try dsimp only at hq78
          simp [go_sem, ty3, ty68]
          repeat refine ⟨by first | omega | grind, ?_⟩
          refine h75 _ ?_
          clear h75 K75
          refine W_seqK fun K79 h79 => ?_
          refine W_reg ?_
          simp [go_sem, ty68]
          repeat refine ⟨by first | omega | grind, ?_⟩
          refine h79 _ ?_
          clear h79 K79
          refine W_ret ?_
          refine OutD_in (⟨x3, 0, 0, 0, x78⟩ : GIns) (trivial) ⟨_, _, _, _, _, _, _, rfl, rfl, rfl, rfl, rfl, by simp [go_sem], hi78⟩ ?_
          simp [go_sem, ty68]
        · clear hb77
          refine W_skip ?_
          repeat refine ⟨by first | omega | grind, ?_⟩
          refine h75 _ ?_
          clear h75 K75
          refine W_seqK fun K80 h80 => ?_
          refine W_reg ?_
          simp [go_sem, ty68]
          repeat refine ⟨by first | omega | grind, ?_⟩
          refine h80 _ ?_
          clear h80 K80
          refine W_ret ?_
          refine OutD_in (⟨x3, 0, 0, 0, 0⟩ : GIns) (trivial) ⟨_, _, _, _, _, _, _, rfl, rfl, rfl, rfl, rfl, by simp [go_sem], hi3⟩ ?_
          simp [go_sem, ty68]
end Go.Tw
