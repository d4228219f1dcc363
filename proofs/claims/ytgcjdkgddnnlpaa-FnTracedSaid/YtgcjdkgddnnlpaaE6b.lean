/- Walks of functions: spec.l1Below, spec.l1Once, spec.l1PickInt -/
import Derived.Test.YtgcjdkgddnnlpaaE6a
import Derived.Test.YtgcjdkgddnnlpaaBaseF
set_option linter.unusedSimpArgs false
set_option linter.unusedVariables false
set_option linter.unnecessarySimpa false
namespace Go.Tw
open Go.Proofs

set_option maxRecDepth 100000 in
set_option maxHeartbeats 4000000 in
theorem pd_spec_l1Below (cs : List Int) (hcs : cs.length ≤ 1048576) (n : Int)  : PD Try.prog 112 (enc eU cs) [(false, [.int .i64 n])] (fun (x : Int) => 0 ≤ x ∧ (x < n ∨ n ≤ 0 ∧ x = 0)) (fun (x : Int) => [(false, [.int .i64 x])]) := by
  refine PD_of (n := 37) Try.func112 rfl rfl rfl rfl (by simp) fun a0 ci ch hci => ?_
  refine W_seqK fun K1 h1 => ?_
  refine W_reg ?_
  simp [go_sem, ty3]
  repeat refine ⟨by first | omega | grind, ?_⟩
  refine h1 _ ?_
  clear h1 K1
  refine W_seqK fun K2 h2 => ?_
  refine W_seqK fun K3 h3 => ?_
  refine W_reg ?_
  simp [go_sem, ty3, ty4]
  repeat refine ⟨by first | omega | grind, ?_⟩
  refine h3 _ ?_
  clear h3 K3
  refine W_cond rfl (fun hb4 => ?_) fun hb4 => ?_
  · try simp at hb4
    refine W_seqK fun K5 h5 => ?_
    refine W_reg ?_
    simp [go_sem, ty3]
    repeat refine ⟨by first | omega | grind, ?_⟩
    refine h5 _ ?_
    clear h5 K5
    refine W_ret ?_
    refine OutD_int (Or.inl rfl) rfl (by exact ⟨Int.le_refl _, Or.inr ⟨hb4, rfl⟩⟩) ⟨_, _, _, _, _, _, _, rfl, rfl, rfl, rfl, rfl, by simp [go_sem], hci⟩
  · try simp at hb4
    refine W_skip ?_
    repeat refine ⟨by first | omega | grind, ?_⟩
    refine h2 _ ?_
    clear h2 K2
    refine W_seqK fun K6 h6 => ?_
    refine W_seqK fun K7 h7 => ?_
    refine W_reg ?_
    simp [go_sem, ty3, ty4]
    repeat refine ⟨by first | omega | grind, ?_⟩
    refine h7 _ ?_
    clear h7 K7
    refine W_cond rfl (fun hb8 => ?_) fun hb8 => ?_
    · try simp at hb8
      refine W_seqK fun K9 h9 => ?_
      refine W_reg ?_
      simp [go_sem, ty3]
      refine callG_true (by simp) (CallW_draw (pd_spec_l1Byte cs hcs ) rfl rfl (by simp [go_sem]) hci (by simp [go_sem]) _ (fun _ => rfl) rfl ?_)
      rintro i10 g10 hi10 x10 hq10
      try dsimp only at hq10
      simp [go_sem, ty3]
      repeat refine ⟨by first | omega | grind, ?_⟩
      refine h9 _ ?_
      clear h9 K9
      refine W_ret ?_
      refine OutD_int (Or.inl rfl) rfl (tmod_in hq10.1 (by omega)) ⟨_, _, _, _, _, _, _, rfl, rfl, rfl, rfl, rfl, by simp [go_sem], hi10⟩
    · try simp at hb8
      refine W_skip ?_
      repeat refine ⟨by first | omega | grind, ?_⟩
      refine h6 _ ?_
      clear h6 K6
      refine W_seqK fun K11 h11 => ?_
      refine W_reg ?_
      simp [go_sem, ty3]
      refine callG_true (by simp) (CallW_draw (pd_spec_l1Byte cs hcs ) rfl rfl (by simp [go_sem]) hci (by simp [go_sem]) _ (fun _ => rfl) rfl ?_)
      rintro i12 g12 hi12 x12 hq12
      try dsimp only at hq12
      simp [go_sem, ty3]
      repeat refine ⟨by first | omega | grind, ?_⟩
      refine h11 _ ?_
      clear h11 K11
      refine W_seqK fun K13 h13 => ?_
      refine W_reg ?_
      simp [go_sem, ty3]
      refine callG_true (by simp) (CallW_draw (pd_spec_l1Byte cs hcs ) rfl rfl (by simp [go_sem]) hi12 (by simp [go_sem]) _ (fun _ => rfl) rfl ?_)
      rintro i14 g14 hi14 x14 hq14
      try dsimp only at hq14
      simp [go_sem, ty3]
      repeat refine ⟨by first | omega | grind, ?_⟩
      refine h13 _ ?_
      clear h13 K13
      refine W_seqK fun K15 h15 => ?_
      refine W_reg ?_
      simp [go_sem, ty3]
      refine callG_true (by simp) (CallW_draw (pd_spec_l1Byte cs hcs ) rfl rfl (by simp [go_sem]) hi14 (by simp [go_sem]) _ (fun _ => rfl) rfl ?_)
      rintro i16 g16 hi16 x16 hq16
      try dsimp only at hq16
      simp [go_sem, ty3]
      repeat refine ⟨by first | omega | grind, ?_⟩
      refine h15 _ ?_
      clear h15 K15
      refine W_seqK fun K17 h17 => ?_
      refine W_reg ?_
      simp [go_sem, ty3]
      refine callG_true (by simp) (CallW_draw (pd_spec_l1Byte cs hcs ) rfl rfl (by simp [go_sem]) hi16 (by simp [go_sem]) _ (fun _ => rfl) rfl ?_)
      rintro i18 g18 hi18 x18 hq18
      try dsimp only at hq18
      simp [go_sem, ty3]
      repeat refine ⟨by first | omega | grind, ?_⟩
      refine h17 _ ?_
      clear h17 K17
      refine W_seqK fun K19 h19 => ?_
      refine W_reg ?_
      simp [go_sem, ty3]
      repeat refine ⟨by first | omega | grind, ?_⟩
      refine h19 _ ?_
      clear h19 K19
      refine W_ret ?_
      refine OutD_int (Or.inl rfl) rfl (tmod4_in hq12 hq14 hq16 hq18 (by omega)) ⟨_, _, _, _, _, _, _, rfl, rfl, rfl, rfl, rfl, by simp [go_sem], hi18⟩

set_option maxRecDepth 100000 in
set_option maxHeartbeats 4000000 in
theorem pd_spec_l1Once (cs : List Int) (hcs : cs.length ≤ 1048576) (n : Int)  : PD Try.prog 111 (enc eU cs) [(false, [.int .i64 n])] (fun (x : Bool) => True) (fun (x : Bool) => [(false, [.bool x])]) := by
  refine PD_of (n := 9) Try.func111 rfl rfl rfl rfl (by simp) fun a0 ci ch hci => ?_
  refine W_seqK fun K1 h1 => ?_
  refine W_reg ?_
  simp [go_sem, ty4]
  repeat refine ⟨by first | omega | grind, ?_⟩
  refine h1 _ ?_
  clear h1 K1
  refine W_seqK fun K2 h2 => ?_
  refine W_reg ?_
  simp [go_sem, ty3]
  refine callG_true (by simp) (CallW_draw (pd_spec_l1Below cs hcs n) rfl rfl (by simp [go_sem]) hci (by simp [go_sem]) _ (fun _ => rfl) rfl ?_)
  rintro i3 g3 hi3 x3 hq3
  try dsimp only at hq3
  simp [go_sem, ty3, ty4]
  repeat refine ⟨by first | omega | grind, ?_⟩
  refine h2 _ ?_
  clear h2 K2
  refine W_ret ?_
  refine OutD_bool (Or.inl rfl) rfl (trivial) ⟨_, _, _, _, _, _, _, rfl, rfl, rfl, rfl, rfl, by simp [go_sem], hi3⟩

set_option maxRecDepth 100000 in
set_option maxHeartbeats 4000000 in
theorem pd_spec_l1PickInt (cs : List Int) (hcs : cs.length ≤ 1048576) (xs : List Int) (hl : 0 < xs.length) (hx : xs.length ≤ 1048576) : PD Try.prog 148 (enc eU cs) [(false, [.sl 1 (enc eI xs)])] (fun (x : Int) => x ∈ xs) (fun (x : Int) => [(false, [.int .i64 x])]) := by
  refine PD_of (n := 12) Try.func148 rfl rfl rfl rfl (by simp) fun a0 ci ch hci => ?_
  refine W_seqK fun K1 h1 => ?_
  refine W_reg ?_
  simp [go_sem, ty3]
  repeat refine ⟨by first | omega | grind, ?_⟩
  refine h1 _ ?_
  clear h1 K1
  refine W_seqK fun K2 h2 => ?_
  refine W_reg ?_
  simp [go_sem, ty3, ty22]
  refine callG_true (by simp) (CallW_draw (pd_spec_l1Below cs hcs (xs.length : Int)) rfl rfl (by simp [go_sem]) hci (by simp [go_sem]) _ (fun _ => rfl) rfl ?_)
  rintro i3 g3 hi3 x3 hq3
  try dsimp only at hq3
  simp [go_sem, ty3, ty22]
  repeat refine ⟨by first | omega | grind, ?_⟩
  refine h2 _ ?_
  clear h2 K2
  refine W_ret ?_
  refine OutD_int (Or.inl rfl) rfl (pick_mem hq3 hl) ⟨_, _, _, _, _, _, _, rfl, rfl, rfl, rfl, rfl, by simp [go_sem], hi3⟩
end Go.Tw
