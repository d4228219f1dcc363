/- Walks of functions: spec.l18DrawRun -/
import Derived.Test.YtgcjdkgddnnlpaaE8m
import Derived.Test.YtgcjdkgddnnlpaaE6g2
import Derived.Test.YtgcjdkgddnnlpaaBaseF
import Derived.Test.YtgcjdkgddnnlpaaE6b
set_option linter.unusedSimpArgs false
set_option linter.unusedVariables false
set_option linter.unnecessarySimpa false
namespace Go.Tw
open Go.Proofs

set_option maxRecDepth 100000 in
set_option maxHeartbeats 4000000 in
theorem pd_spec_l18DrawRun (cs : List Int) (hcs : cs.length ≤ 1048576) (most : Int) (hmo : most ≤ 1000) : PD Try.prog 151 (enc eU cs) [(false, [.int .i64 most])] (fun (x : List Int × List GHart × List Int) => x.1.length = 24 ∧ 1 ≤ x.2.1.length ∧ x.2.1.length ≤ 3 ∧ (∀ a ∈ x.2.1, a.regs.length ≤ 4) ∧ x.2.2.length ≤ most.toNat ∧ ∀ a ∈ x.2.2, 0 ≤ a ∧ a < x.2.1.length) (fun (x : List Int × List GHart × List Int) => [(false, [.sl 1 (enc eI x.1)]), (false, [.sl 3 (enc eHart x.2.1)]), (false, [.sl 1 (enc eI x.2.2)])]) := by
  refine PD_of (n := 53) Try.func151 rfl rfl rfl rfl (by simp) fun a0 ci ch hci => ?_
  refine W_seqK fun K1 h1 => ?_
  refine W_reg ?_
  simp [go_sem, ty3, ty22, ty61, ty73]
  repeat refine ⟨by first | omega | grind, ?_⟩
  refine h1 _ ?_
  clear h1 K1
  refine W_seqK fun K2 h2 => ?_
  refine W_reg ?_
  simp [go_sem, ty3, ty22]
  refine callG_true (by simp) (CallW_draw (pd_spec_l9DrawMem cs hcs ) rfl rfl (by simp [go_sem]) hci (by simp [go_sem]) _ (fun _ => rfl) rfl ?_)
  rintro i3 g3 hi3 xs3 hq3
  try dsimp only at hq3
  simp [go_sem, ty3, ty22]
  repeat refine ⟨by first | omega | grind, ?_⟩
  refine h2 _ ?_
  clear h2 K2
  refine W_seqK fun K4 h4 => ?_
  refine W_reg ?_
  simp [go_sem, ty61, ty73]
  repeat refine ⟨by first | omega | grind, ?_⟩
  refine h4 _ ?_
  clear h4 K4
  refine W_seqK fun K5 h5 => ?_
  refine W_seqK fun K6 h6 => ?_
  refine W_reg ?_
  simp [go_sem, ty3]
  repeat refine ⟨by first | omega | grind, ?_⟩
  refine h6 _ ?_
  clear h6 K6
  refine W_block ?_
  refine W_loopI (α := Nat × Int × Int × List (GHart)) (fun p => ({ env := [(0, true, .l (.ptr 0 0)), (1, true, .l (.t (.int .i64 (most)))), (7, true, .l (.ref 2 [] 1 0 (xs3).length)), (8, true, .l (.ref 40 [] 3 0 ((p.2.2.2).length))), (9, true, .l (.t (.int .i64 (p.1))))], box := [(0, [.ref 0 [] 1 0 cs.length, .t (.int .i64 p.2.1), .t (.int .i64 p.2.2.1)])], row := [(0, ⟨.ro, 1, enc eU cs⟩), (2, ⟨.own, 1, enc eI xs3⟩), (40, ⟨.own, 3, enc eHart p.2.2.2⟩)], nxt := 60, sav := [([(0, true, .l (.ptr 0 0)), (1, true, .l (.ref 0 [] 1 0 cs.length))], a0)] } : St)) (fun p => p.1 ≤ 3 ∧ 0 ≤ p.2.1 ∧ p.2.2.2.length = p.1 ∧ ∀ a ∈ p.2.2.2, a.regs.length ≤ 4) (fun p => 3 - p.1) (0, i3, g3, []) ?_ ?_ ?_
  · exact (Sub.nilRow (t := 8) (nm := 40) (z := 3) (by rfl) (by rfl)).trans (Sub.of_neat [0, 1, 7, 8, 9] [0, 2, 40] [0] 60 (by decide) (by simp [go_sem, enc_nil]))
  · exact ⟨Nat.zero_le _, hi3, rfl, fun a ha => absurd ha List.not_mem_nil⟩
  rintro p hinv
  obtain ⟨hp1, hp2, hp3, hp4⟩ := hinv
  refine W_seqK fun K8 h8 => ?_
  refine W_seqK fun K9 h9 => ?_
  refine W_reg ?_
  simp [go_sem, ty3]
  refine callG_true (by simp) (CallW_draw (pd_spec_l1Below cs hcs 3) rfl rfl (by simp [go_sem]) hp2 (by simp [go_sem]) _ (fun _ => rfl) rfl ?_)
  rintro i10 g10 hi10 x10 hq10
  try dsimp only at hq10
  simp [go_sem, ty3, ty4]
  repeat refine ⟨by first | omega | grind, ?_⟩
  refine h9 _ ?_
  clear h9 K9
  refine W_cond rfl (fun hb11 => ?_) fun hb11 => ?_
  · have hlt : p.1 < 3 := by simp at hb11; rw [wrap_ok (by omega) (by omega)] at hb11; omega
    clear hb11
    refine W_skip ?_
    repeat refine ⟨by first | omega | grind, ?_⟩
    refine h8 _ ?_
    clear h8 K8
    refine W_seqK fun K12 h12 => ?_
    refine W_block ?_
    refine W_seqK fun K13 h13 => ?_
    refine W_reg ?_
    simp [go_sem, ty61]
    refine callG_true (by simp) (CallW_draw (pd_spec_l9DrawHart cs hcs ) rfl rfl (by simp [go_sem]) hi10 (by simp [go_sem]) _ (fun _ => rfl) rfl ?_)
    rintro i14 g14 hi14 h14 hq14
    try dsimp only at hq14
    simp [go_sem, ty61]
    repeat refine ⟨by first | omega | grind, ?_⟩
    refine h13 _ ?_
    clear h13 K13
    refine W_seqK fun K15 h15 => ?_
    refine W_seqK fun K16 h16 => ?_
    refine W_reg ?_
    simp [go_sem, ty4, ty61]
    refine callG_pc (fun hG => pc_spec_HartOk h14 (by omega)) (by first | (simp; done) | (simp [inR_iff]; done) | (simp [inR_iff]; grind) | grind) (fun hG => by simp [go_sem]) rfl rfl (by first | exact Or.inl rfl | exact Or.inr rfl) ?_
    simp [go_sem, ty4]
    repeat refine ⟨by first | omega | grind, ?_⟩
    refine h16 _ ?_
    clear h16 K16
    refine W_cond rfl (fun hb17 => ?_) fun hb17 => ?_
    · clear hb17
      refine W_reg ?_
      simp [go_sem, ty3]
      refine callG_true (by simp) (CallW_draw (pd_spec_l1Below cs hcs 20) rfl rfl (by simp [go_sem]) hi14 (by simp [go_sem]) _ (fun _ => rfl) rfl ?_)
      rintro i18 g18 hi18 x18 hq18
      try dsimp only at hq18
      simp [go_sem, ty3, ty61]
      refine callG_pc (fun hG => pc_spec_HartNew x18) (by first | (simp; done) | (simp [inR_iff]; done) | (simp [inR_iff]; grind) | grind) (fun hG => by simp [go_sem]) rfl rfl (by first | exact Or.inl rfl | exact Or.inr rfl) ?_
      simp [go_sem, ty61]
      repeat refine ⟨by first | omega | grind, ?_⟩
      refine h15 _ ?_
      clear h15 K15
      refine W_reg ?_
      simp [go_sem, ty61, ty73]
      repeat refine ⟨by first | omega | grind, ?_⟩
      refine h12 _ ?_
      clear h12 K12
      refine W_reg ?_
      simp [go_sem, ty3]
      refine ⟨p.1 + 1, i18, g18, (p.2.2.2 ++ ([hartNew x18])), ?_, ?_, ?_⟩
      · exact (Sub.swp_row 73 40 rfl).trans (Sub.of_neat [0, 1, 7, 8, 9] [0, 2, 40] [0] 60 (by decide) (by simp [go_sem, wrap_succ (show p.1 < 9223372036854775807 by omega)]))
      · refine ⟨by omega, by omega, by simp; omega, fun a ha => ?_⟩
        rcases List.mem_append.1 ha with ha | ha
        · exact hp4 a ha
        · obtain rfl := List.mem_singleton.1 ha; first | trivial | omega | (simp [hartNew]; done) | grind
      · first | omega | (simp only; omega)
    · clear hb17
      refine W_skip ?_
      repeat refine ⟨by first | omega | grind, ?_⟩
      refine h15 _ ?_
      clear h15 K15
      refine W_reg ?_
      simp [go_sem, ty61, ty73]
      repeat refine ⟨by first | omega | grind, ?_⟩
      refine h12 _ ?_
      clear h12 K12
      refine W_reg ?_
      simp [go_sem, ty3]
      refine ⟨p.1 + 1, i14, g14, (p.2.2.2 ++ [h14]), ?_, ?_, ?_⟩
      · exact (Sub.swp_row 68 40 rfl).trans (Sub.of_neat [0, 1, 7, 8, 9] [0, 2, 40] [0] 60 (by decide) (by simp [go_sem, wrap_succ (show p.1 < 9223372036854775807 by omega)]))
      · refine ⟨by omega, by omega, by simp; omega, fun a ha => ?_⟩
        rcases List.mem_append.1 ha with ha | ha
        · exact hp4 a ha
        · obtain rfl := List.mem_singleton.1 ha; first | trivial | omega | (simp [hartNew]; done) | grind
      · first | omega | (simp only; omega)
  · have hge : 1 ≤ p.1 := by simp at hb11; rw [wrap_ok (by omega) (by omega)] at hb11; omega
    clear hb11
    refine W_exit ?_
    simp [go_sem]
    repeat refine ⟨by first | omega | grind, ?_⟩
    refine h5 _ ?_
    clear h8 K8 h5 K5
    refine W_seqK fun K19 h19 => ?_
    refine W_reg ?_
    simp [go_sem, ty3, ty22]
    repeat refine ⟨by first | omega | grind, ?_⟩
    refine h19 _ ?_
    clear h19 K19
    refine W_seqK fun K20 h20 => ?_
    refine W_seqK fun K21 h21 => ?_
    refine W_reg ?_
    simp [go_sem, ty3]
    repeat refine ⟨by first | omega | grind, ?_⟩
    refine h21 _ ?_
    clear h21 K21
    refine W_block ?_
    refine W_loopI (α := Nat × Int × Int × List (Int)) (fun q => ({ env := [(0, true, .l (.ptr 0 0)), (1, true, .l (.t (.int .i64 (most)))), (7, true, .l (.ref 2 [] 1 0 (xs3).length)), (8, true, .l (.ref 40 [] 3 0 (p.2.2.2).length)), (11, true, .l (.ref 41 [] 1 0 ((q.2.2.2).length))), (12, true, .l (.t (.int .i64 (q.1))))], box := [(0, [.ref 0 [] 1 0 cs.length, .t (.int .i64 q.2.1), .t (.int .i64 q.2.2.1)])], row := [(0, ⟨.ro, 1, enc eU cs⟩), (2, ⟨.own, 1, enc eI xs3⟩), (40, ⟨.own, 3, enc eHart p.2.2.2⟩), (41, ⟨.own, 1, enc eI q.2.2.2⟩)], nxt := 61, sav := [([(0, true, .l (.ptr 0 0)), (1, true, .l (.ref 0 [] 1 0 cs.length))], a0)] } : St)) (fun q => q.1 ≤ most.toNat ∧ 0 ≤ q.2.1 ∧ q.2.2.2.length = q.1 ∧ ∀ a ∈ q.2.2.2, 0 ≤ a ∧ a < p.2.2.2.length) (fun q => most.toNat - q.1) (0, i10, g10, []) ?_ ?_ ?_
    · exact (Sub.nilRow (t := 11) (nm := 41) (z := 1) (by rfl) (by rfl)).trans (Sub.of_neat [0, 1, 7, 8, 11, 12] [0, 2, 40, 41] [0] 61 (by decide) (by simp [go_sem, enc_nil]))
    · exact ⟨Nat.zero_le _, hi10, rfl, fun a ha => absurd ha List.not_mem_nil⟩
    rintro q hinv
    obtain ⟨hq1, hq2, hq3, hq4⟩ := hinv
    refine W_seqK fun K23 h23 => ?_
    refine W_seqK fun K24 h24 => ?_
    refine W_reg ?_
    simp [go_sem, ty3]
    refine callG_true (by simp) (CallW_draw (pd_spec_l1Below cs hcs most) rfl rfl (by simp [go_sem]) hq2 (by simp [go_sem]) _ (fun _ => rfl) rfl ?_)
    rintro i25 g25 hi25 x25 hq25
    try dsimp only at hq25
    simp [go_sem, ty3, ty4]
    repeat refine ⟨by first | omega | grind, ?_⟩
    refine h24 _ ?_
    clear h24 K24
    refine W_cond rfl (fun hb26 => ?_) fun hb26 => ?_
    · have hlt : q.1 < most.toNat := by simp at hb26; omega
      clear hb26
      refine W_skip ?_
      repeat refine ⟨by first | omega | grind, ?_⟩
      refine h23 _ ?_
      clear h23 K23
      refine W_seqK fun K27 h27 => ?_
      refine W_block ?_
      refine W_reg ?_
      simp [go_sem, ty3, ty22, ty61, ty73]
      refine callG_true (by simp) (CallW_draw (pd_spec_l1Below cs hcs (p.2.2.2.length : Int)) rfl rfl (by simp [go_sem]) hi25 (by simp [go_sem]) _ (fun _ => rfl) rfl ?_)
      rintro i28 g28 hi28 x28 hq28
      try dsimp only at hq28
      simp [go_sem, ty3, ty22]
      repeat refine ⟨by first | omega | grind, ?_⟩
      refine h27 _ ?_
      clear h27 K27
      refine W_reg ?_
      simp [go_sem, ty3]
      refine ⟨q.1 + 1, i28, g28, (q.2.2.2 ++ [x28]), ?_, ?_, ?_⟩
      · exact (Sub.swp_row 64 41 rfl).trans (Sub.of_neat [0, 1, 7, 8, 11, 12] [0, 2, 40, 41] [0] 61 (by decide) (by simp [go_sem, wrap_succ (show q.1 < 9223372036854775807 by omega)]))
      · refine ⟨by omega, by omega, by simp; omega, fun a ha => ?_⟩
        rcases List.mem_append.1 ha with ha | ha
        · exact hq4 a ha
        · obtain rfl := List.mem_singleton.1 ha; first | trivial | omega | (simp [hartNew]; done) | grind
      · first | omega | (simp only; omega)
    · clear hb26
      refine W_exit ?_
      simp [go_sem]
      repeat refine ⟨by first | omega | grind, ?_⟩
      refine h20 _ ?_
      clear h23 K23 h20 K20
      refine W_seqK fun K29 h29 => ?_
      refine W_reg ?_
      simp [go_sem, ty3, ty22, ty61, ty73]
      repeat refine ⟨by first | omega | grind, ?_⟩
      refine h29 _ ?_
      clear h29 K29
      refine W_ret ?_
      refine OutD_in (⟨xs3, p.2.2.2, q.2.2.2⟩) (by dsimp only; exact ⟨by omega, by omega, by omega, hp4, by omega, hq4⟩) ⟨_, _, _, _, _, _, _, rfl, rfl, rfl, rfl, rfl, by simp [go_sem], hi25⟩ ?_
      simp [go_sem]
end Go.Tw
