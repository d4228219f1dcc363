/- Walks of functions: spec.l11Draw -/
import Derived.Test.YtfjoibkopjdomaaE6I
set_option linter.unusedSimpArgs false
set_option linter.unusedVariables false
set_option linter.unnecessarySimpa false
namespace Go.Tw
open Go.Proofs

set_option maxRecDepth 100000 in
set_option maxHeartbeats 4000000 in
theorem pd_spec_l11Draw (cs : List Int) (hcs : cs.length ≤ 1048576)   : PD Try.prog 106 (enc eU cs) [] (fun (x : List GBlock × List GFrame) => (∀ a ∈ x.1, a.few) ∧ x.1.length ≤ 6 ∧ (∀ a ∈ x.2, a.few) ∧ x.2.length ≤ 6) (fun (x : List GBlock × List GFrame) => [(false, [.sl 2 (enc eBlock x.1)]), (false, [.sl 3 (enc eFrame x.2)])]) := by
  refine PD_of (n := 73) Try.func106 rfl rfl rfl rfl (by simp) fun a0 ci ch hci => ?_
  refine W_seqK fun K1 h1 => ?_
  refine W_reg ?_
  simp [go_sem, ty56, ty62, ty72, ty130]
  first | refine h1 _ ?_ | refine ⟨by omega, h1 _ ?_⟩ | refine ⟨by omega, by omega, h1 _ ?_⟩ | (repeat (refine ⟨by first | omega | grind, ?_⟩)); refine h1 _ ?_
  clear h1 K1
  refine W_seqK fun K2 h2 => ?_
  refine W_reg ?_
  simp [go_sem, ty3, ty24]
  refine callG_true (by simp) (CallW_draw (pd_spec_l9DrawMem cs hcs ) rfl rfl (by simp [go_sem]) hci (by simp [go_sem]) _ (fun _ => rfl) rfl ?_)
  rintro i3 g3 hi3 xs3 hq3
  try dsimp only at hq3
  simp [go_sem, ty3, ty24]
  first | refine h2 _ ?_ | refine ⟨by omega, h2 _ ?_⟩ | refine ⟨by omega, by omega, h2 _ ?_⟩ | (repeat (refine ⟨by first | omega | grind, ?_⟩)); refine h2 _ ?_
  clear h2 K2
  refine W_seqK fun K4 h4 => ?_
  refine W_reg ?_
  simp [go_sem, ty72, ty130]
  first | refine h4 _ ?_ | refine ⟨by omega, h4 _ ?_⟩ | refine ⟨by omega, by omega, h4 _ ?_⟩ | (repeat (refine ⟨by first | omega | grind, ?_⟩)); refine h4 _ ?_
  clear h4 K4
  refine W_seqK fun K5 h5 => ?_
  refine W_seqK fun K6 h6 => ?_
  refine W_reg ?_
  simp [go_sem, ty3]
  first | refine h6 _ ?_ | refine ⟨by omega, h6 _ ?_⟩ | refine ⟨by omega, by omega, h6 _ ?_⟩ | (repeat (refine ⟨by first | omega | grind, ?_⟩)); refine h6 _ ?_
  clear h6 K6
  refine W_block ?_
  refine W_loopI (α := Nat) (fun i => ({ env := [(0, true, .l (.ptr 0 0)), (4, true, .l (.ref 1 [] 1 0 (xs3).length)), (5, true, .l (.ref 40 [] 3 0 ((frN xs3 i).length))), (6, true, .l (.t (.int .i64 (i))))], box := [(0, [.ref 0 [] 1 0 cs.length, .t (.int .i64 i3), .t (.int .i64 g3)])], row := [(0, ⟨.ro, 1, enc eU cs⟩), (1, ⟨.own, 1, enc eI xs3⟩), (40, ⟨.own, 3, enc eFrame (frN xs3 i)⟩)], nxt := 60, sav := [([(0, true, .l (.ptr 0 0)), (1, true, .l (.ref 0 [] 1 0 cs.length))], a0)] } : St)) (fun i => i ≤ 6) (fun i => 6 - i) 0 ?_ ?_ ?_
  · exact (Sub.nilRow (t := 5) (nm := 40) (z := 3) (by rfl) (by rfl)).trans (Sub.of_neat [0, 4, 5, 6] [0, 1, 40] [0] 60 (by decide) (by simp [go_sem, frN, enc_nil]))
  · exact Nat.zero_le _
  rintro i hinv
  have hfl := frN_len xs3 i
  refine W_seqK fun K8 h8 => ?_
  refine W_seqK fun K9 h9 => ?_
  refine W_reg ?_
  simp [go_sem, ty3, ty4]
  first | refine h9 _ ?_ | refine ⟨by omega, h9 _ ?_⟩ | refine ⟨by omega, by omega, h9 _ ?_⟩ | (repeat (refine ⟨by first | omega | grind, ?_⟩)); refine h9 _ ?_
  clear h9 K9
  refine W_cond rfl (fun hb10 => ?_) fun hb10 => ?_
  · have hlt : i < 6 := by simp at hb10; omega
    have hi5 : i ≤ 5 := by omega
    clear hb10
    have hw0 : IntKind.wrap .i64 (i : Int) = (i : Int) := wrap_ok (by omega) (by omega)
    have hw1 : IntKind.wrap .i64 ((i : Int) * 4) = (i : Int) * 4 := wrap_ok (by omega) (by omega)
    have hw2 : IntKind.wrap .i64 ((i : Int) * 4 + 4) = (i : Int) * 4 + 4 := wrap_ok (by omega) (by omega)
    have hs1 : (0 : Int) ≤ (i : Int) * 4 := by omega
    have hs2 : (i : Int) * 4 ≤ (i : Int) * 4 + 4 := by omega
    have hs3 : (i : Int) * 4 + 4 ≤ (xs3.length : Int) := by omega
    have ht1 : ((i : Int) * 4).toNat = i * 4 := by omega
    have ht2 : ((i : Int) * 4 + 4).toNat = i * 4 + 4 := by omega
    have ht3 : i * 4 + 4 - i * 4 = 4 := by omega
    have hs4 : i * 4 + 4 ≤ xs3.length := by omega
    have hs5 : (0 : Int) ≤ (i : Int) * 4 + 4 := by omega
    have hs6 : min 4 (xs3.length - i * 4) = 4 := by omega
    refine W_skip ?_
    first | refine h8 _ ?_ | refine ⟨by omega, h8 _ ?_⟩ | refine ⟨by omega, by omega, h8 _ ?_⟩ | (repeat (refine ⟨by first | omega | grind, ?_⟩)); refine h8 _ ?_
    clear h8 K8
    refine W_seqK fun K11 h11 => ?_
    refine W_block ?_
    refine W_reg ?_
    simp [go_sem, ty3, ty24, ty72, ty130, fw130, hw0, hw1, hw2, hs1, hs2, hs3, ht1, ht2, ht3, hs4, hs5, hs6]
    first | refine h11 _ ?_ | refine ⟨by omega, h11 _ ?_⟩ | refine ⟨by omega, by omega, h11 _ ?_⟩ | (repeat (refine ⟨by first | omega | grind, ?_⟩)); refine h11 _ ?_
    clear h11 K11
    refine W_reg ?_
    simp [go_sem, ty3]
    refine ⟨i + 1, ?_, ?_, ?_⟩
    · exact (Sub.swp_row 63 40 rfl).trans (Sub.of_neat [0, 4, 5, 6] [0, 1, 40] [0] 60 (by decide) (by simp [go_sem, frN_succ, frN_len, wrap_succ (show i < 9223372036854775807 by omega)]))
    · exact hlt
    · omega
  · have hil : i = 6 := by simp at hb10; omega
    clear hb10
    refine W_exit ?_
    simp [go_sem]
    first | refine h5 _ ?_ | refine ⟨by omega, h5 _ ?_⟩ | refine ⟨by omega, by omega, h5 _ ?_⟩ | (repeat (refine ⟨by first | omega | grind, ?_⟩)); refine h5 _ ?_
    clear h8 K8 h5 K5
    refine W_seqK fun K12 h12 => ?_
    refine W_reg ?_
    simp [go_sem, ty56, ty62]
    first | refine h12 _ ?_ | refine ⟨by omega, h12 _ ?_⟩ | refine ⟨by omega, by omega, h12 _ ?_⟩ | (repeat (refine ⟨by first | omega | grind, ?_⟩)); refine h12 _ ?_
    clear h12 K12
    refine W_seqK fun K13 h13 => ?_
    refine W_seqK fun K14 h14 => ?_
    refine W_reg ?_
    simp [go_sem, ty3]
    first | refine h14 _ ?_ | refine ⟨by omega, h14 _ ?_⟩ | refine ⟨by omega, by omega, h14 _ ?_⟩ | (repeat (refine ⟨by first | omega | grind, ?_⟩)); refine h14 _ ?_
    clear h14 K14
    refine W_block ?_
    refine W_loopI (α := Nat × Int × Int × List GBlock) (fun p => ({ env := [(0, true, .l (.ptr 0 0)), (5, true, .l (.ref 40 [] 3 0 (frN xs3 i).length)), (7, true, .l (.ref 41 [] 2 0 ((p.2.2.2).length))), (8, true, .l (.t (.int .i64 (p.1))))], box := [(0, [.ref 0 [] 1 0 cs.length, .t (.int .i64 p.2.1), .t (.int .i64 p.2.2.1)])], row := [(0, ⟨.ro, 1, enc eU cs⟩), (40, ⟨.own, 3, enc eFrame (frN xs3 i)⟩), (41, ⟨.own, 2, enc eBlock p.2.2.2⟩)], nxt := 61, sav := [([(0, true, .l (.ptr 0 0)), (1, true, .l (.ref 0 [] 1 0 cs.length))], a0)] } : St)) (fun p => p.1 ≤ 5 ∧ 0 ≤ p.2.1 ∧ p.2.2.2.length = p.1 ∧ ∀ a ∈ p.2.2.2, a.few) (fun p => 5 - p.1) (0, i3, g3, []) ?_ ?_ ?_
    · exact (Sub.nilRow (t := 7) (nm := 41) (z := 2) (by rfl) (by rfl)).trans (Sub.of_neat [0, 5, 7, 8] [0, 40, 41] [0] 61 (by decide) (by simp [go_sem, enc_nil]))
    · exact ⟨Nat.zero_le _, hi3, rfl, fun a ha => absurd ha List.not_mem_nil⟩
    rintro p hinv
    obtain ⟨hp1, hp2, hp3, hp4⟩ := hinv
    refine W_seqK fun K16 h16 => ?_
    refine W_seqK fun K17 h17 => ?_
    refine W_reg ?_
    simp [go_sem, ty3]
    refine callG_true (by simp) (CallW_draw (pd_spec_l1Below cs hcs 6) rfl rfl (by simp [go_sem]) hp2 (by simp [go_sem]) _ (fun _ => rfl) rfl ?_)
    rintro i18 g18 hi18 x18 hq18
    try dsimp only at hq18
    simp [go_sem, ty3, ty4]
    first | refine h17 _ ?_ | refine ⟨by omega, h17 _ ?_⟩ | refine ⟨by omega, by omega, h17 _ ?_⟩ | (repeat (refine ⟨by first | omega | grind, ?_⟩)); refine h17 _ ?_
    clear h17 K17
    refine W_cond rfl (fun hb19 => ?_) fun hb19 => ?_
    · have hlt : p.1 < 5 := by simp at hb19; omega
      clear hb19
      refine W_skip ?_
      first | refine h16 _ ?_ | refine ⟨by omega, h16 _ ?_⟩ | refine ⟨by omega, by omega, h16 _ ?_⟩ | (repeat (refine ⟨by first | omega | grind, ?_⟩)); refine h16 _ ?_
      clear h16 K16
      refine W_seqK fun K20 h20 => ?_
      refine W_block ?_
      refine W_seqK fun K21 h21 => ?_
      refine W_reg ?_
      simp [go_sem, ty3]
      refine callG_true (by simp) (CallW_draw (pd_spec_l1Below cs hcs 24) rfl rfl (by simp [go_sem]) hi18 (by simp [go_sem]) _ (fun _ => rfl) rfl ?_)
      rintro i22 g22 hi22 x22 hq22
      try dsimp only at hq22
      simp [go_sem, ty3]
      first | refine h21 _ ?_ | refine ⟨by omega, h21 _ ?_⟩ | refine ⟨by omega, by omega, h21 _ ?_⟩ | (repeat (refine ⟨by first | omega | grind, ?_⟩)); refine h21 _ ?_
      clear h21 K21
      refine W_reg ?_
      obtain ⟨pg, hpg, hpl⟩ : ∃ pg : Nat, (x22).tdiv 4 = (pg : Int) ∧ pg ≤ 5 := ⟨(x22 / 4).toNat, by rw [tdiv_pos (by omega)]; omega, by omega⟩
      have hw0 : IntKind.wrap .i64 (pg : Int) = (pg : Int) := wrap_ok (by omega) (by omega)
      have hpg0 : (0 : Int) ≤ (pg : Int) := by omega
      have hpg2 : pg < (frN xs3 i).length := by omega
      have hpg3 : (pg : Int) < ((frN xs3 i).length : Int) := by omega
      have hfw : (frN xs3 i)[pg].list.length ≤ 5 := frN_few (List.getElem_mem hpg2)
      simp [go_sem, ty3, ty24, ty56, ty62, ty72, ty130, hpg, hw0, hpg0, hpg2, hpg3]
      refine callG_pc (fun hG => pc_spec_BlockOf ((frN xs3 i)[pg].list) x22 (by omega)) (by first | (simp; done) | (simp [inR_iff]; done) | (simp [inR_iff]; grind) | grind) (fun hG => by simp [go_sem, hpg2, hpg0]) rfl rfl (by first | exact Or.inl rfl | exact Or.inr rfl) ?_
      simp [go_sem, ty56, ty62, hpg, hw0, hpg0, hpg2, hpg3]
      first | refine h20 _ ?_ | refine ⟨by omega, h20 _ ?_⟩ | refine ⟨by omega, by omega, h20 _ ?_⟩ | (repeat (refine ⟨by first | omega | grind, ?_⟩)); refine h20 _ ?_
      clear h20 K20
      refine W_reg ?_
      simp [go_sem, ty3]
      refine ⟨p.1 + 1, i22, g22, p.2.2.2 ++ [blockOf (frN xs3 i)[pg].list x22], ?_, ?_, ?_⟩
      · exact (Sub.swp_row 66 41 rfl).trans (Sub.of_neat [0, 5, 7, 8] [0, 40, 41] [0] 61 (by decide) (by simp [go_sem, wrap_succ (show p.1 < 9223372036854775807 by omega)]))
      · refine ⟨by omega, by omega, by simp; omega, fun a ha => ?_⟩
        rcases List.mem_append.1 ha with ha | ha
        · exact hp4 a ha
        · obtain rfl := List.mem_singleton.1 ha; exact blockOf_few _ hfw
      · first | omega | (simp only; omega)
    · clear hb19
      refine W_exit ?_
      simp [go_sem]
      first | refine h13 _ ?_ | refine ⟨by omega, h13 _ ?_⟩ | refine ⟨by omega, by omega, h13 _ ?_⟩ | (repeat (refine ⟨by first | omega | grind, ?_⟩)); refine h13 _ ?_
      clear h16 K16 h13 K13
      refine W_seqK fun K23 h23 => ?_
      refine W_seqK fun K24 h24 => ?_
      refine W_reg ?_
      simp [go_sem, ty3]
      refine callG_true (by simp) (CallW_draw (pd_spec_l1Below cs hcs 9) rfl rfl (by simp [go_sem]) hi18 (by simp [go_sem]) _ (fun _ => rfl) rfl ?_)
      rintro i25 g25 hi25 x25 hq25
      try dsimp only at hq25
      simp [go_sem]
      first | refine h24 _ ?_ | refine ⟨by omega, h24 _ ?_⟩ | refine ⟨by omega, by omega, h24 _ ?_⟩ | (repeat (refine ⟨by first | omega | grind, ?_⟩)); refine h24 _ ?_
      clear h24 K24
      refine W_block ?_
      refine W_seqK fun K26 h26 => ?_
      refine W_reg ?_
      simp [go_sem, ty3, ty4]
      first | refine h26 _ ?_ | refine ⟨by omega, h26 _ ?_⟩ | refine ⟨by omega, by omega, h26 _ ?_⟩ | (repeat (refine ⟨by first | omega | grind, ?_⟩)); refine h26 _ ?_
      clear h26 K26
      refine W_cond rfl (fun hb27 => ?_) fun hb27 => ?_
      · clear hb27
        refine W_reg ?_
        simp [go_sem, ty56, ty62]
        refine callG_true (by simp) (CallW_draw (pd_spec_l10Draw cs hcs ) rfl rfl (by simp [go_sem]) hi25 (by simp [go_sem]) _ (fun _ => rfl) rfl ?_)
        rintro i28 g28 hi28 b28 hq28
        try dsimp only at hq28
        simp [go_sem, ty56, ty62]
        first | refine h23 _ ?_ | refine ⟨by omega, h23 _ ?_⟩ | refine ⟨by omega, by omega, h23 _ ?_⟩ | (repeat (refine ⟨by first | omega | grind, ?_⟩)); refine h23 _ ?_
        clear h23 K23
        refine W_seqK fun K29 h29 => ?_
        refine W_reg ?_
        simp [go_sem, ty56, ty62, ty72, ty130]
        first | refine h29 _ ?_ | refine ⟨by omega, h29 _ ?_⟩ | refine ⟨by omega, by omega, h29 _ ?_⟩ | (repeat (refine ⟨by first | omega | grind, ?_⟩)); refine h29 _ ?_
        clear h29 K29
        refine W_ret ?_
        refine OutD_in (⟨(p.2.2.2 ++ [b28]), frN xs3 i⟩) (by dsimp only; exact ⟨fun a ha => by rcases List.mem_append.1 ha with ha | ha; exact hp4 a ha; obtain rfl := List.mem_singleton.1 ha; exact hq28, by simp; omega, fun a ha => frN_few ha, by omega⟩) ⟨_, _, _, _, _, _, _, rfl, rfl, rfl, rfl, rfl, by simp [go_sem], hi28⟩ ?_
        simp [go_sem]
      · clear hb27
        refine W_seqK fun K30 h30 => ?_
        refine W_reg ?_
        simp [go_sem, ty3, ty4]
        first | refine h30 _ ?_ | refine ⟨by omega, h30 _ ?_⟩ | refine ⟨by omega, by omega, h30 _ ?_⟩ | (repeat (refine ⟨by first | omega | grind, ?_⟩)); refine h30 _ ?_
        clear h30 K30
        refine W_cond rfl (fun hb31 => ?_) fun hb31 => ?_
        · clear hb31
          refine W_reg ?_
          simp [go_sem, ty3, ty72, ty130]
          refine callG_true (by simp) (CallW_draw (pd_spec_l1Below cs hcs 6) rfl rfl (by simp [go_sem]) hi25 (by simp [go_sem]) _ (fun _ => rfl) rfl ?_)
          rintro i32 g32 hi32 x32 hq32
          try dsimp only at hq32
          have hx0 : (0 : Int) ≤ x32 := by omega
          have hx1 : x32 < ((frN xs3 i).length : Int) := by omega
          have hx2 : x32.toNat < (frN xs3 i).length := by omega
          have hx3 : x32 < (i : Int) := by omega
          have hx4 : x32.toNat < i := by omega
          simp [go_sem, ty130, hx0, hx1, hx2]
          refine callG_true (by simp) (CallW_draw (pd_spec_l3Draw cs hcs ) rfl rfl (by simp [go_sem]) hi32 (by simp [go_sem]) _ (fun _ => rfl) rfl ?_)
          rintro i33 g33 hi33 f33 hq33
          try dsimp only at hq33
          simp [go_sem, ty72, ty130, hx0, hx1, hx2]
          first | refine h23 _ ?_ | refine ⟨by omega, h23 _ ?_⟩ | refine ⟨by omega, by omega, h23 _ ?_⟩ | (repeat (refine ⟨by first | omega | grind, ?_⟩)); refine h23 _ ?_
          clear h23 K23
          refine W_seqK fun K34 h34 => ?_
          refine W_reg ?_
          simp [go_sem, ty56, ty62, ty72, ty130]
          first | refine h34 _ ?_ | refine ⟨by omega, h34 _ ?_⟩ | refine ⟨by omega, by omega, h34 _ ?_⟩ | (repeat (refine ⟨by first | omega | grind, ?_⟩)); refine h34 _ ?_
          clear h34 K34
          refine W_ret ?_
          refine OutD_in (⟨p.2.2.2, ((frN xs3 i).set x32.toNat f33)⟩) (by dsimp only; exact ⟨hp4, by omega, fun a ha => by rcases List.mem_or_eq_of_mem_set ha with ha | rfl; exact frN_few ha; exact hq33, by simp; omega⟩) ⟨_, _, _, _, _, _, _, rfl, rfl, rfl, rfl, rfl, by simp [go_sem], hi33⟩ ?_
          simp [go_sem]
        · clear hb31
          refine W_seqK fun K35 h35 => ?_
          refine W_reg ?_
          simp [go_sem, ty3, ty4]
          first | refine h35 _ ?_ | refine ⟨by omega, h35 _ ?_⟩ | refine ⟨by omega, by omega, h35 _ ?_⟩ | (repeat (refine ⟨by first | omega | grind, ?_⟩)); refine h35 _ ?_
          clear h35 K35
          refine W_cond rfl (fun hb36 => ?_) fun hb36 => ?_
          · clear hb36
            refine W_reg ?_
            simp [go_sem, ty72, ty130]
            first | refine h23 _ ?_ | refine ⟨by omega, h23 _ ?_⟩ | refine ⟨by omega, by omega, h23 _ ?_⟩ | (repeat (refine ⟨by first | omega | grind, ?_⟩)); refine h23 _ ?_
            clear h23 K23
            refine W_seqK fun K37 h37 => ?_
            refine W_reg ?_
            simp [go_sem, ty56, ty62, ty72, ty130]
            first | refine h37 _ ?_ | refine ⟨by omega, h37 _ ?_⟩ | refine ⟨by omega, by omega, h37 _ ?_⟩ | (repeat (refine ⟨by first | omega | grind, ?_⟩)); refine h37 _ ?_
            clear h37 K37
            refine W_ret ?_
            refine OutD_in (⟨p.2.2.2, ((frN xs3 i).drop 1)⟩) (by dsimp only; exact ⟨hp4, by omega, fun a ha => frN_few (List.mem_of_mem_drop ha), by simp; omega⟩) ⟨_, _, _, _, _, _, _, rfl, rfl, rfl, rfl, rfl, by simp [go_sem], hi25⟩ ?_
            simp [go_sem]
          · clear hb36
            refine W_skip ?_
            first | refine h23 _ ?_ | refine ⟨by omega, h23 _ ?_⟩ | refine ⟨by omega, by omega, h23 _ ?_⟩ | (repeat (refine ⟨by first | omega | grind, ?_⟩)); refine h23 _ ?_
            clear h23 K23
            refine W_seqK fun K38 h38 => ?_
            refine W_reg ?_
            simp [go_sem, ty56, ty62, ty72, ty130]
            first | refine h38 _ ?_ | refine ⟨by omega, h38 _ ?_⟩ | refine ⟨by omega, by omega, h38 _ ?_⟩ | (repeat (refine ⟨by first | omega | grind, ?_⟩)); refine h38 _ ?_
            clear h38 K38
            refine W_ret ?_
            refine OutD_in (⟨p.2.2.2, frN xs3 i⟩) (by dsimp only; exact ⟨hp4, by omega, fun a ha => frN_few ha, by omega⟩) ⟨_, _, _, _, _, _, _, rfl, rfl, rfl, rfl, rfl, by simp [go_sem], hi25⟩ ?_
            simp [go_sem]
end Go.Tw
