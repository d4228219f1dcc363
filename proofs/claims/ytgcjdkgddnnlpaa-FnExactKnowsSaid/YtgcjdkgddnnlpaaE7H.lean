/- Walks of functions: spec.Clocks -/
import Derived.Test.YtgcjdkgddnnlpaaE7G
set_option linter.unusedSimpArgs false
set_option linter.unusedVariables false
set_option linter.unnecessarySimpa false
namespace Go.Tw
open Go.Proofs

set_option maxRecDepth 100000 in
set_option maxHeartbeats 4000000 in
theorem pc_spec_Clocks (n : Int) (list : List GEvent) (hx : list.length ≤ 1048576) : PC Try.prog 23 [(false, [.int .i64 n]), (false, [.sl 5 (enc eEvent list)])] [(false, [.sl 1 (enc eIS (clocks n list))])] := by
  refine PC_of (n := 106) Try.func23 rfl rfl rfl rfl (by simp) ?_
  refine W_seqK fun K1 h1 => ?_
  refine W_reg ?_
  simp [go_sem, ty22, ty45]
  repeat refine ⟨by first | omega | grind, ?_⟩
  refine h1 _ ?_
  clear h1 K1
  refine W_seqK fun K2 h2 => ?_
  refine W_reg ?_
  simp [go_sem, ty22, ty45]
  repeat refine ⟨by first | omega | grind, ?_⟩
  refine h2 _ ?_
  clear h2 K2
  refine W_seqK fun K3 h3 => ?_
  refine W_seqK fun K4 h4 => ?_
  refine W_reg ?_
  simp [go_sem, ty3, ty4, ty41, ty54]
  refine callG_pc (fun hG => pc_spec_l20Whos n list (by first | assumption | omega)) (by first | (simp; done) | (simp [inR_iff]; done) | (simp [inR_iff]; grind) | grind) (fun hG => by simp [go_sem]) rfl rfl (by first | exact Or.inl rfl | exact Or.inr rfl) ?_
  simp [go_sem, ty4]
  repeat refine ⟨by first | omega | grind, ?_⟩
  refine h4 _ ?_
  clear h4 K4
  refine W_cond rfl (fun hb5 => ?_) fun hb5 => ?_
  · have q : clocks n list = [] := if_neg (by simpa using hb5)
    clear hb5
    refine W_seqK fun K6 h6 => ?_
    refine W_reg ?_
    simp [go_sem, ty22, ty45]
    repeat refine ⟨by first | omega | grind, ?_⟩
    refine h6 _ ?_
    clear h6 K6
    refine W_ret ?_
    simp [go_sem, q, enc_nil]
  · have hk : whosOk n list = true := by simpa using hb5
    have hn := (whosOk_iff.1 hk).1
    have hkw := (whosOk_iff.1 hk).2
    have q : clocks n list = (ckN n list list.length).out := if_pos hk
    clear hb5
    refine W_skip ?_
    repeat refine ⟨by first | omega | grind, ?_⟩
    refine h3 _ ?_
    clear h3 K3
    refine W_seqK fun K7 h7 => ?_
    refine W_reg ?_
    simp [go_sem, ty22, ty45]
    repeat refine ⟨by first | omega | grind, ?_⟩
    refine h7 _ ?_
    clear h7 K7
    refine W_seqK fun K8 h8 => ?_
    refine W_seqK fun K9 h9 => ?_
    refine W_reg ?_
    simp [go_sem, ty3]
    repeat refine ⟨by first | omega | grind, ?_⟩
    refine h9 _ ?_
    clear h9 K9
    refine W_block ?_
    refine W_loopI (α := Nat) (fun i => ({ env := [(0, true, .l (.t (.int .i64 (n)))), (1, true, .l (.ref 1 [] 5 0 (list).length)), (5, true, .l .nil), (6, true, .l (.ref 40 [] 1 0 (((List.replicate i (clockNew n))).length))), (7, true, .l (.t (.int .i64 (i))))], box := [], row := [(1, ⟨.ro, 5, enc eEvent list⟩), (40, ⟨.own, 1, enc eIS (List.replicate i (clockNew n))⟩)], nxt := 60, sav := [] } : St)) (fun i => (i : Int) ≤ n) (fun i => n.toNat - i) 0 ?_ ?_ ?_
    · exact (Sub.nilRow (t := 6) (nm := 40) (z := 1) (by rfl) (by rfl)).trans (Sub.of_neat [0, 1, 5, 6, 7] [1, 40] [] 60 (by decide) (by simp [go_sem, enc_nil]))
    · show ((0 : Nat) : Int) ≤ n; omega
    rintro i hinv
    refine W_seqK fun K11 h11 => ?_
    refine W_seqK fun K12 h12 => ?_
    refine W_reg ?_
    simp [go_sem, ty3, ty4]
    repeat refine ⟨by first | omega | grind, ?_⟩
    refine h12 _ ?_
    clear h12 K12
    refine W_cond rfl (fun hb13 => ?_) fun hb13 => ?_
    · have hltn : (i : Int) < n := by simpa using hb13
      have hrs : List.replicate i (clockNew n) ++ [clockNew n] = List.replicate (i + 1) (clockNew n) := by rw [List.replicate_succ']
      clear hb13
      refine W_skip ?_
      repeat refine ⟨by first | omega | grind, ?_⟩
      refine h11 _ ?_
      clear h11 K11
      refine W_seqK fun K14 h14 => ?_
      refine W_block ?_
      refine W_reg ?_
      simp [go_sem, ty3, ty22, ty45]
      refine callG_pc (fun hG => pc_spec_ClockNew n) (by first | (simp; done) | (simp [inR_iff]; done) | (simp [inR_iff]; grind) | grind) (fun hG => by simp [go_sem]) rfl rfl (by first | exact Or.inl rfl | exact Or.inr rfl) ?_
      simp [go_sem, ty22, ty45]
      refine ⟨by (have : (List.replicate i (clockNew n)).length = i := List.length_replicate); omega, ?_⟩
      repeat refine ⟨by first | omega | grind, ?_⟩
      refine h14 _ ?_
      clear h14 K14
      refine W_reg ?_
      simp [go_sem, ty3]
      refine ⟨i + 1, ?_, ?_, ?_⟩
      · exact (Sub.swp_row 62 40 rfl).trans (Sub.of_neat [0, 1, 5, 6, 7] [1, 40] [] 60 (by decide) (by simp [go_sem, wrap_succ (show i < 9223372036854775807 by omega), hrs]))
      · show ((i + 1 : Nat) : Int) ≤ n; omega
      · show n.toNat - (i + 1) < n.toNat - i; omega
    · have hin : i = n.toNat := by simp at hb13; omega
      clear hb13
      refine W_exit ?_
      simp [go_sem]
      repeat refine ⟨by first | omega | grind, ?_⟩
      refine h8 _ ?_
      clear h11 K11 h8 K8
      refine W_seqK fun K15 h15 => ?_
      refine W_reg ?_
      simp [go_sem, ty3, ty22]
      repeat refine ⟨by first | omega | grind, ?_⟩
      refine h15 _ ?_
      clear h15 K15
      refine W_seqK fun K16 h16 => ?_
      refine W_seqK fun K17 h17 => ?_
      refine W_reg ?_
      simp [go_sem, ty3]
      repeat refine ⟨by first | omega | grind, ?_⟩
      refine h17 _ ?_
      clear h17 K17
      refine W_block ?_
      refine W_loopI (α := Nat × Ck) (fun p => ({ env := [(1, true, .l (.ref 1 [] 5 0 (list).length)), (5, true, .l (.ref 41 [] 1 0 ((p.2.out).length))), (6, true, .l (.ref 40 [] 1 0 ((p.2.now).length))), (8, true, .l (.ref 42 [] 1 0 (((lastI list p.1)).length))), (9, true, .l (.t (.int .i64 (p.1))))], box := [], row := [(1, ⟨.ro, 5, enc eEvent list⟩), (40, ⟨.top, 1, enc eIS p.2.now⟩), (41, ⟨.own, 1, enc eIS p.2.out⟩), (42, ⟨.own, 1, enc eI (lastI list p.1)⟩)], nxt := 62, sav := [] } : St)) (fun p => p.1 ≤ list.length ∧ p.2 = ckN n list p.1) (fun p => list.length - p.1) (0, ckN n list 0) ?_ ?_ ?_
      · exact (Sub.nilRow (t := 5) (nm := 41) (z := 1) (by rfl) (by rfl)).trans ((Sub.nilRow (t := 8) (nm := 42) (z := 1) (by rfl) (by rfl)).trans ((Sub.topify (r := 40) (by rfl) (by rfl)).trans (Sub.of_neat [1, 5, 6, 8, 9] [1, 40, 41, 42] [] 62 (by decide) (by simp [go_sem, enc_nil, hin, lastI_zero, ckN]))))
      · exact ⟨Nat.zero_le _, rfl⟩
      rintro p hinv
      obtain ⟨hi, hp⟩ := hinv
      have hok : CkOk n p.1 p.2 := hp ▸ ckN_ok hk p.1 hi
      obtain ⟨k1, k2, k3, k4⟩ := hok
      refine W_seqK fun K19 h19 => ?_
      refine W_seqK fun K20 h20 => ?_
      refine W_reg ?_
      simp [go_sem, ty3, ty4, ty41, ty54]
      repeat refine ⟨by first | omega | grind, ?_⟩
      refine h20 _ ?_
      clear h20 K20
      refine W_cond rfl (fun hb21 => ?_) fun hb21 => ?_
      · have hlt : p.1 < list.length := by simpa using hb21
        obtain ⟨w0, w1⟩ := wofN_lt hn (hkw _ (List.getElem_mem hlt))
        obtain ⟨w, hw⟩ : ∃ w : Nat, list[p.1].who = (w : Int) := ⟨list[p.1].who.toNat, by omega⟩
        have hwl : w < p.2.now.length := by omega
        have hwz : (0 : Int) ≤ (w : Int) := by omega
        have hwz2 : (w : Int) < (p.2.now.length : Int) := by omega
        have hcl := k2 _ (List.getElem_mem hwl)
        have hn8 : n.toNat ≤ 8 := by omega
        have hwp : (p.1 : Int) ≤ (list.length : Int) := by omega
        clear hb21
        refine W_skip ?_
        repeat refine ⟨by first | omega | grind, ?_⟩
        refine h19 _ ?_
        clear h19 K19
        refine W_seqK fun K22 h22 => ?_
        refine W_block ?_
        refine W_seqK fun K23 h23 => ?_
        refine W_reg ?_
        simp [go_sem, ty3, ty41, ty54, hlt, hw, hwl, hwz, hwz2]
        repeat refine ⟨by first | omega | grind, ?_⟩
        refine h23 _ ?_
        clear h23 K23
        refine W_seqK fun K24 h24 => ?_
        refine W_reg ?_
        simp [go_sem, ty3, ty22, ty45, ty54, hlt, hw, hwl, hwz, hwz2, hlt, hw, hwl, hwz, hwz2]
        repeat refine ⟨by first | omega | grind, ?_⟩
        refine h24 _ ?_
        clear h24 K24
        refine W_seqK fun K25 h25 => ?_
        refine W_seqK fun K26 h26 => ?_
        refine W_reg ?_
        simp [go_sem, ty3, hlt, hw, hwl, hwz, hwz2]
        repeat refine ⟨by first | omega | grind, ?_⟩
        refine h26 _ ?_
        clear h26 K26
        refine W_block ?_
        refine W_loopI (α := Nat × List Int) (fun q => ({ env := [(1, true, .l (.ref 1 [] 5 0 (list).length)), (5, true, .l (.ref 41 [] 1 0 (p.2.out).length)), (6, true, .l (.ref 40 [] 1 0 (p.2.now).length)), (8, true, .l (.ref 42 [] 1 0 ((lastI list p.1)).length)), (9, true, .l (.t (.int .i64 (p.1)))), (10, true, .l (.ptr 62 0)), (11, true, .l (.ref 43 [] 1 0 ((q.2).length))), (12, true, .l (.t (.int .i64 (q.1))))], box := [(62, [.t (.int .i64 list[p.1].who), .t (.int .i64 list[p.1].pc), .t (.int .i64 list[p.1].at_), .t (.int .i64 list[p.1].got), .t (.int .i64 list[p.1].put)])], row := [(1, ⟨.ro, 5, enc eEvent list⟩), (40, ⟨.top, 1, enc eIS p.2.now⟩), (41, ⟨.own, 1, enc eIS p.2.out⟩), (42, ⟨.own, 1, enc eI (lastI list p.1)⟩), (43, ⟨.own, 1, enc eI q.2⟩)], nxt := 63, sav := [] } : St)) (fun q => q.1 ≤ (lastI list p.1).length ∧ (q.1 = 0 ∨ isSwp list[p.1] = true) ∧ q.2 = joinL list p.2.out list[p.1] p.2.now[w] ((swps list p.1).take q.1)) (fun q => (lastI list p.1).length - q.1) (0, p.2.now[w]) ?_ ?_ ?_
        · exact (Sub.swp_row 65 43 rfl).trans (Sub.of_neat [1, 5, 6, 8, 9, 10, 11, 12] [1, 40, 41, 42, 43] [62] 63 (by decide) (by simp [go_sem, joinL, hlt, hw]))
        · exact ⟨Nat.zero_le _, Or.inl rfl, rfl⟩
        rintro q hinv
        obtain ⟨hq0, hq3, hqe⟩ := hinv
        have hls := swps_len list p.1
        have hll := lastI_len list p.1
        refine W_seqK fun K28 h28 => ?_
        refine W_seqK fun K29 h29 => ?_
        refine W_reg ?_
        simp [go_sem, ty3, ty4, ty22, ty54, hlt, hw, hwl, hwz, hwz2]
        refine callG_pc (fun hG => pc_spec_l20Swap list[p.1]) (by first | (simp; done) | (simp [inR_iff]; done) | (simp [inR_iff]; grind) | grind) (fun hG => by simp [go_sem, hlt, hw, hlt, hw, hwl, hwz, hwz2]) rfl rfl (by first | exact Or.inl rfl | exact Or.inr rfl) ?_
        simp [go_sem, ty4, hlt, hw, hwl, hwz, hwz2]
        repeat refine ⟨by first | omega | grind, ?_⟩
        refine h29 _ ?_
        clear h29 K29
        refine W_cond rfl (fun hb30 => ?_) fun hb30 => ?_
        · obtain ⟨hq1, hsw⟩ : q.1 < (lastI list p.1).length ∧ isSwp list[p.1] = true := by simpa [hlt] using hb30
          obtain ⟨k, ha, hkp, hks⟩ := lastI_at hq1
          have hkl : k < list.length := by omega
          have hko : k < p.2.out.length := by omega
          have hkz : (0 : Int) ≤ (k : Int) := by omega
          have hkl2 : (k : Int) < (list.length : Int) := by omega
          have hko2 : (k : Int) < (p.2.out.length : Int) := by omega
          have hol := k4 _ (List.getElem_mem hko)
          have hst := joinL_step (out := p.2.out) (e := list[p.1]) (c := p.2.now[w]) hks hkl hko
          rw [← hqe] at hst
          clear hb30
          refine W_skip ?_
          repeat refine ⟨by first | omega | grind, ?_⟩
          refine h28 _ ?_
          clear h28 K28
          refine W_seqK fun K31 h31 => ?_
          refine W_block ?_
          refine W_seqK fun K32 h32 => ?_
          refine W_drawT true mixed (by decide +kernel) ?_
          simp [go_sem, ty3, ty4, ty22, ty41, ty54, hlt, hw, hwl, hwz, hwz2, hq1, ha, hkl, hko, hkz, hkl2, hko2]
          repeat refine ⟨by first | omega | grind, ?_⟩
          refine h32 _ ?_
          clear h32 K32
          refine W_cond rfl (fun hb33 => ?_) fun hb33 => ?_
          · have hat : list[k].at_ = list[p.1].at_ := by simpa [hlt, hkl] using hb33
            rw [if_pos hat] at hst
            clear hb33
            refine W_reg ?_
            simp [go_sem, ty3, ty22, ty45, hlt, hw, hwl, hwz, hwz2, hq1, ha, hkl, hko, hkz, hkl2, hko2]
            refine callG_pc (fun hG => pc_spec_ClockJoin q.2 p.2.out[k] (by (have h9 := joinL_len (list := list) (out := p.2.out) (e := list[p.1]) ((swps list p.1).take q.1) p.2.now[w]); rw [← hqe] at h9; omega)) (by first | (simp; done) | (simp [inR_iff]; done) | (simp [inR_iff]; grind) | grind) (fun hG => by simp [go_sem, hlt, hw, hwl, hwz, hwz2, hq1, ha, hkl, hko, hkz, hkl2, hko2]) rfl rfl (by first | exact Or.inl rfl | exact Or.inr rfl) ?_
            simp [go_sem, ty3, ty22, hlt, hw, hwl, hwz, hwz2, hq1, ha, hkl, hko, hkz, hkl2, hko2]
            repeat refine ⟨by first | omega | grind, ?_⟩
            refine h31 _ ?_
            clear h31 K31
            refine W_reg ?_
            simp [go_sem, ty3, hlt, hw, hwl, hwz, hwz2, hq1, ha, hkl, hko, hkz, hkl2, hko2]
            refine ⟨q.1 + 1, clockJoin q.2 p.2.out[k], ?_, ?_, ?_⟩
            · exact (Sub.swp_row 64 43 rfl).trans (Sub.of_neat [1, 5, 6, 8, 9, 10, 11, 12] [1, 40, 41, 42, 43] [62] 63 (by decide) (by simp [go_sem, wrap_succ (show q.1 < 9223372036854775807 by omega), hlt, hw]))
            · exact ⟨hq1, Or.inr hsw, hst.symm⟩
            · first | omega | (simp; omega)
          · have hat : ¬ list[k].at_ = list[p.1].at_ := by simpa [hlt, hkl] using hb33
            rw [if_neg hat] at hst
            clear hb33
            refine W_skip ?_
            repeat refine ⟨by first | omega | grind, ?_⟩
            refine h31 _ ?_
            clear h31 K31
            refine W_reg ?_
            simp [go_sem, ty3, hlt, hw, hwl, hwz, hwz2, hq1, ha, hkl, hko, hkz, hkl2, hko2]
            refine ⟨q.1 + 1, q.2, ?_, ?_, ?_⟩
            · exact Sub.of_neat [1, 5, 6, 8, 9, 10, 11, 12] [1, 40, 41, 42, 43] [62] 63 (by decide) (by simp [go_sem, wrap_succ (show q.1 < 9223372036854775807 by omega), hlt, hw])
            · exact ⟨hq1, Or.inr hsw, hst.symm⟩
            · first | omega | (simp; omega)
        · have hcn : joinN list p.2.out list[p.1] p.2.now[w] p.1 = q.2 := (by (by_cases hs : isSwp list[p.1] = true); (have h9 : q.1 = (lastI list p.1).length := by (simp [hs] at hb30; omega)); (rw [joinN_swps _ hs, hqe, h9, lastI_len, List.take_length]); (have hs : isSwp list[p.1] = false := by simpa using hs); (rw [joinN_none _ hs]; rcases hq3 with h9 | h9; (rw [hqe, h9]; rfl); (rw [h9] at hs; cases hs)))
          have hq2l : q.2.length = n.toNat := by rw [← hcn, joinN_len]; exact hcl
          have hwc : w < q.2.length := by omega
          have hwc2 : (w : Int) < (q.2.length : Int) := by omega
          have hck := ckStep_at hlt hw hwl hcn hwc
          have hk1 := congrArg Ck.now hck
          have hk2 := congrArg Ck.out hck
          dsimp only at hk1 hk2
          clear hb30
          refine W_exit ?_
          simp [go_sem]
          repeat refine ⟨by first | omega | grind, ?_⟩
          refine h25 _ ?_
          clear h28 K28 h25 K25
          refine W_seqK fun K34 h34 => ?_
          refine W_drawT true mixed (by decide +kernel) ?_
          simp [go_sem, ty3, ty22, ty54, hlt, hw, hwl, hwz, hwz2, hwc, hwc2]
          repeat refine ⟨by first | omega | grind, ?_⟩
          refine h34 _ ?_
          clear h34 K34
          refine W_seqK fun K35 h35 => ?_
          refine W_seqK fun K36 h36 => ?_
          refine W_reg ?_
          simp [go_sem, ty4, ty54, hlt, hw, hwl, hwz, hwz2, hwc, hwc2]
          refine callG_pc (fun hG => pc_spec_l20Swap list[p.1]) (by first | (simp; done) | (simp [inR_iff]; done) | (simp [inR_iff]; grind) | grind) (fun hG => by simp [go_sem, hlt, hw, hlt, hw, hwl, hwz, hwz2, hwc, hwc2]) rfl rfl (by first | exact Or.inl rfl | exact Or.inr rfl) ?_
          simp [go_sem, hlt, hw, hwl, hwz, hwz2, hwc, hwc2]
          repeat refine ⟨by first | omega | grind, ?_⟩
          refine h36 _ ?_
          clear h36 K36
          refine W_cond rfl (fun hb37 => ?_) fun hb37 => ?_
          · have hs : isSwp list[p.1] = true := by simpa [hlt] using hb37
            have hla := lastI_yes hlt hs
            clear hb37
            refine W_reg ?_
            simp [go_sem, ty3, ty22, hlt, hw, hwl, hwz, hwz2, hwc, hwc2]
            repeat refine ⟨by first | omega | grind, ?_⟩
            refine h35 _ ?_
            clear h35 K35
            refine W_seqK fun K38 h38 => ?_
            refine W_reg ?_
            simp [go_sem, ty3, ty22, ty45, ty54, hlt, hw, hwl, hwz, hwz2, hwc, hwc2]
            repeat refine ⟨by first | omega | grind, ?_⟩
            refine h38 _ ?_
            clear h38 K38
            refine W_reg ?_
            simp [go_sem, ty3, ty22, ty45, hlt, hw, hwl, hwz, hwz2, hwc, hwc2]
            repeat refine ⟨by first | omega | grind, ?_⟩
            refine h22 _ ?_
            clear h22 K22
            refine W_reg ?_
            simp [go_sem, ty3, hlt, hw, hwl, hwz, hwz2, hwc, hwc2]
            refine ⟨p.1 + 1, ckStep list p.2 p.1, ?_, ?_, ?_⟩
            · exact (Sub.swp_row 72 41 rfl).trans ((Sub.swp_row 67 42 rfl).trans (Sub.of_neat [1, 5, 6, 8, 9] [1, 40, 41, 42] [] 62 (by decide) (by simp [go_sem, wrap_succ (show p.1 < 9223372036854775807 by omega), hla, hk1, hk2])))
            · exact ⟨hlt, by rw [hp]; rfl⟩
            · first | omega | (simp; omega)
          · have hs : isSwp list[p.1] = false := by simpa [hlt] using hb37
            have hla := lastI_no hlt hs
            clear hb37
            refine W_skip ?_
            repeat refine ⟨by first | omega | grind, ?_⟩
            refine h35 _ ?_
            clear h35 K35
            refine W_seqK fun K39 h39 => ?_
            refine W_reg ?_
            simp [go_sem, ty3, ty22, ty45, ty54, hlt, hw, hwl, hwz, hwz2, hwc, hwc2]
            repeat refine ⟨by first | omega | grind, ?_⟩
            refine h39 _ ?_
            clear h39 K39
            refine W_reg ?_
            simp [go_sem, ty3, ty22, ty45, hlt, hw, hwl, hwz, hwz2, hwc, hwc2]
            repeat refine ⟨by first | omega | grind, ?_⟩
            refine h22 _ ?_
            clear h22 K22
            refine W_reg ?_
            simp [go_sem, ty3, hlt, hw, hwl, hwz, hwz2, hwc, hwc2]
            refine ⟨p.1 + 1, ckStep list p.2 p.1, ?_, ?_, ?_⟩
            · exact (Sub.swp_row 70 41 rfl).trans (Sub.of_neat [1, 5, 6, 8, 9] [1, 40, 41, 42] [] 62 (by decide) (by simp [go_sem, wrap_succ (show p.1 < 9223372036854775807 by omega), hla, hk1, hk2]))
            · exact ⟨hlt, by rw [hp]; rfl⟩
            · first | omega | (simp; omega)
      · have hil : p.1 = list.length := by simp at hb21; omega
        have q2 : clocks n list = p.2.out := by rw [q, hp, hil]
        clear hb21
        refine W_exit ?_
        simp [go_sem]
        repeat refine ⟨by first | omega | grind, ?_⟩
        refine h16 _ ?_
        clear h19 K19 h16 K16
        refine W_seqK fun K40 h40 => ?_
        refine W_reg ?_
        simp [go_sem, ty22, ty45]
        repeat refine ⟨by first | omega | grind, ?_⟩
        refine h40 _ ?_
        clear h40 K40
        refine W_ret ?_
        simp [go_sem, q2]
end Go.Tw
