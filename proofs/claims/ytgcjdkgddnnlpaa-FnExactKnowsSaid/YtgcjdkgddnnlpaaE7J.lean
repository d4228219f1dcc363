/- Walks of functions: impl.Clocks -/
import Derived.Test.YtgcjdkgddnnlpaaE7I
set_option linter.unusedSimpArgs false
set_option linter.unusedVariables false
set_option linter.unnecessarySimpa false
namespace Go.Tw
open Go.Proofs

set_option maxRecDepth 100000 in
set_option maxHeartbeats 4000000 in
theorem pc_impl_Clocks (n : Int) (list : List GEvent) (hx : list.length ≤ 1048576) : PC Try.prog 24 [(false, [.int .i64 n]), (false, [.sl 5 (enc eEvent list)])] [(false, [.sl 1 (enc eIS (clocks n list))])] := by
  refine PC_of (n := 97) Try.func24 rfl rfl rfl rfl (by simp) ?_
  refine W_seqK fun K1 h1 => ?_
  refine W_reg ?_
  simp [go_sem, ty3, ty22, ty45]
  repeat refine ⟨by first | omega | grind, ?_⟩
  refine h1 _ ?_
  clear h1 K1
  refine W_seqK fun K2 h2 => ?_
  refine W_reg ?_
  simp [go_sem, ty22, ty45]
  repeat refine ⟨by first | omega | grind, ?_⟩
  refine h2 _ ?_
  clear h2 K2
  refine W_seqK fun K3 h3 => ?_
  refine W_seqK fun K4 h4 => ?_
  refine W_reg ?_
  simp [go_sem, ty3, ty4]
  refine callG_pc (fun hG => pc_impl_from n 1 8) (by first | (simp; done) | (simp [inR_iff]; done) | (simp [inR_iff]; grind) | grind) (fun hG => by simp [go_sem]) rfl rfl (by first | exact Or.inl rfl | exact Or.inr rfl) ?_
  simp [go_sem, ty4, ty41, ty54]
  refine callG_quiet (fun hG => q_ContainsFunc_Event (pr := fun e => !(wofN e.who n))  rfl (by omega) (by exact ⟨⟨_, rfl, by simp [go_sem]⟩, trivial⟩) rfl (fun x hx => pcb_impl_Clocks_1 x n)) (by first | (simp; done) | (simp [inR_iff]; done) | (simp [inR_iff]; grind) | grind) ?_
  simp [go_sem, ty4]
  repeat refine ⟨by first | omega | grind, ?_⟩
  refine h4 _ ?_
  clear h4 K4
  refine W_cond rfl (fun hb5 => ?_) fun hb5 => ?_
  · have hk : whosOk n list = false := by unfold whosOk; simp at hb5 ⊢; grind
    have q : clocks n list = [] := if_neg (by rw [hk]; decide)
    clear hb5
    refine W_seqK fun K6 h6 => ?_
    refine W_reg ?_
    simp [go_sem, ty22, ty45]
    repeat refine ⟨by first | omega | grind, ?_⟩
    refine h6 _ ?_
    clear h6 K6
    refine W_ret ?_
    simp [go_sem, q, enc_nil]
  · have hk : whosOk n list = true := by unfold whosOk; simp at hb5 ⊢; grind
    have hn := (whosOk_iff.1 hk).1
    have hkw := (whosOk_iff.1 hk).2
    have q : clocks n list = (ckN n list list.length).out := if_pos hk
    have hq1 : (0 : Int) ≤ n := by omega
    have hq2 : n ≤ 9223372036854775807 := by omega
    have hq3 : n * 24 ≤ 281474976710656 := by omega
    clear hb5
    refine W_skip ?_
    repeat refine ⟨by first | omega | grind, ?_⟩
    refine h3 _ ?_
    clear h3 K3
    refine W_seqK fun K7 h7 => ?_
    refine W_reg ?_
    simp [go_sem, ty3, ty22, ty45, hq1, hq2, hq3]
    repeat refine ⟨by first | omega | grind, ?_⟩
    refine h7 _ ?_
    clear h7 K7
    refine W_seqK fun K8 h8 => ?_
    refine W_seqK fun K9 h9 => ?_
    refine W_reg ?_
    simp [go_sem, ty3, ty22, ty45]
    repeat refine ⟨by first | omega | grind, ?_⟩
    refine h9 _ ?_
    clear h9 K9
    refine W_block ?_
    refine W_loopI (α := Nat) (fun i => ({ env := [(1, true, .l (.ref 1 [] 5 0 (list).length)), (2, true, .l (.ptr 2 0)), (5, true, .l .nil), (6, true, .l (.ref 40 [] 1 0 (((nowI n i)).length))), (26, true, .l (.t (.int .i64 (n)))), (27, true, .l (.t (.int .i64 (i))))], box := [(2, [.t (.int .i64 n)])], row := [(1, ⟨.ro, 5, enc eEvent list⟩), (40, ⟨.own, 1, enc eIS (nowI n i)⟩)], nxt := 60, sav := [] } : St)) (fun i => i ≤ n.toNat) (fun i => n.toNat - i) 0 ?_ ?_ ?_
    · exact (Sub.swp_row 5 40 rfl).trans (Sub.of_neat [1, 2, 5, 6, 26, 27] [1, 40] [2] 60 (by decide) (by simp [go_sem, nowI_zero, rep_eIS, (show max n 0 = n by omega)]))
    · exact Nat.zero_le _
    rintro i hinv
    refine W_seqK fun K11 h11 => ?_
    refine W_reg ?_
    simp [go_sem, ty3]
    repeat refine ⟨by first | omega | grind, ?_⟩
    refine h11 _ ?_
    clear h11 K11
    refine W_seqK fun K12 h12 => ?_
    refine W_cond rfl (fun hb13 => ?_) fun hb13 => ?_
    · have hnl := nowI_len hinv
      have hlt : i < n.toNat := by simp at hb13; omega
      have hlt2 : i < (nowI n i).length := by omega
      have hset := nowI_set hlt
      clear hb13
      refine W_skip ?_
      repeat refine ⟨by first | omega | grind, ?_⟩
      refine h12 _ ?_
      clear h12 K12
      refine W_seqK fun K14 h14 => ?_
      refine W_block ?_
      refine W_seqK fun K15 h15 => ?_
      refine W_reg ?_
      simp [go_sem, ty3, hlt, hlt2, hset, hnl]
      repeat refine ⟨by first | omega | grind, ?_⟩
      refine h15 _ ?_
      clear h15 K15
      refine W_reg ?_
      simp [go_sem, ty3, ty22, ty45, hlt, hlt2, hset, hnl]
      refine callG_pc (fun hG => pc_impl_ClockNew n) (by first | (simp; done) | (simp [inR_iff]; done) | (simp [inR_iff]; grind) | grind) (fun hG => by simp [go_sem, hlt, hlt2, hset, hnl]) rfl rfl (by first | exact Or.inl rfl | exact Or.inr rfl) ?_
      simp [go_sem, ty3, ty22, ty45, hlt, hlt2, hset, hnl]
      repeat refine ⟨by first | omega | grind, ?_⟩
      refine h14 _ ?_
      clear h14 K14
      refine W_reg ?_
      simp [go_sem, ty3, hlt, hlt2, hset, hnl]
      refine ⟨i + 1, ?_, ?_, ?_⟩
      · exact Sub.of_neat [1, 2, 5, 6, 26, 27] [1, 40] [2] 60 (by decide) (by simp [go_sem, wrap_succ (show i < 9223372036854775807 by omega), nowI_len hlt, hnl])
      · exact hlt
      · omega
    · have hnl := nowI_len hinv
      have hin : i = n.toNat := by simp at hb13; omega
      have hnow : nowI n i = List.replicate n.toNat (clockNew n) := by rw [hin, nowI_full]
      clear hb13
      refine W_exit ?_
      simp [go_sem]
      repeat refine ⟨by first | omega | grind, ?_⟩
      refine h8 _ ?_
      clear h12 K12 h8 K8
      refine W_seqK fun K16 h16 => ?_
      refine W_seqK fun K17 h17 => ?_
      refine W_reg ?_
      simp [go_sem, ty3, ty41, ty54]
      repeat refine ⟨by first | omega | grind, ?_⟩
      refine h17 _ ?_
      clear h17 K17
      refine W_block ?_
      refine W_loopI (α := Nat × Ck) (fun p => ({ env := [(1, true, .l (.ref 1 [] 5 0 (list).length)), (5, true, .l (.ref 41 [] 1 0 ((p.2.out).length))), (6, true, .l (.ref 40 [] 1 0 ((p.2.now).length))), (36, true, .l (.ref 1 [] 5 0 (list).length)), (37, true, .l (.t (.int .i64 ((list.length : Int))))), (38, true, .l (.t (.int .i64 (p.1))))], box := [], row := [(1, ⟨.ro, 5, enc eEvent list⟩), (40, ⟨.top, 1, enc eIS p.2.now⟩), (41, ⟨.own, 1, enc eIS p.2.out⟩)], nxt := 61, sav := [] } : St)) (fun p => p.1 ≤ list.length ∧ p.2 = ckN n list p.1) (fun p => list.length - p.1) (0, ckN n list 0) ?_ ?_ ?_
      · exact (Sub.nilRow (t := 5) (nm := 41) (z := 1) (by rfl) (by rfl)).trans ((Sub.topify (r := 40) (by rfl) (by rfl)).trans (Sub.of_neat [1, 5, 6, 36, 37, 38] [1, 40, 41] [] 61 (by decide) (by simp [go_sem, enc_nil, hnow, ckN])))
      · exact ⟨Nat.zero_le _, rfl⟩
      rintro p hinv
      obtain ⟨hi, hp⟩ := hinv
      have hok : CkOk n p.1 p.2 := hp ▸ ckN_ok hk p.1 hi
      obtain ⟨k1, k2, k3, k4⟩ := hok
      refine W_seqK fun K19 h19 => ?_
      refine W_reg ?_
      simp [go_sem, ty3]
      repeat refine ⟨by first | omega | grind, ?_⟩
      refine h19 _ ?_
      clear h19 K19
      refine W_seqK fun K20 h20 => ?_
      refine W_cond rfl (fun hb21 => ?_) fun hb21 => ?_
      · have hlt : p.1 < list.length := by simpa using hb21
        obtain ⟨w0, w1⟩ := wofN_lt hn (hkw _ (List.getElem_mem hlt))
        obtain ⟨w, hw⟩ : ∃ w : Nat, list[p.1].who = (w : Int) := ⟨list[p.1].who.toNat, by omega⟩
        have hwl : w < p.2.now.length := by omega
        have hwz : (0 : Int) ≤ (w : Int) := by omega
        have hwz2 : (w : Int) < (p.2.now.length : Int) := by omega
        have hcl := k2 _ (List.getElem_mem hwl)
        have hn8 : n.toNat ≤ 8 := by omega
        have hwp : (p.1 : Int) ≤ (list.length : Int) := by omega
        clear hb21
        refine W_skip ?_
        repeat refine ⟨by first | omega | grind, ?_⟩
        refine h20 _ ?_
        clear h20 K20
        refine W_seqK fun K22 h22 => ?_
        refine W_block ?_
        refine W_seqK fun K23 h23 => ?_
        refine W_reg ?_
        simp [go_sem, ty3, ty41, ty54, hlt, hw, hwl, hwz, hwz2]
        repeat refine ⟨by first | omega | grind, ?_⟩
        refine h23 _ ?_
        clear h23 K23
        refine W_seqK fun K24 h24 => ?_
        refine W_reg ?_
        simp [go_sem, ty3, ty22, ty45, ty54, hlt, hw, hwl, hwz, hwz2, hlt, hw, hwl, hwz, hwz2]
        refine callG_pc (fun hG => pc_slices_Clone_int_int p.2.now[w] (by omega)) (by first | (simp; done) | (simp [inR_iff]; done) | (simp [inR_iff]; grind) | grind) (fun hG => by simp [go_sem, hlt, hw, hwl, hwz, hwz2, hlt, hw, hwl, hwz, hwz2]) rfl rfl (by first | exact Or.inl rfl | exact Or.inr rfl) ?_
        simp [go_sem, ty3, ty22, hlt, hw, hwl, hwz, hwz2, hlt, hw, hwl, hwz, hwz2]
        repeat refine ⟨by first | omega | grind, ?_⟩
        refine h24 _ ?_
        clear h24 K24
        refine W_seqK fun K25 h25 => ?_
        refine W_seqK fun K26 h26 => ?_
        refine W_reg ?_
        simp [go_sem, ty3, ty41, ty54, hwp, Int.toNat_natCast, hlt, hw, hwl, hwz, hwz2]
        repeat refine ⟨by first | omega | grind, ?_⟩
        refine h26 _ ?_
        clear h26 K26
        refine W_block ?_
        refine W_loopI (α := Nat × List Int) (fun q => ({ env := [(1, true, .l (.ref 1 [] 5 0 (list).length)), (5, true, .l (.ref 41 [] 1 0 (p.2.out).length)), (6, true, .l (.ref 40 [] 1 0 (p.2.now).length)), (9, true, .l (.ptr 61 0)), (10, true, .l (.ref 43 [] 1 0 ((q.2).length))), (36, true, .l (.ref 1 [] 5 0 (list).length)), (37, true, .l (.t (.int .i64 ((list.length : Int))))), (38, true, .l (.t (.int .i64 (p.1)))), (51, true, .l (.ref 1 [] 5 0 p.1)), (52, true, .l (.t (.int .i64 (p.1)))), (53, true, .l (.t (.int .i64 (q.1))))], box := [(61, [.t (.int .i64 list[p.1].who), .t (.int .i64 list[p.1].pc), .t (.int .i64 list[p.1].at_), .t (.int .i64 list[p.1].got), .t (.int .i64 list[p.1].put)])], row := [(1, ⟨.ro, 5, enc eEvent list⟩), (40, ⟨.top, 1, enc eIS p.2.now⟩), (41, ⟨.own, 1, enc eIS p.2.out⟩), (43, ⟨.own, 1, enc eI q.2⟩)], nxt := 63, sav := [] } : St)) (fun q => q.1 ≤ p.1 ∧ q.2 = joinN list p.2.out list[p.1] p.2.now[w] q.1) (fun q => p.1 - q.1) (0, p.2.now[w]) ?_ ?_ ?_
        · exact (Sub.swp_row 63 43 rfl).trans (Sub.of_neat [1, 5, 6, 9, 10, 36, 37, 38, 51, 52, 53] [1, 40, 41, 43] [61] 63 (by decide) (by simp [go_sem, joinN, hlt, hw]))
        · exact ⟨Nat.zero_le _, rfl⟩
        rintro q hinv
        obtain ⟨hq0, hqe⟩ := hinv
        refine W_seqK fun K28 h28 => ?_
        refine W_reg ?_
        simp [go_sem, ty3, hlt, hw, hwl, hwz, hwz2]
        repeat refine ⟨by first | omega | grind, ?_⟩
        refine h28 _ ?_
        clear h28 K28
        refine W_seqK fun K29 h29 => ?_
        refine W_cond rfl (fun hb30 => ?_) fun hb30 => ?_
        · have hk1 : q.1 < p.1 := by simpa using hb30
          have hkl : q.1 < list.length := by omega
          have hko : q.1 < p.2.out.length := by omega
          have hol := k4 _ (List.getElem_mem hko)
          have hst := joinN_step (e := list[p.1]) (c := p.2.now[w]) hkl hko
          rw [← hqe] at hst
          clear hb30
          refine W_skip ?_
          repeat refine ⟨by first | omega | grind, ?_⟩
          refine h29 _ ?_
          clear h29 K29
          refine W_seqK fun K31 h31 => ?_
          refine W_block ?_
          refine W_seqK fun K32 h32 => ?_
          refine W_reg ?_
          simp [go_sem, ty3, ty41, ty54, hk1, hkl, hlt, hw, hwl, hwz, hwz2, hk1, hkl, hko]
          repeat refine ⟨by first | omega | grind, ?_⟩
          refine h32 _ ?_
          clear h32 K32
          refine W_seqK fun K33 h33 => ?_
          refine W_reg ?_
          simp [go_sem, ty4, ty54, hlt, hw, hwl, hwz, hwz2, hk1, hkl, hko]
          refine callG_pc (fun hG => pc_impl_isSwap list[p.1]) (by first | (simp; done) | (simp [inR_iff]; done) | (simp [inR_iff]; grind) | grind) (fun hG => by simp [go_sem, hlt, hw, hlt, hw, hwl, hwz, hwz2, hk1, hkl, hko]) rfl rfl (by first | exact Or.inl rfl | exact Or.inr rfl) ?_
          simp [go_sem, ty4, ty54, hlt, hw, hwl, hwz, hwz2, hk1, hkl, hko]
          refine callG_pc (fun hG => pc_impl_isSwap list[q.1]) (by first | (simp; done) | (simp [inR_iff]; done) | (simp [inR_iff]; grind) | grind) (fun hG => by simp [go_sem, hkl, hlt, hw, hwl, hwz, hwz2, hk1, hkl, hko]) rfl rfl (by first | exact Or.inl rfl | exact Or.inr rfl) ?_
          simp [go_sem, ty3, ty4, ty54, hlt, hw, hwl, hwz, hwz2, hk1, hkl, hko]
          repeat refine ⟨by first | omega | grind, ?_⟩
          refine h33 _ ?_
          clear h33 K33
          refine W_cond rfl (fun hb34 => ?_) fun hb34 => ?_
          · have hat : isSwp list[p.1] = true ∧ isSwp list[q.1] = true ∧ list[q.1].at_ = list[p.1].at_ := by simp [hlt, hkl] at hb34; grind
            rw [if_pos hat] at hst
            clear hb34
            refine W_reg ?_
            simp [go_sem, ty3, ty22, ty45, hlt, hw, hwl, hwz, hwz2, hk1, hkl, hko]
            refine callG_pc (fun hG => pc_impl_ClockJoin q.2 p.2.out[q.1] (by (have h9 := joinN_len (list := list) (out := p.2.out) (e := list[p.1]) p.2.now[w] q.1); rw [← hqe] at h9; omega)) (by first | (simp; done) | (simp [inR_iff]; done) | (simp [inR_iff]; grind) | grind) (fun hG => by simp [go_sem, hlt, hw, hwl, hwz, hwz2, hk1, hkl, hko]) rfl rfl (by first | exact Or.inl rfl | exact Or.inr rfl) ?_
            simp [go_sem, ty3, ty22, hlt, hw, hwl, hwz, hwz2, hk1, hkl, hko]
            repeat refine ⟨by first | omega | grind, ?_⟩
            refine h31 _ ?_
            clear h31 K31
            refine W_reg ?_
            simp [go_sem, ty3, hlt, hw, hwl, hwz, hwz2, hk1, hkl, hko]
            refine ⟨q.1 + 1, clockJoin q.2 p.2.out[q.1], ?_, ?_, ?_⟩
            · exact (Sub.swp_row 67 43 rfl).trans (Sub.of_neat [1, 5, 6, 9, 10, 36, 37, 38, 51, 52, 53] [1, 40, 41, 43] [61] 63 (by decide) (by simp [go_sem, wrap_succ (show q.1 < 9223372036854775807 by omega), hlt, hw]))
            · exact ⟨hk1, hst.symm⟩
            · first | omega | (simp; omega)
          · have hat : ¬ (isSwp list[p.1] = true ∧ isSwp list[q.1] = true ∧ list[q.1].at_ = list[p.1].at_) := by simp [hlt, hkl] at hb34; grind
            rw [if_neg hat] at hst
            clear hb34
            refine W_skip ?_
            repeat refine ⟨by first | omega | grind, ?_⟩
            refine h31 _ ?_
            clear h31 K31
            refine W_reg ?_
            simp [go_sem, ty3, hlt, hw, hwl, hwz, hwz2, hk1, hkl, hko]
            refine ⟨q.1 + 1, q.2, ?_, ?_, ?_⟩
            · exact Sub.of_neat [1, 5, 6, 9, 10, 36, 37, 38, 51, 52, 53] [1, 40, 41, 43] [61] 63 (by decide) (by simp [go_sem, wrap_succ (show q.1 < 9223372036854775807 by omega), hlt, hw])
            · exact ⟨hk1, hst.symm⟩
            · first | omega | (simp; omega)
        · have hcn : joinN list p.2.out list[p.1] p.2.now[w] p.1 = q.2 := (by (have h9 : q.1 = p.1 := by (simp at hb30; omega)); rw [hqe, h9])
          have hq2l : q.2.length = n.toNat := by rw [← hcn, joinN_len]; exact hcl
          have hwc : w < q.2.length := by omega
          have hwc2 : (w : Int) < (q.2.length : Int) := by omega
          have hck := ckStep_at hlt hw hwl hcn hwc
          have hk1 := congrArg Ck.now hck
          have hk2 := congrArg Ck.out hck
          dsimp only at hk1 hk2
          clear hb30
          refine W_exit ?_
          simp [go_sem]
          repeat refine ⟨by first | omega | grind, ?_⟩
          refine h25 _ ?_
          clear h29 K29 h25 K25
          refine W_seqK fun K35 h35 => ?_
          refine W_reg ?_
          simp [go_sem, ty3, ty22, ty54, hlt, hw, hwl, hwz, hwz2, hwc, hwc2]
          repeat refine ⟨by first | omega | grind, ?_⟩
          refine h35 _ ?_
          clear h35 K35
          refine W_seqK fun K36 h36 => ?_
          refine W_reg ?_
          simp [go_sem, ty3, ty22, ty45, ty54, hlt, hw, hwl, hwz, hwz2, hwc, hwc2]
          repeat refine ⟨by first | omega | grind, ?_⟩
          refine h36 _ ?_
          clear h36 K36
          refine W_reg ?_
          simp [go_sem, ty3, ty22, ty45, hlt, hw, hwl, hwz, hwz2, hwc, hwc2]
          refine callG_pc (fun hG => pc_slices_Clone_int_int (q.2.set w (IntKind.wrap .i64 (q.2[w] + 1))) (by simp; omega)) (by first | (simp; done) | (simp [inR_iff]; done) | (simp [inR_iff]; grind) | grind) (fun hG => by simp [go_sem, hlt, hw, hwl, hwz, hwz2, hwc, hwc2]) rfl rfl (by first | exact Or.inl rfl | exact Or.inr rfl) ?_
          simp [go_sem, ty22, ty45, hlt, hw, hwl, hwz, hwz2, hwc, hwc2]
          repeat refine ⟨by first | omega | grind, ?_⟩
          refine h22 _ ?_
          clear h22 K22
          refine W_reg ?_
          simp [go_sem, ty3, hlt, hw, hwl, hwz, hwz2, hwc, hwc2]
          refine ⟨p.1 + 1, ckStep list p.2 p.1, ?_, ?_, ?_⟩
          · exact (Sub.swp_row 67 41 rfl).trans (Sub.of_neat [1, 5, 6, 36, 37, 38] [1, 40, 41] [] 61 (by decide) (by simp [go_sem, wrap_succ (show p.1 < 9223372036854775807 by omega), hk1, hk2]))
          · exact ⟨hlt, by rw [hp]; rfl⟩
          · first | omega | (simp; omega)
      · have hil : p.1 = list.length := by simp at hb21; omega
        have q2 : clocks n list = p.2.out := by rw [q, hp, hil]
        clear hb21
        refine W_exit ?_
        simp [go_sem]
        repeat refine ⟨by first | omega | grind, ?_⟩
        refine h16 _ ?_
        clear h20 K20 h16 K16
        refine W_seqK fun K37 h37 => ?_
        refine W_reg ?_
        simp [go_sem, ty22, ty45]
        repeat refine ⟨by first | omega | grind, ?_⟩
        refine h37 _ ?_
        clear h37 K37
        refine W_ret ?_
        simp [go_sem, q2]
end Go.Tw
