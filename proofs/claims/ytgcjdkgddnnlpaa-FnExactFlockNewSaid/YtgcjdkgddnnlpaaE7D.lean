/- Walks of functions: spec.FlockNew -/
import Derived.Test.YtgcjdkgddnnlpaaE7B
import Derived.Test.YtgcjdkgddnnlpaaE6g2
set_option linter.unusedSimpArgs false
set_option linter.unusedVariables false
set_option linter.unnecessarySimpa false
namespace Go.Tw
open Go.Proofs

set_option maxRecDepth 100000 in
set_option maxHeartbeats 4000000 in
theorem pc_spec_FlockNew (n : Int) (mem : List Int) (starts : List Int) (hm : mem.length ≤ 1048576) (hs : starts.length ≤ 1048576) : PC Try.prog 10 [(false, [.int .i64 n]), (false, [.sl 1 (enc eI mem)]), (false, [.sl 1 (enc eI starts)])] [(true, eFlock (flockNew n mem starts)), (false, [.bool (flockNewOk n mem)])] := by
  refine PC_of (n := 76) Try.func10 rfl rfl rfl rfl (by simp) ?_
  refine W_seqK fun K1 h1 => ?_
  refine W_reg ?_
  simp [go_sem, ty4, ty29]
  repeat refine ⟨by first | omega | grind, ?_⟩
  refine h1 _ ?_
  clear h1 K1
  refine W_seqK fun K2 h2 => ?_
  refine W_reg ?_
  simp [go_sem, ty3]
  refine callG_pc (fun hG => pc_spec_WorldNew n) (by first | (simp; done) | (simp [inR_iff]; done) | (simp [inR_iff]; grind) | grind) (fun hG => by simp [go_sem]) rfl rfl (by first | exact Or.inl rfl | exact Or.inr rfl) ?_
  simp [go_sem, ty4, ty26]
  repeat refine ⟨by first | omega | grind, ?_⟩
  refine h2 _ ?_
  clear h2 K2
  refine W_seqK fun K3 h3 => ?_
  refine W_seqK fun K4 h4 => ?_
  refine W_reg ?_
  simp [go_sem, ty3, ty4, ty22]
  refine callG_pc (fun hG => pc_spec_l1Words mem 24 (by omega)) (by first | (simp; done) | (simp [inR_iff]; done) | (simp [inR_iff]; grind) | grind) (fun hG => by simp [go_sem]) rfl rfl (by first | exact Or.inl rfl | exact Or.inr rfl) ?_
  simp [go_sem, ty4]
  repeat refine ⟨by first | omega | grind, ?_⟩
  refine h4 _ ?_
  clear h4 K4
  refine W_cond rfl (fun hb5 => ?_) fun hb5 => ?_
  · have qk : flockNewOk n mem = false := by unfold flockNewOk; rcases Bool.eq_false_or_eq_true (inR n 1 4) with a | a <;> rcases Bool.eq_false_or_eq_true (wordsOk mem 24) with b | b <;> simp [a, b] at hb5 ⊢
    have q : flockNew n mem starts = zFlock := if_neg (by rw [qk]; decide)
    clear hb5
    refine W_seqK fun K6 h6 => ?_
    refine W_reg ?_
    simp [go_sem, ty4, ty29, fw29]
    repeat refine ⟨by first | omega | grind, ?_⟩
    refine h6 _ ?_
    clear h6 K6
    refine W_ret ?_
    simp [go_sem, ty29, q, qk, zFlock, zWorld, enc_nil]
  · have qk : flockNewOk n mem = true := by unfold flockNewOk; rcases Bool.eq_false_or_eq_true (inR n 1 4) with a | a <;> rcases Bool.eq_false_or_eq_true (wordsOk mem 24) with b | b <;> simp [a, b] at hb5 ⊢
    have q : flockNew n mem starts = ⟨⟨n, pagesN n.toNat mem (nodesN n n.toNat) 6, []⟩, coresN starts n.toNat⟩ := if_pos qk
    have qn : 1 ≤ n ∧ n ≤ 4 := by unfold flockNewOk inR at qk; simp at qk; omega
    have qw : worldNew n = ⟨n, nodesN n n.toNat, []⟩ := if_pos qn
    have qm : mem.length = 24 := by unfold flockNewOk wordsOk at qk; simp at qk; omega
    clear hb5
    refine W_skip ?_
    repeat refine ⟨by first | omega | grind, ?_⟩
    refine h3 _ ?_
    clear h3 K3
    refine W_seqK fun K7 h7 => ?_
    refine W_reg ?_
    simp [go_sem, ty26, ty29, fw29]
    repeat refine ⟨by first | omega | grind, ?_⟩
    refine h7 _ ?_
    clear h7 K7
    refine W_seqK fun K8 h8 => ?_
    refine W_seqK fun K9 h9 => ?_
    refine W_reg ?_
    simp [go_sem, ty3]
    repeat refine ⟨by first | omega | grind, ?_⟩
    refine h9 _ ?_
    clear h9 K9
    refine W_block ?_
    refine W_loopI (α := Nat) (fun i => ({ env := [(0, true, .l (.t (.int .i64 (n)))), (1, true, .l (.ref 1 [] 1 0 (mem).length)), (2, true, .l (.ref 2 [] 1 0 (starts).length)), (6, true, .l (.ptr 3 0)), (10, true, .l (.ptr 11 0)), (11, true, .l (.t (.int .i64 (i))))], box := [(3, [.t (.int .i64 0), .nil, .nil, .nil]), (11, [.t (.int .i64 ((worldNew n).size)), .ref 44 [] 5 0 (pagesN n.toNat mem (nodesN n n.toNat) i).length, .ref 6 [] 8 0 ((worldNew n).net).length, .nil])], row := [(1, ⟨.ro, 1, enc eI mem⟩), (2, ⟨.ro, 1, enc eI starts⟩), (6, ⟨.own, 8, enc ePacket ((worldNew n).net)⟩), (44, ⟨.own, 5, enc eNode (pagesN n.toNat mem (nodesN n n.toNat) i)⟩)], nxt := 64, sav := [] } : St)) (fun i => i ≤ 6) (fun i => 6 - i) 0 ?_ ?_ ?_
    · exact (Sub.swp_row 5 44 rfl).trans (Sub.of_neat [0, 1, 2, 6, 10, 11] [1, 2, 6, 44] [3, 11] 64 (by decide) (by simp [go_sem, qw, pagesN, nodesN_len]))
    · exact Nat.zero_le _
    rintro i hinv
    refine W_seqK fun K11 h11 => ?_
    refine W_seqK fun K12 h12 => ?_
    refine W_reg ?_
    simp [go_sem, ty3, ty4]
    repeat refine ⟨by first | omega | grind, ?_⟩
    refine h12 _ ?_
    clear h12 K12
    refine W_cond rfl (fun hb13 => ?_) fun hb13 => ?_
    · have hlt : i < 6 := by simp at hb13; omega
      clear hb13
      refine W_skip ?_
      repeat refine ⟨by first | omega | grind, ?_⟩
      refine h11 _ ?_
      clear h11 K11
      refine W_seqK fun K14 h14 => ?_
      refine W_block ?_
      refine W_drawS true (.op 0 (.op 1 (.op 3 (.op 4 (.op 5 (.op 9 (.op 11 (.op 12 (.op 13 (.op 14 (.op 15 (.op 16 (.op 17 (.fork 2 (.op 6 (.op 7 (.fork 8 (.op 10 (.op 18 (.op 19 (.op 20 (.op 21 .nil))))) 10 (.fork 8 (.op 18 (.op 19 (.op 20 (.op 21 .nil)))) 18 (.op 8 (.op 19 (.op 20 (.op 21 .nil)))))))) 10 (.fork 2 (.op 6 (.op 7 (.fork 8 (.op 18 (.op 19 (.op 20 (.op 21 .nil)))) 18 (.op 8 (.op 19 (.op 20 (.op 21 .nil))))))) 18 (.op 2 (.op 6 (.op 7 (.op 8 (.op 19 (.op 20 (.op 21 .nil)))))))))))))))))))))) mixed (by decide +kernel) rfl ?_
      have hw0 : IntKind.wrap .i64 (i : Int) = (i : Int) := wrap_ok (by omega) (by omega)
      have hw1 : IntKind.wrap .i64 ((i : Int) * 4) = (i : Int) * 4 := wrap_ok (by omega) (by omega)
      have hw2 : IntKind.wrap .i64 ((i : Int) * 4 + 4) = (i : Int) * 4 + 4 := wrap_ok (by omega) (by omega)
      have hs1 : (0 : Int) ≤ (i : Int) * 4 := by omega
      have hs2 : (i : Int) * 4 ≤ (i : Int) * 4 + 4 := by omega
      have hs3 : (i : Int) * 4 + 4 ≤ (mem.length : Int) := by omega
      have ht1 : ((i : Int) * 4).toNat = i * 4 := by omega
      have ht2 : ((i : Int) * 4 + 4).toNat = i * 4 + 4 := by omega
      have ht3 : i * 4 + 4 - i * 4 = 4 := by omega
      have hs4 : i * 4 + 4 ≤ mem.length := by omega
      have hs5 : (0 : Int) ≤ (i : Int) * 4 + 4 := by omega
      have hn0 : ¬ n = 0 := by omega
      have hL : (pagesN n.toNat mem (nodesN n n.toNat) i).length = n.toNat := by rw [pagesN_len, nodesN_len]
      obtain ⟨d, hdd, hd⟩ : ∃ d : Nat, d = i % n.toNat ∧ (i : Int).tmod n = (d : Int) := ⟨_, rfl, by (have hz : ((n.toNat : Nat) : Int) = n := Int.toNat_of_nonneg (by omega)); rw [Int.tmod_eq_emod_of_nonneg (by omega), Int.natCast_emod, hz]⟩
      have hdl : d < (pagesN n.toNat mem (nodesN n n.toNat) i).length := by rw [hL, hdd]; exact Nat.mod_lt _ (by omega)
      have hd1 : (d : Int) < ((pagesN n.toNat mem (nodesN n n.toNat) i).length : Int) := by omega
      have hd0 : (0 : Int) ≤ (d : Int) := by omega
      have hh6 : (pagesN n.toNat mem (nodesN n n.toNat) i)[d].homes.length = 6 := pagesN_homes (nodesN_homes qn (by omega)) i _ (List.getElem_mem hdl)
      have hi6 : i < (pagesN n.toNat mem (nodesN n n.toNat) i)[d].homes.length := by omega
      have hi7 : (i : Int) < ((pagesN n.toNat mem (nodesN n n.toNat) i)[d].homes.length : Int) := by omega
      have hns : (pagesN n.toNat mem (nodesN n n.toNat) i).set d ⟨(pagesN n.toNat mem (nodesN n n.toNat) i)[d].id, (pagesN n.toNat mem (nodesN n n.toNat) i)[d].frames, (pagesN n.toNat mem (nodesN n n.toNat) i)[d].homes.set i ⟨pageW mem i, (pagesN n.toNat mem (nodesN n n.toNat) i)[d].homes[i].owner, (pagesN n.toNat mem (nodesN n n.toNat) i)[d].homes[i].readers, (pagesN n.toNat mem (nodesN n n.toNat) i)[d].homes[i].busy, (pagesN n.toNat mem (nodesN n n.toNat) i)[d].homes[i].now, (pagesN n.toNat mem (nodesN n n.toNat) i)[d].homes[i].acks, (pagesN n.toNat mem (nodesN n n.toNat) i)[d].homes[i].queue⟩, (pagesN n.toNat mem (nodesN n n.toNat) i)[d].out, (pagesN n.toNat mem (nodesN n n.toNat) i)[d].in_⟩ = pagesN n.toNat mem (nodesN n n.toNat) (i + 1) := by subst hdd; exact (putPage_at hdl hi6).symm
      have hpw : pageW mem i = (mem.drop (i * 4)).take 4 := rfl
      rw [hpw] at hns
      clear hpw hdd
      have hpl : min 4 (mem.length - i * 4) = 4 := by omega
      simp (config := {maxSteps := 10000000}) [go_sem, ty3, ty22, ty26, ty29, hw0, hw1, hw2, hs1, hs2, hs3, ht1, ht2, ht3, hs4, hs5, hn0, hd, hdl, hd1, hd0, hi6, hi7, hpl]
      refine ⟨?_, ?_⟩
      · try simp (config := {maxSteps := 10000000}) [go_sem, ty23, ty103, hw0, hw1, hw2, hs1, hs2, hs3, ht1, ht2, ht3, hs4, hs5, hn0, hd, hdl, hd1, hd0, hi6, hi7, hpl]
        refine ⟨?_, ?_⟩
        · simp (config := {maxSteps := 10000000}) [go_sem, ty3, ty22, ty97, ty99, hw0, hw1, hw2, hs1, hs2, hs3, ht1, ht2, ht3, hs4, hs5, hn0, hd, hdl, hd1, hd0, hi6, hi7, hpl]
          repeat refine ⟨by first | omega | grind, ?_⟩
          refine h14 _ ?_
          clear h14 K14
          refine W_reg ?_
          simp [go_sem, ty3]
          refine ⟨i + 1, ?_, ?_, ?_⟩
          · exact Sub.of_neat [0, 1, 2, 6, 10, 11] [1, 2, 6, 44] [3, 11] 64 (by decide) (by simp [go_sem, wrap_succ (show i < 9223372036854775807 by omega), hns, pagesN_len, nodesN_len])
          · exact hlt
          · omega
        · try simp (config := {maxSteps := 10000000}) [go_sem, ty3, ty22, ty97, ty99, hw0, hw1, hw2, hs1, hs2, hs3, ht1, ht2, ht3, hs4, hs5, hn0, hd, hdl, hd1, hd0, hi6, hi7, hpl]
          try (apply And.intro)
          all_goals
            repeat refine ⟨by first | omega | grind, ?_⟩
            refine h14 _ ?_
            clear h14 K14
            refine W_reg ?_
            simp [go_sem, ty3]
            refine ⟨i + 1, ?_, ?_, ?_⟩
            · exact Sub.of_neat [0, 1, 2, 6, 10, 11] [1, 2, 6, 44] [3, 11] 64 (by decide) (by simp [go_sem, wrap_succ (show i < 9223372036854775807 by omega), hns, pagesN_len, nodesN_len])
            · exact hlt
            · omega
      · try simp (config := {maxSteps := 10000000}) [go_sem, ty3, ty22, ty23, ty97, ty99, ty103, hw0, hw1, hw2, hs1, hs2, hs3, ht1, ht2, ht3, hs4, hs5, hn0, hd, hdl, hd1, hd0, hi6, hi7, hpl]
        try (apply And.intro)
        all_goals
          repeat refine ⟨by first | omega | grind, ?_⟩
          refine h14 _ ?_
          clear h14 K14
          refine W_reg ?_
          simp [go_sem, ty3]
          refine ⟨i + 1, ?_, ?_, ?_⟩
          · exact Sub.of_neat [0, 1, 2, 6, 10, 11] [1, 2, 6, 44] [3, 11] 64 (by decide) (by simp [go_sem, wrap_succ (show i < 9223372036854775807 by omega), hns, pagesN_len, nodesN_len])
          · exact hlt
          · omega
    · have hil6 : i = 6 := by simp at hb13; omega
      clear hb13
      refine W_exit ?_
      simp [go_sem]
      repeat refine ⟨by first | omega | grind, ?_⟩
      refine h8 _ ?_
      clear h11 K11 h8 K8
      refine W_seqK fun K15 h15 => ?_
      refine W_seqK fun K16 h16 => ?_
      refine W_reg ?_
      simp [go_sem, ty3]
      repeat refine ⟨by first | omega | grind, ?_⟩
      refine h16 _ ?_
      clear h16 K16
      refine W_block ?_
      refine W_loopI (α := Nat) (fun k => ({ env := [(0, true, .l (.t (.int .i64 (n)))), (2, true, .l (.ref 2 [] 1 0 (starts).length)), (6, true, .l (.ptr 3 0)), (10, true, .l (.ptr 11 0)), (12, true, .l (.t (.int .i64 (k))))], box := [(3, [.t (.int .i64 0), .nil, .nil, .nil]), (11, [.t (.int .i64 ((worldNew n).size)), .ref 44 [] 5 0 (pagesN n.toNat mem (nodesN n n.toNat) i).length, .ref 6 [] 8 0 ((worldNew n).net).length, .ref 45 [] 4 0 (coresN starts k).length])], row := [(2, ⟨.ro, 1, enc eI starts⟩), (6, ⟨.own, 8, enc ePacket ((worldNew n).net)⟩), (44, ⟨.own, 5, enc eNode (pagesN n.toNat mem (nodesN n n.toNat) i)⟩), (45, ⟨.own, 4, enc eCore (coresN starts k)⟩)], nxt := 65, sav := [] } : St)) (fun k => (k : Int) ≤ n) (fun k => n.toNat - k) 0 ?_ ?_ ?_
      · exact (Sub.nilBox (k := 11) (j := 3) (nm := 45) (z := 4) (by rfl) (by rfl) (by rfl)).trans (Sub.of_neat [0, 2, 6, 10, 12] [2, 6, 44, 45] [3, 11] 65 (by decide) (by simp [go_sem, coresN, enc_nil]))
      · show ((0 : Nat) : Int) ≤ n; omega
      rintro k hinv
      refine W_seqK fun K18 h18 => ?_
      refine W_seqK fun K19 h19 => ?_
      refine W_reg ?_
      simp [go_sem, ty3, ty4]
      repeat refine ⟨by first | omega | grind, ?_⟩
      refine h19 _ ?_
      clear h19 K19
      refine W_cond rfl (fun hb20 => ?_) fun hb20 => ?_
      · have hlt : (k : Int) < n := by simpa using hb20
        have hns : coresN starts k ++ [⟨hartNew (starts.getD k 0), []⟩] = coresN starts (k + 1) := (coresN_succ starts k).symm
        have hnx (x : Int) : enc eCore (coresN starts k) ++ [[T.sl 1 (enc eI (hartNew x).regs), T.int .i64 (hartNew x).pc, T.int .i64 (hartNew x).state, T.sl 2 []]] = enc eCore (coresN starts k ++ [⟨hartNew x, []⟩]) := snoc_eCore _ (hartNew x).regs (hartNew x).pc (hartNew x).state []
        clear hb20
        refine W_skip ?_
        repeat refine ⟨by first | omega | grind, ?_⟩
        refine h18 _ ?_
        clear h18 K18
        refine W_seqK fun K21 h21 => ?_
        refine W_block ?_
        refine W_seqK fun K22 h22 => ?_
        refine W_reg ?_
        simp [go_sem, ty3]
        repeat refine ⟨by first | omega | grind, ?_⟩
        refine h22 _ ?_
        clear h22 K22
        refine W_seqK fun K23 h23 => ?_
        refine W_seqK fun K24 h24 => ?_
        refine W_reg ?_
        simp [go_sem, ty3, ty4, ty22]
        repeat refine ⟨by first | omega | grind, ?_⟩
        refine h24 _ ?_
        clear h24 K24
        refine W_cond rfl (fun hb25 => ?_) fun hb25 => ?_
        · have hkl : k < starts.length := by simp at hb25; omega
          have hk1 : (k : Int) < (starts.length : Int) := by omega
          have hns0 : coresN starts k ++ [⟨hartNew (starts[k]?.getD 0), []⟩] = coresN starts (k + 1) := by rw [← hns]; simp
          clear hb25
          refine W_reg ?_
          simp [go_sem, ty3, ty22]
          repeat refine ⟨by first | omega | grind, ?_⟩
          refine h23 _ ?_
          clear h23 K23
          refine W_drawT true mixed (by decide +kernel) ?_
          simp [go_sem, ty3, ty27, ty29, ty61, ty107]
          refine callG_pc (fun hG => pc_spec_HartNew (starts.getD k 0)) (by first | (simp; done) | (simp [inR_iff]; done) | (simp [inR_iff]; grind) | grind) (fun hG => by simp [go_sem]) rfl rfl (by first | exact Or.inl rfl | exact Or.inr rfl) ?_
          simp [go_sem, ty27, ty29, ty107, fw107]
          refine ⟨by rw [coresN_len]; omega, ?_⟩
          repeat refine ⟨by first | omega | grind, ?_⟩
          refine h21 _ ?_
          clear h21 K21
          refine W_reg ?_
          simp [go_sem, ty3]
          refine ⟨k + 1, ?_, ?_, ?_⟩
          · exact (Sub.swp_row 69 45 rfl).trans (Sub.of_neat [0, 2, 6, 10, 12] [2, 6, 44, 45] [3, 11] 65 (by decide) (by simp [go_sem, wrap_succ (show k < 9223372036854775807 by omega), hnx, hns0, coresN_len]))
          · show ((k + 1 : Nat) : Int) ≤ n; omega
          · show n.toNat - (k + 1) < n.toNat - k; omega
        · have hk2 : starts.getD k 0 = 0 := by (have : starts.length ≤ k := by (simp at hb25; omega)); simp [this]
          have hns0 : coresN starts k ++ [⟨hartNew 0, []⟩] = coresN starts (k + 1) := by rw [← hns, hk2]
          clear hb25
          refine W_skip ?_
          repeat refine ⟨by first | omega | grind, ?_⟩
          refine h23 _ ?_
          clear h23 K23
          refine W_drawT true mixed (by decide +kernel) ?_
          simp [go_sem, ty3, ty27, ty29, ty61, ty107]
          refine callG_pc (fun hG => pc_spec_HartNew 0) (by first | (simp; done) | (simp [inR_iff]; done) | (simp [inR_iff]; grind) | grind) (fun hG => by simp [go_sem]) rfl rfl (by first | exact Or.inl rfl | exact Or.inr rfl) ?_
          simp [go_sem, ty27, ty29, ty107, fw107]
          refine ⟨by rw [coresN_len]; omega, ?_⟩
          repeat refine ⟨by first | omega | grind, ?_⟩
          refine h21 _ ?_
          clear h21 K21
          refine W_reg ?_
          simp [go_sem, ty3]
          refine ⟨k + 1, ?_, ?_, ?_⟩
          · exact (Sub.swp_row 69 45 rfl).trans (Sub.of_neat [0, 2, 6, 10, 12] [2, 6, 44, 45] [3, 11] 65 (by decide) (by simp [go_sem, wrap_succ (show k < 9223372036854775807 by omega), hnx, hns0, coresN_len]))
          · show ((k + 1 : Nat) : Int) ≤ n; omega
          · show n.toNat - (k + 1) < n.toNat - k; omega
      · have hil : k = n.toNat := by simp at hb20; omega
        clear hb20
        refine W_exit ?_
        simp [go_sem]
        repeat refine ⟨by first | omega | grind, ?_⟩
        refine h15 _ ?_
        clear h18 K18 h15 K15
        refine W_seqK fun K26 h26 => ?_
        refine W_reg ?_
        simp [go_sem, ty4, ty29]
        repeat refine ⟨by first | omega | grind, ?_⟩
        refine h26 _ ?_
        clear h26 K26
        refine W_ret ?_
        simp [go_sem, ty29, q, qk, hil6, hil, qw, enc_nil]
end Go.Tw
