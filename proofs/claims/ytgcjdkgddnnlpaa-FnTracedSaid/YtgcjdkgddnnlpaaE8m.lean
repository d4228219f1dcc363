/- Walks of functions: spec.Code, spec.l9DrawMem -/
import Derived.Test.YtgcjdkgddnnlpaaE6l
import Derived.Test.YtgcjdkgddnnlpaaE6g
import Derived.Test.YtgcjdkgddnnlpaaBaseF
set_option linter.unusedSimpArgs false
set_option linter.unusedVariables false
set_option linter.unnecessarySimpa false
namespace Go.Tw
open Go.Proofs

set_option maxRecDepth 100000 in
set_option maxHeartbeats 4000000 in
theorem pc_spec_Code (x : GIns)  : PC Try.prog 146 [(true, eIns x)] [(false, [.int .i64 (codeOf x)]), (false, [.bool (insOk x)])] := by
  refine PC_of (n := 25) Try.func146 rfl rfl rfl rfl (by simp) ?_
  refine W_seqK fun K1 h1 => ?_
  refine W_reg ?_
  simp [go_sem, ty3, ty4, ty68]
  repeat refine ⟨by first | omega | grind, ?_⟩
  refine h1 _ ?_
  clear h1 K1
  refine W_seqK fun K2 h2 => ?_
  refine W_seqK fun K3 h3 => ?_
  refine W_reg ?_
  simp [go_sem, ty4, ty68]
  refine callG_pc (fun hG => pc_spec_InsOk x) (by first | (simp; done) | (simp [inR_iff]; done) | (simp [inR_iff]; grind) | grind) (fun hG => by simp [go_sem]) rfl rfl (by first | exact Or.inl rfl | exact Or.inr rfl) ?_
  simp [go_sem, ty4]
  repeat refine ⟨by first | omega | grind, ?_⟩
  refine h3 _ ?_
  clear h3 K3
  refine W_cond rfl (fun hb4 => ?_) fun hb4 => ?_
  · have qi : insOk x = false := by simpa using hb4
    have qc : codeOf x = 0 := if_neg (by simp [qi])
    clear hb4
    refine W_seqK fun K5 h5 => ?_
    refine W_reg ?_
    simp [go_sem, ty3, ty4]
    repeat refine ⟨by first | omega | grind, ?_⟩
    refine h5 _ ?_
    clear h5 K5
    refine W_ret ?_
    simp [go_sem, qi, qc]
  · have qi : insOk x = true := by simpa using hb4
    have qc := code_wrap qi
    clear hb4
    refine W_skip ?_
    repeat refine ⟨by first | omega | grind, ?_⟩
    refine h2 _ ?_
    clear h2 K2
    refine W_seqK fun K6 h6 => ?_
    refine W_reg ?_
    simp [go_sem, ty3, ty4, ty68]
    repeat refine ⟨by first | omega | grind, ?_⟩
    refine h6 _ ?_
    clear h6 K6
    refine W_ret ?_
    simp [go_sem, qi, qc]

set_option maxRecDepth 100000 in
set_option maxHeartbeats 4000000 in
theorem pd_spec_l9DrawMem (cs : List Int) (hcs : cs.length ≤ 1048576)   : PD Try.prog 109 (enc eU cs) [] (fun (x : List Int) => x.length = 24) (fun (x : List Int) => [(false, [.sl 1 (enc eI x)])]) := by
  refine PD_of (n := 86) Try.func109 rfl rfl rfl rfl (by simp) fun a0 ci ch hci => ?_
  refine W_seqK fun K1 h1 => ?_
  refine W_reg ?_
  simp [go_sem, ty3, ty22]
  repeat refine ⟨by first | omega | grind, ?_⟩
  refine h1 _ ?_
  clear h1 K1
  refine W_seqK fun K2 h2 => ?_
  refine W_reg ?_
  simp [go_sem, ty3, ty22]
  repeat refine ⟨by first | omega | grind, ?_⟩
  refine h2 _ ?_
  clear h2 K2
  refine W_seqK fun K3 h3 => ?_
  refine W_seqK fun K4 h4 => ?_
  refine W_reg ?_
  simp [go_sem, ty3]
  repeat refine ⟨by first | omega | grind, ?_⟩
  refine h4 _ ?_
  clear h4 K4
  refine W_block ?_
  refine W_loopI (α := Nat × Int × Int × List Int) (fun p => ({ env := [(0, true, .l (.ptr 0 0)), (3, true, .l (.ref 40 [] 1 0 (p.2.2.2.length))), (4, true, .l (.t (.int .i64 (p.1))))], box := [(0, [.ref 0 [] 1 0 cs.length, .t (.int .i64 p.2.1), .t (.int .i64 p.2.2.1)])], row := [(0, ⟨.ro, 1, enc eU cs⟩), (40, ⟨.own, 1, enc eI p.2.2.2⟩)], nxt := 60, sav := [([(0, true, .l (.ptr 0 0)), (1, true, .l (.ref 0 [] 1 0 cs.length))], a0)] } : St)) (fun p => p.1 ≤ 24 ∧ 0 ≤ p.2.1 ∧ p.2.2.2.length = p.1) (fun p => 24 - p.1) (0, ci, ch, []) ?_ ?_ ?_
  · exact (Sub.nilRow (t := 3) (nm := 40) (z := 1) (by rfl) (by rfl)).trans (Sub.of_neat [0, 3, 4] [0, 40] [0] 60 (by decide) (by simp [go_sem, enc_nil]))
  · exact ⟨by omega, hci, rfl⟩
  rintro p hinv
  refine W_seqK fun K6 h6 => ?_
  refine W_seqK fun K7 h7 => ?_
  refine W_reg ?_
  simp [go_sem, ty3, ty4]
  repeat refine ⟨by first | omega | grind, ?_⟩
  refine h7 _ ?_
  clear h7 K7
  refine W_cond rfl (fun hb8 => ?_) fun hb8 => ?_
  · have hlt : p.1 < 24 := by simp at hb8; omega
    clear hb8
    refine W_skip ?_
    repeat refine ⟨by first | omega | grind, ?_⟩
    refine h6 _ ?_
    clear h6 K6
    refine W_seqK fun K9 h9 => ?_
    refine W_block ?_
    refine W_seqK fun K10 h10 => ?_
    refine W_reg ?_
    simp [go_sem, ty68]
    refine callG_true (by simp) (CallW_draw (pd_spec_l8DrawIns cs hcs ) rfl rfl (by simp [go_sem]) hinv.2.1 (by simp [go_sem]) _ (fun _ => rfl) rfl ?_)
    rintro i11 g11 hi11 x11 hq11
    simp [go_sem, ty68]
    refine callG_pc (fun hG => pc_spec_Code x11) (by first | (simp; done) | (simp [inR_iff]; done) | (simp [inR_iff]; grind) | grind) (fun hG => by simp [go_sem]) rfl rfl (by first | exact Or.inl rfl | exact Or.inr rfl) ?_
    simp [go_sem, ty3, ty4]
    repeat refine ⟨by first | omega | grind, ?_⟩
    refine h10 _ ?_
    clear h10 K10
    refine W_seqK fun K12 h12 => ?_
    refine W_seqK fun K13 h13 => ?_
    refine W_reg ?_
    simp [go_sem, ty3, ty4]
    refine callG_draw (fun hG => pd_spec_l1Once cs hcs 9) (by first | (simp; done) | grind) rfl rfl (by simp [go_sem]) hi11 (fun hG => by simp [go_sem]) _ (fun _ => rfl) rfl (fun _ => rfl) ?_
    rintro i14 g14 hi14 b14 hq14
    simp [go_sem, ty4]
    repeat refine ⟨by first | omega | grind, ?_⟩
    refine h13 _ ?_
    clear h13 K13
    refine W_cond rfl (fun hb15 => ?_) fun hb15 => ?_
    · clear hb15
      refine W_reg ?_
      simp [go_sem, ty3, ty22]
      refine callG_true (by simp) (CallW_draw (pd_spec_l1PickInt cs hcs ([0, 1, 5, 65535]) (by first | omega | (simp; done) | (simp; omega)) (by first | omega | (simp; done) | (simp; omega))) rfl rfl (by simp [go_sem]) hi14 (by simp [go_sem, enc, eI]) _ (fun _ => rfl) rfl ?_)
      rintro i16 g16 hi16 x16 hq16
      try dsimp only at hq16
      simp [go_sem, ty3]
      repeat refine ⟨by first | omega | grind, ?_⟩
      refine h12 _ ?_
      clear h12 K12
      refine W_reg ?_
      simp [go_sem, ty3, ty22]
      repeat refine ⟨by first | omega | grind, ?_⟩
      refine h9 _ ?_
      clear h9 K9
      refine W_reg ?_
      simp [go_sem, ty3]
      refine ⟨p.1 + 1, i16, g16, p.2.2.2 ++ [x16], ?_, ?_, ?_⟩
      · exact (Sub.swp_row 71 40 rfl).trans (Sub.of_neat [0, 3, 4] [0, 40] [0] 60 (by decide) (by simp [go_sem, wrap_succ (show p.1 < 9223372036854775807 by omega)]))
      · first | omega | (simp; omega) | grind
      · first | omega | (simp only; omega)
    · clear hb15
      refine W_skip ?_
      repeat refine ⟨by first | omega | grind, ?_⟩
      refine h12 _ ?_
      clear h12 K12
      refine W_reg ?_
      simp [go_sem, ty3, ty22]
      repeat refine ⟨by first | omega | grind, ?_⟩
      refine h9 _ ?_
      clear h9 K9
      refine W_reg ?_
      simp [go_sem, ty3]
      refine ⟨p.1 + 1, i14, g14, p.2.2.2 ++ [codeOf x11], ?_, ?_, ?_⟩
      · exact (Sub.swp_row 69 40 rfl).trans (Sub.of_neat [0, 3, 4] [0, 40] [0] 60 (by decide) (by simp [go_sem, wrap_succ (show p.1 < 9223372036854775807 by omega)]))
      · first | omega | (simp; omega) | grind
      · first | omega | (simp only; omega)
  · have hil : p.1 = 24 := by simp at hb8; omega
    clear hb8
    refine W_exit ?_
    simp [go_sem]
    repeat refine ⟨by first | omega | grind, ?_⟩
    refine h3 _ ?_
    clear h6 K6 h3 K3
    refine W_seqK fun K17 h17 => ?_
    refine W_seqK fun K18 h18 => ?_
    refine W_reg ?_
    simp [go_sem, ty3]
    refine callG_true (by simp) (CallW_draw (pd_spec_l1Below cs hcs 4) rfl rfl (by simp [go_sem]) hinv.2.1 (by simp [go_sem]) _ (fun _ => rfl) rfl ?_)
    rintro i19 g19 hi19 x19 hq19
    try dsimp only at hq19
    simp [go_sem]
    repeat refine ⟨by first | omega | grind, ?_⟩
    refine h18 _ ?_
    clear h18 K18
    refine W_block ?_
    refine W_seqK fun K20 h20 => ?_
    refine W_reg ?_
    simp [go_sem, ty3, ty4]
    repeat refine ⟨by first | omega | grind, ?_⟩
    refine h20 _ ?_
    clear h20 K20
    refine W_cond rfl (fun hb21 => ?_) fun hb21 => ?_
    · try simp at hb21
      refine W_seqK fun K22 h22 => ?_
      refine W_reg ?_
      simp [go_sem, ty68, ty179, fw68]
      repeat refine ⟨by first | omega | grind, ?_⟩
      refine h22 _ ?_
      clear h22 K22
      refine W_seqK fun K23 h23 => ?_
      refine W_reg ?_
      simp [go_sem, ty3]
      repeat refine ⟨by first | omega | grind, ?_⟩
      refine h23 _ ?_
      clear h23 K23
      refine W_block ?_
      refine W_loopI (α := Nat × List Int × List GIns) (fun q => ({ env := [(0, true, .l (.ptr 0 0)), (3, true, .l (.ref 40 [] 1 0 (q.2.1.length))), (7, true, .l (.ref 61 [] 5 0 (q.2.2.length))), (8, true, .l (.t (.int .i64 (q.1))))], box := [(0, [.ref 0 [] 1 0 cs.length, .t (.int .i64 i19), .t (.int .i64 g19)])], row := [(0, ⟨.ro, 1, enc eU cs⟩), (40, ⟨.own, 1, enc eI q.2.1⟩), (61, ⟨.own, 5, enc eIns q.2.2⟩)], nxt := 80, sav := [([(0, true, .l (.ptr 0 0)), (1, true, .l (.ref 0 [] 1 0 cs.length))], a0)] } : St)) (fun q => q.1 ≤ 4 ∧ q.2.1.length = 24 ∧ q.2.2.length = 4) (fun q => 4 - q.1) (0, p.2.2.2, [⟨1, 1, 0, 0, 1⟩, ⟨6, 2, 0, 1, 20⟩, ⟨10, 3, 2, 1, 0⟩, ⟨8, 0, 0, 0, 1⟩]) ?_ ?_ ?_
      · exact Sub.of_neat [0, 3, 7, 8] [0, 40, 61] [0] 80 (by decide) (by simp [go_sem, enc, eIns])
      · exact ⟨by omega, by simp only; omega, rfl⟩
      rintro q hinv
      refine W_seqK fun K25 h25 => ?_
      refine W_seqK fun K26 h26 => ?_
      refine W_reg ?_
      simp [go_sem, ty3, ty4, ty68, ty179]
      repeat refine ⟨by first | omega | grind, ?_⟩
      refine h26 _ ?_
      clear h26 K26
      refine W_cond rfl (fun hb27 => ?_) fun hb27 => ?_
      · have hlt : q.1 < q.2.2.length := by simp at hb27; omega
        have hlt2 : q.1 < q.2.1.length := by omega
        clear hb27
        refine W_skip ?_
        repeat refine ⟨by first | omega | grind, ?_⟩
        refine h25 _ ?_
        clear h25 K25
        refine W_seqK fun K28 h28 => ?_
        refine W_block ?_
        refine W_reg ?_
        simp [go_sem, ty3, ty22, ty68, ty179, hlt, hlt2]
        refine callG_pc (fun hG => pc_spec_Code q.2.2[q.1]) (by first | (simp; done) | (simp [inR_iff]; done) | (simp [inR_iff]; grind) | grind) (fun hG => by simp [go_sem, hlt]) rfl rfl (by first | exact Or.inl rfl | exact Or.inr rfl) ?_
        simp [go_sem, ty3, ty4, ty22, hlt, hlt2]
        repeat refine ⟨by first | omega | grind, ?_⟩
        refine h28 _ ?_
        clear h28 K28
        refine W_reg ?_
        simp [go_sem, ty3]
        refine ⟨q.1 + 1, q.2.1.set q.1 (codeOf q.2.2[q.1]), q.2.2, ?_, ?_, ?_⟩
        · exact Sub.of_neat [0, 3, 7, 8] [0, 40, 61] [0] 80 (by decide) (by simp [go_sem, hlt, wrap_succ (show q.1 < 9223372036854775807 by omega)])
        · first | omega | (simp; omega) | grind
        · first | omega | (simp only; omega)
      · clear hb27
        refine W_exit ?_
        simp [go_sem]
        repeat refine ⟨by first | omega | grind, ?_⟩
        refine h17 _ ?_
        clear h25 K25 h17 K17
        refine W_seqK fun K29 h29 => ?_
        refine W_reg ?_
        simp [go_sem, ty3, ty22]
        repeat refine ⟨by first | omega | grind, ?_⟩
        refine h29 _ ?_
        clear h29 K29
        refine W_ret ?_
        refine OutD_in q.2.1 (by first | trivial | omega | grind) ⟨_, _, _, _, _, _, _, rfl, rfl, rfl, rfl, rfl, by simp [go_sem], hi19⟩ ?_
        simp [go_sem, hb21]
    · try simp at hb21
      refine W_seqK fun K30 h30 => ?_
      refine W_reg ?_
      simp [go_sem, ty3, ty4]
      repeat refine ⟨by first | omega | grind, ?_⟩
      refine h30 _ ?_
      clear h30 K30
      refine W_cond rfl (fun hb31 => ?_) fun hb31 => ?_
      · try simp at hb31
        refine W_seqK fun K32 h32 => ?_
        refine W_reg ?_
        simp [go_sem, ty68, ty179, fw68]
        repeat refine ⟨by first | omega | grind, ?_⟩
        refine h32 _ ?_
        clear h32 K32
        refine W_seqK fun K33 h33 => ?_
        refine W_reg ?_
        simp [go_sem, ty3]
        repeat refine ⟨by first | omega | grind, ?_⟩
        refine h33 _ ?_
        clear h33 K33
        refine W_block ?_
        refine W_loopI (α := Nat × List Int × List GIns) (fun q => ({ env := [(0, true, .l (.ptr 0 0)), (3, true, .l (.ref 40 [] 1 0 (q.2.1.length))), (9, true, .l (.ref 61 [] 5 0 (q.2.2.length))), (10, true, .l (.t (.int .i64 (q.1))))], box := [(0, [.ref 0 [] 1 0 cs.length, .t (.int .i64 i19), .t (.int .i64 g19)])], row := [(0, ⟨.ro, 1, enc eU cs⟩), (40, ⟨.own, 1, enc eI q.2.1⟩), (61, ⟨.own, 5, enc eIns q.2.2⟩)], nxt := 80, sav := [([(0, true, .l (.ptr 0 0)), (1, true, .l (.ref 0 [] 1 0 cs.length))], a0)] } : St)) (fun q => q.1 ≤ 4 ∧ q.2.1.length = 24 ∧ q.2.2.length = 4) (fun q => 4 - q.1) (0, p.2.2.2, [⟨4, 1, 0, 0, 8⟩, ⟨3, 1, 1, 0, 1⟩, ⟨5, 0, 0, 1, 8⟩, ⟨8, 0, 0, 0, 8⟩]) ?_ ?_ ?_
        · exact Sub.of_neat [0, 3, 9, 10] [0, 40, 61] [0] 80 (by decide) (by simp [go_sem, enc, eIns])
        · exact ⟨by omega, by simp only; omega, rfl⟩
        rintro q hinv
        refine W_seqK fun K35 h35 => ?_
        refine W_seqK fun K36 h36 => ?_
        refine W_reg ?_
        simp [go_sem, ty3, ty4, ty68, ty179]
        repeat refine ⟨by first | omega | grind, ?_⟩
        refine h36 _ ?_
        clear h36 K36
        refine W_cond rfl (fun hb37 => ?_) fun hb37 => ?_
        · have hlt : q.1 < q.2.2.length := by simp at hb37; omega
          have hlt2 : q.1 < q.2.1.length := by omega
          clear hb37
          refine W_skip ?_
          repeat refine ⟨by first | omega | grind, ?_⟩
          refine h35 _ ?_
          clear h35 K35
          refine W_seqK fun K38 h38 => ?_
          refine W_block ?_
          refine W_reg ?_
          simp [go_sem, ty3, ty22, ty68, ty179, hlt, hlt2]
          refine callG_pc (fun hG => pc_spec_Code q.2.2[q.1]) (by first | (simp; done) | (simp [inR_iff]; done) | (simp [inR_iff]; grind) | grind) (fun hG => by simp [go_sem, hlt]) rfl rfl (by first | exact Or.inl rfl | exact Or.inr rfl) ?_
          simp [go_sem, ty3, ty4, ty22, hlt, hlt2]
          repeat refine ⟨by first | omega | grind, ?_⟩
          refine h38 _ ?_
          clear h38 K38
          refine W_reg ?_
          simp [go_sem, ty3]
          refine ⟨q.1 + 1, q.2.1.set q.1 (codeOf q.2.2[q.1]), q.2.2, ?_, ?_, ?_⟩
          · exact Sub.of_neat [0, 3, 9, 10] [0, 40, 61] [0] 80 (by decide) (by simp [go_sem, hlt, wrap_succ (show q.1 < 9223372036854775807 by omega)])
          · first | omega | (simp; omega) | grind
          · first | omega | (simp only; omega)
        · clear hb37
          refine W_exit ?_
          simp [go_sem]
          repeat refine ⟨by first | omega | grind, ?_⟩
          refine h17 _ ?_
          clear h35 K35 h17 K17
          refine W_seqK fun K39 h39 => ?_
          refine W_reg ?_
          simp [go_sem, ty3, ty22]
          repeat refine ⟨by first | omega | grind, ?_⟩
          refine h39 _ ?_
          clear h39 K39
          refine W_ret ?_
          refine OutD_in q.2.1 (by first | trivial | omega | grind) ⟨_, _, _, _, _, _, _, rfl, rfl, rfl, rfl, rfl, by simp [go_sem], hi19⟩ ?_
          simp [go_sem, hb21, hb31]
      · try simp at hb31
        refine W_skip ?_
        repeat refine ⟨by first | omega | grind, ?_⟩
        refine h17 _ ?_
        clear h17 K17
        refine W_seqK fun K40 h40 => ?_
        refine W_reg ?_
        simp [go_sem, ty3, ty22]
        repeat refine ⟨by first | omega | grind, ?_⟩
        refine h40 _ ?_
        clear h40 K40
        refine W_ret ?_
        refine OutD_in p.2.2.2 (by first | trivial | omega | grind) ⟨_, _, _, _, _, _, _, rfl, rfl, rfl, rfl, rfl, by simp [go_sem], hi19⟩ ?_
        simp [go_sem, hb21, hb31]
end Go.Tw
