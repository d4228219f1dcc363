/- Walks of functions: laws.toHome, laws.eqHome, laws.szHome, laws.toHomeS, laws.eqHomeS, laws.szHomeS, laws.toNode, laws.eqNode, laws.szNode, laws.toHart, laws.eqHart, laws.szHart, laws.toCore, laws.eqCore, laws.szCore -/
import Derived.Test.YtjfjnpbeboafkaaGreatG8h2
set_option linter.unusedSimpArgs false
set_option linter.unusedVariables false
set_option linter.unnecessarySimpa false
namespace Go.Tw
open Go.Proofs

set_option maxRecDepth 100000 in
set_option maxHeartbeats 4000000 in
theorem pc_laws_toHome (x : GHome) (hq : x.small) : PC Tryz.prog 98 [(true, eHome x)] [(true, eHome x)] := by
  unfold GHome.small at hq
  obtain ⟨q0, q1, q2⟩ := hq
  refine PC_of (n := 30) Tryz.func98 rfl rfl rfl rfl (by simp) ?_
  refine W_seqK fun K1 h1 => ?_
  refine W_reg ?_
  simp [go_sem, ty118, ty132]
  repeat refine tk ?_
  refine h1 _ ?_
  clear h1 K1
  refine W_seqK fun K2 h2 => ?_
  refine W_reg ?_
  simp [go_sem, ty132]
  repeat refine tk ?_
  refine h2 _ ?_
  clear h2 K2
  refine W_seqK fun K3 h3 => ?_
  refine W_reg ?_
  simp [go_sem, ty3, ty22, ty118]
  refine callA (fun hG => pc_laws_toIntS x.list (by first | omega | assumption | (simp only [a0]; omega) | (simp only [a0, a1]; omega) | (simp only [a0, a1, a2]; omega) | (simp_all; done))) (fun hG => by simp [go_sem]) rfl rfl ?_
  simp [go_sem, ty3, ty22, ty132]
  repeat refine tk ?_
  refine h3 _ ?_
  clear h3 K3
  refine W_seqK fun K4 h4 => ?_
  refine W_reg ?_
  simp [go_sem, ty3, ty118, ty132]
  repeat refine tk ?_
  refine h4 _ ?_
  clear h4 K4
  refine W_seqK fun K5 h5 => ?_
  refine W_reg ?_
  simp [go_sem, ty4, ty113, ty118]
  refine callA (fun hG => pc_laws_toBoolS x.readers (by first | omega | assumption | (simp only [a0]; omega) | (simp only [a0, a1]; omega) | (simp only [a0, a1, a2]; omega) | (simp_all; done))) (fun hG => by simp [go_sem]) rfl rfl ?_
  simp [go_sem, ty4, ty113, ty132]
  repeat refine tk ?_
  refine h5 _ ?_
  clear h5 K5
  refine W_seqK fun K6 h6 => ?_
  refine W_reg ?_
  simp [go_sem, ty4, ty118, ty132]
  repeat refine tk ?_
  refine h6 _ ?_
  clear h6 K6
  refine W_seqK fun K7 h7 => ?_
  refine W_reg ?_
  simp [go_sem, ty115, ty118, ty129]
  refine callA (fun hG => pc_laws_toWait x.now) (fun hG => by simp [go_sem]) rfl rfl ?_
  simp [go_sem, ty129, ty132]
  repeat refine tk ?_
  refine h7 _ ?_
  clear h7 K7
  refine W_seqK fun K8 h8 => ?_
  refine W_reg ?_
  simp [go_sem, ty3, ty118, ty132]
  repeat refine tk ?_
  refine h8 _ ?_
  clear h8 K8
  refine W_seqK fun K9 h9 => ?_
  refine W_reg ?_
  simp [go_sem, ty115, ty116, ty118, ty129, ty130]
  refine callA (fun hG => pc_laws_toWaitS x.queue (by first | omega | assumption | (simp only [a0]; omega) | (simp only [a0, a1]; omega) | (simp only [a0, a1, a2]; omega) | (simp_all; done))) (fun hG => by simp [go_sem]) rfl rfl ?_
  simp [go_sem, ty129, ty130, ty132]
  repeat refine tk ?_
  refine h9 _ ?_
  clear h9 K9
  refine W_seqK fun K10 h10 => ?_
  refine W_reg ?_
  simp [go_sem, ty132]
  repeat refine tk ?_
  refine h10 _ ?_
  clear h10 K10
  refine W_ret ?_
  simp [go_sem, ty132]

set_option maxRecDepth 100000 in
set_option maxHeartbeats 4000000 in
theorem pc_laws_eqHome (x : GHome) (y : GHome) (hq : x.small) : PC Tryz.prog 129 [(true, eHome x), (true, eHome y)] [(false, [.bool (decide (x = y))])] := by
  unfold GHome.small at hq
  obtain ⟨q0, q1, q2⟩ := hq
  refine PC_of (n := 44) Tryz.func129 rfl rfl rfl rfl (by simp) ?_
  refine W_seqK fun K1 h1 => ?_
  refine W_reg ?_
  simp [go_sem, ty4, ty132]
  repeat refine tk ?_
  refine h1 _ ?_
  clear h1 K1
  refine W_seqK fun K2 h2 => ?_
  refine W_seqK fun K3 h3 => ?_
  refine W_reg ?_
  simp [go_sem, ty3, ty4, ty22, ty132]
  refine callA (fun hG => pc_laws_eqIntS x.list y.list (by first | omega | assumption | (simp only [a0]; omega) | (simp only [a0, a1]; omega) | (simp only [a0, a1, a2]; omega) | (simp_all; done))) (fun hG => by simp [go_sem]) rfl rfl ?_
  simp [go_sem, ty4]
  repeat refine tk ?_
  refine h3 _ ?_
  clear h3 K3
  refine W_cond rfl (fun hb4 => ?_) fun hb4 => ?_
  · try simp at hb4
    refine W_seqK fun K5 h5 => ?_
    refine W_reg ?_
    simp [go_sem, ty4]
    repeat refine tk ?_
    refine h5 _ ?_
    clear h5 K5
    refine W_ret ?_
    simp [go_sem, GHome.ext_iff, hb4]
  · try simp at hb4
    refine W_skip ?_
    repeat refine tk ?_
    refine h2 _ ?_
    clear h2 K2
    refine W_seqK fun K6 h6 => ?_
    refine W_seqK fun K7 h7 => ?_
    refine W_reg ?_
    simp [go_sem, ty3, ty4, ty132]
    repeat refine tk ?_
    refine h7 _ ?_
    clear h7 K7
    refine W_cond rfl (fun hb8 => ?_) fun hb8 => ?_
    · try simp at hb8
      refine W_seqK fun K9 h9 => ?_
      refine W_reg ?_
      simp [go_sem, ty4]
      repeat refine tk ?_
      refine h9 _ ?_
      clear h9 K9
      refine W_ret ?_
      simp [go_sem, GHome.ext_iff, hb4, hb8]
    · try simp at hb8
      refine W_skip ?_
      repeat refine tk ?_
      refine h6 _ ?_
      clear h6 K6
      refine W_seqK fun K10 h10 => ?_
      refine W_seqK fun K11 h11 => ?_
      refine W_reg ?_
      simp [go_sem, ty4, ty113, ty132]
      refine callA (fun hG => pc_laws_eqBoolS x.readers y.readers (by first | omega | assumption | (simp only [a0]; omega) | (simp only [a0, a1]; omega) | (simp only [a0, a1, a2]; omega) | (simp_all; done))) (fun hG => by simp [go_sem]) rfl rfl ?_
      simp [go_sem, ty4]
      repeat refine tk ?_
      refine h11 _ ?_
      clear h11 K11
      refine W_cond rfl (fun hb12 => ?_) fun hb12 => ?_
      · try simp at hb12
        refine W_seqK fun K13 h13 => ?_
        refine W_reg ?_
        simp [go_sem, ty4]
        repeat refine tk ?_
        refine h13 _ ?_
        clear h13 K13
        refine W_ret ?_
        simp [go_sem, GHome.ext_iff, hb4, hb8, hb12]
      · try simp at hb12
        refine W_skip ?_
        repeat refine tk ?_
        refine h10 _ ?_
        clear h10 K10
        refine W_seqK fun K14 h14 => ?_
        refine W_seqK fun K15 h15 => ?_
        refine W_reg ?_
        simp [go_sem, ty4, ty132]
        repeat refine tk ?_
        refine h15 _ ?_
        clear h15 K15
        refine W_cond rfl (fun hb16 => ?_) fun hb16 => ?_
        · try simp at hb16
          refine W_seqK fun K17 h17 => ?_
          refine W_reg ?_
          simp [go_sem, ty4]
          repeat refine tk ?_
          refine h17 _ ?_
          clear h17 K17
          refine W_ret ?_
          simp [go_sem, GHome.ext_iff, hb4, hb8, hb12, hb16]
        · try simp at hb16
          refine W_skip ?_
          repeat refine tk ?_
          refine h14 _ ?_
          clear h14 K14
          refine W_seqK fun K18 h18 => ?_
          refine W_seqK fun K19 h19 => ?_
          refine W_reg ?_
          simp [go_sem, ty4, ty129, ty132]
          refine callA (fun hG => pc_laws_eqWait x.now y.now) (fun hG => by simp [go_sem]) rfl rfl ?_
          simp [go_sem, ty4]
          repeat refine tk ?_
          refine h19 _ ?_
          clear h19 K19
          refine W_cond rfl (fun hb20 => ?_) fun hb20 => ?_
          · try simp at hb20
            refine W_seqK fun K21 h21 => ?_
            refine W_reg ?_
            simp [go_sem, ty4]
            repeat refine tk ?_
            refine h21 _ ?_
            clear h21 K21
            refine W_ret ?_
            simp [go_sem, GHome.ext_iff, hb4, hb8, hb12, hb16, hb20]
          · try simp at hb20
            refine W_skip ?_
            repeat refine tk ?_
            refine h18 _ ?_
            clear h18 K18
            refine W_seqK fun K22 h22 => ?_
            refine W_seqK fun K23 h23 => ?_
            refine W_reg ?_
            simp [go_sem, ty3, ty4, ty132]
            repeat refine tk ?_
            refine h23 _ ?_
            clear h23 K23
            refine W_cond rfl (fun hb24 => ?_) fun hb24 => ?_
            · try simp at hb24
              refine W_seqK fun K25 h25 => ?_
              refine W_reg ?_
              simp [go_sem, ty4]
              repeat refine tk ?_
              refine h25 _ ?_
              clear h25 K25
              refine W_ret ?_
              simp [go_sem, GHome.ext_iff, hb4, hb8, hb12, hb16, hb20, hb24]
            · try simp at hb24
              refine W_skip ?_
              repeat refine tk ?_
              refine h22 _ ?_
              clear h22 K22
              refine W_seqK fun K26 h26 => ?_
              refine W_seqK fun K27 h27 => ?_
              refine W_reg ?_
              simp [go_sem, ty4, ty129, ty130, ty132]
              refine callA (fun hG => pc_laws_eqWaitS x.queue y.queue (by first | omega | assumption | (simp only [a0]; omega) | (simp only [a0, a1]; omega) | (simp only [a0, a1, a2]; omega) | (simp_all; done))) (fun hG => by simp [go_sem]) rfl rfl ?_
              simp [go_sem, ty4]
              repeat refine tk ?_
              refine h27 _ ?_
              clear h27 K27
              refine W_cond rfl (fun hb28 => ?_) fun hb28 => ?_
              · try simp at hb28
                refine W_seqK fun K29 h29 => ?_
                refine W_reg ?_
                simp [go_sem, ty4]
                repeat refine tk ?_
                refine h29 _ ?_
                clear h29 K29
                refine W_ret ?_
                simp [go_sem, GHome.ext_iff, hb4, hb8, hb12, hb16, hb20, hb24, hb28]
              · try simp at hb28
                refine W_skip ?_
                repeat refine tk ?_
                refine h26 _ ?_
                clear h26 K26
                refine W_seqK fun K30 h30 => ?_
                refine W_reg ?_
                simp [go_sem, ty4]
                repeat refine tk ?_
                refine h30 _ ?_
                clear h30 K30
                refine W_ret ?_
                simp [go_sem, GHome.ext_iff, hb4, hb8, hb12, hb16, hb20, hb24, hb28]

set_option maxRecDepth 100000 in
set_option maxHeartbeats 4000000 in
theorem pc_laws_szHome (x : GHome) (left : Int) (g1 : 0 ≤ left) (g2 : left ≤ 9223372036854775807) (g3 : x.ok) : PC Tryz.prog 73 [(true, eHome x), (false, [.int .i64 left])] [(false, [.int .i64 (szL left x.tot)])] := by
  have g4 := g3
  unfold GHome.ok at g3
  refine PC_of (n := 24) Tryz.func73 rfl rfl rfl rfl (by simp) ?_
  refine W_seqK fun K1 h1 => ?_
  refine W_reg ?_
  simp [go_sem, ty3, ty118]
  repeat refine tk ?_
  refine h1 _ ?_
  clear h1 K1
  refine W_seqK fun K2 h2 => ?_
  refine W_reg ?_
  simp [go_sem, ty3, ty22, ty118]
  refine callA (fun hG => pc_laws_szIntS x.list left (by first | omega | assumption | (simp only [a0]; omega) | (simp only [a0, a1]; omega) | (simp only [a0, a1, a2]; omega) | (simp_all; done)) (by first | omega | assumption | (simp only [a0]; omega) | (simp only [a0, a1]; omega) | (simp only [a0, a1, a2]; omega) | (simp_all; done)) (by first | omega | assumption | (simp only [a0]; omega) | (simp only [a0, a1]; omega) | (simp only [a0, a1, a2]; omega) | (simp_all; done))) (fun hG => by simp [go_sem]) rfl rfl ?_
  simp [go_sem, ty3]
  repeat refine tk ?_
  refine h2 _ ?_
  clear h2 K2
  refine W_seqK fun K3 h3 => ?_
  refine W_seqK fun K4 h4 => ?_
  refine W_reg ?_
  simp [go_sem, ty3, ty4]
  repeat refine tk ?_
  refine h4 _ ?_
  clear h4 K4
  refine W_cond rfl (fun hb5 => ?_) fun hb5 => ?_
  · have q : szL left x.tot = -1 := by rw [show x.tot = (x.list.length) + (x.readers.length + x.queue.length) from by (unfold GHome.tot; omega)]; exact szL_neg _ (by simpa using hb5)
    refine W_seqK fun K6 h6 => ?_
    refine W_reg ?_
    simp [go_sem, ty3]
    repeat refine tk ?_
    refine h6 _ ?_
    clear h6 K6
    refine W_ret ?_
    simp [go_sem, q]
  · have p0 : 0 ≤ szL left (x.list.length) := by simpa using hb5
    clear hb5
    have b0 := szL_le (n := x.list.length) g1
    have a0 : szL (szL left (x.list.length)) (x.readers.length) = szL left (x.list.length + (x.readers.length)) := szL_add _ p0
    refine W_skip ?_
    repeat refine tk ?_
    refine h3 _ ?_
    clear h3 K3
    refine W_seqK fun K7 h7 => ?_
    refine W_reg ?_
    simp [go_sem, ty3, ty4, ty113, ty118, a0]
    refine callA (fun hG => pc_laws_szBoolS x.readers (szL left x.list.length) (by first | omega | assumption | (simp only [a0]; omega) | (simp only [a0, a1]; omega) | (simp only [a0, a1, a2]; omega) | (simp_all; done)) (by first | omega | assumption | (simp only [a0]; omega) | (simp only [a0, a1]; omega) | (simp only [a0, a1, a2]; omega) | (simp_all; done)) (by first | omega | assumption | (simp only [a0]; omega) | (simp only [a0, a1]; omega) | (simp only [a0, a1, a2]; omega) | (simp_all; done))) (fun hG => by simp [go_sem, a0]) rfl rfl ?_
    simp [go_sem, ty3, a0]
    repeat refine tk ?_
    refine h7 _ ?_
    clear h7 K7
    refine W_seqK fun K8 h8 => ?_
    refine W_seqK fun K9 h9 => ?_
    refine W_reg ?_
    simp [go_sem, ty3, ty4, a0]
    repeat refine tk ?_
    refine h9 _ ?_
    clear h9 K9
    refine W_cond rfl (fun hb10 => ?_) fun hb10 => ?_
    · have q : szL left x.tot = -1 := by rw [show x.tot = (x.list.length + (x.readers.length)) + (x.queue.length) from by (unfold GHome.tot; omega)]; exact szL_neg _ (by simpa using hb10)
      refine W_seqK fun K11 h11 => ?_
      refine W_reg ?_
      simp [go_sem, ty3, a0]
      repeat refine tk ?_
      refine h11 _ ?_
      clear h11 K11
      refine W_ret ?_
      simp [go_sem, q]
    · have p1 : 0 ≤ szL left (x.list.length + (x.readers.length)) := by simpa using hb10
      clear hb10
      have b1 := szL_le (n := x.list.length + (x.readers.length)) g1
      have a1 : szL (szL left (x.list.length + (x.readers.length))) (x.queue.length) = szL left (x.list.length + (x.readers.length) + (x.queue.length)) := szL_add _ p1
      refine W_skip ?_
      repeat refine tk ?_
      refine h8 _ ?_
      clear h8 K8
      refine W_seqK fun K12 h12 => ?_
      refine W_reg ?_
      simp [go_sem, ty3, ty115, ty116, ty118, a0, a1]
      refine callA (fun hG => pc_laws_szWaitS x.queue (szL (szL left x.list.length) x.readers.length) (by first | omega | assumption | (simp only [a0]; omega) | (simp only [a0, a1]; omega) | (simp only [a0, a1, a2]; omega) | (simp_all; done)) (by first | omega | assumption | (simp only [a0]; omega) | (simp only [a0, a1]; omega) | (simp only [a0, a1, a2]; omega) | (simp_all; done)) (by first | omega | assumption | (simp only [a0]; omega) | (simp only [a0, a1]; omega) | (simp only [a0, a1, a2]; omega) | (simp_all; done))) (fun hG => by simp [go_sem, a0, a1]) rfl rfl ?_
      simp [go_sem, ty3, a0, a1]
      repeat refine tk ?_
      refine h12 _ ?_
      clear h12 K12
      refine W_seqK fun K13 h13 => ?_
      refine W_seqK fun K14 h14 => ?_
      refine W_reg ?_
      simp [go_sem, ty3, ty4, a0, a1]
      repeat refine tk ?_
      refine h14 _ ?_
      clear h14 K14
      refine W_cond rfl (fun hb15 => ?_) fun hb15 => ?_
      · have q : szL left x.tot = -1 := by rw [show x.tot = (x.list.length + (x.readers.length) + (x.queue.length)) + (0) from by (unfold GHome.tot; omega)]; exact szL_neg _ (by simpa using hb15)
        refine W_seqK fun K16 h16 => ?_
        refine W_reg ?_
        simp [go_sem, ty3, a0, a1]
        repeat refine tk ?_
        refine h16 _ ?_
        clear h16 K16
        refine W_ret ?_
        simp [go_sem, q]
      · have p2 : 0 ≤ szL left (x.list.length + (x.readers.length) + (x.queue.length)) := by simpa using hb15
        clear hb15
        have b2 := szL_le (n := x.list.length + (x.readers.length) + (x.queue.length)) g1
        have q : szL left x.tot = szL left (x.list.length + (x.readers.length) + (x.queue.length)) := by unfold GHome.tot; first | rfl | (congr 1; omega)
        refine W_skip ?_
        repeat refine tk ?_
        refine h13 _ ?_
        clear h13 K13
        refine W_seqK fun K17 h17 => ?_
        refine W_reg ?_
        simp [go_sem, ty3, a0, a1]
        repeat refine tk ?_
        refine h17 _ ?_
        clear h17 K17
        refine W_ret ?_
        simp [go_sem, q]

set_option maxRecDepth 100000 in
set_option maxHeartbeats 4000000 in
theorem pc_laws_toHomeS (xs : List GHome) (hx : xs.length ≤ 1048576) (hq : ∀ a ∈ xs, a.small) : PC Tryz.prog 38 [(false, [.sl 8 (enc eHome xs)])] [(false, [.sl 8 (enc eHome xs)])] := by
  refine PC_of (n := 23) Tryz.func38 rfl rfl rfl rfl (by simp) ?_
  refine W_seqK fun K1 h1 => ?_
  refine W_reg ?_
  simp [go_sem, ty41, ty132]
  repeat refine tk ?_
  refine h1 _ ?_
  clear h1 K1
  refine W_seqK fun K2 h2 => ?_
  refine W_reg ?_
  simp [go_sem, ty3, ty29, ty41, ty118, ty132]
  repeat refine tk ?_
  refine h2 _ ?_
  clear h2 K2
  refine W_seqK fun K3 h3 => ?_
  refine W_seqK fun K4 h4 => ?_
  refine W_reg ?_
  simp [go_sem, ty3]
  repeat refine tk ?_
  refine h4 _ ?_
  clear h4 K4
  refine W_block ?_
  refine W_loopI (α := Nat) (fun i => ({ env := [(0, true, .l (.ref 0 [] 8 0 (xs.length))), (3, true, .l (.ref 1 [] 8 0 (xs.length))), (4, true, .l (.t (.int .i64 (i))))], box := [], row := [(1, ⟨.own, 8, enc eHome (xs.take i ++ List.replicate (xs.length - i) ⟨[], 0, [], false, ⟨0, false⟩, 0, []⟩)⟩), (0, ⟨.ro, 8, enc eHome xs⟩)], nxt := 2, sav := [] } : St)) (fun i => i ≤ xs.length) (fun i => xs.length - i) 0 ?_ ?_ ?_
  · exact Sub.of_neat [0, 3, 4] [1, 0] [] 2 (by decide) (by simp [go_sem, rep_eHome])
  · exact Nat.zero_le _
  rintro i hinv
  refine W_seqK fun K6 h6 => ?_
  refine W_seqK fun K7 h7 => ?_
  refine W_reg ?_
  simp [go_sem, ty3, ty4, ty29, ty118]
  repeat refine tk ?_
  refine h7 _ ?_
  clear h7 K7
  refine W_cond rfl (fun hb8 => ?_) fun hb8 => ?_
  · have hlt : i < xs.length := by simpa using hb8
    clear hb8
    refine W_skip ?_
    repeat refine tk ?_
    refine h6 _ ?_
    clear h6 K6
    refine W_seqK fun K9 h9 => ?_
    refine W_block ?_
    refine W_reg ?_
    simp [go_sem, ty3, ty29, ty41, ty118, ty132, hlt]
    refine callA (fun hG => pc_laws_toHome xs[i] (hq _ (List.getElem_mem hlt))) (fun hG => by simp [go_sem, hlt]) rfl rfl ?_
    simp [go_sem, ty41, ty132, hlt]
    repeat refine tk ?_
    refine h9 _ ?_
    clear h9 K9
    refine W_reg ?_
    simp [go_sem, ty3]
    refine ⟨i + 1, ?_, ?_, ?_⟩
    · exact Sub.of_neat [0, 3, 4] [1, 0] [] 2 (by decide) (by simp [go_sem, wrap_succ (show i < 9223372036854775807 by omega), fill_step xs ⟨[], 0, [], false, ⟨0, false⟩, 0, []⟩ i hlt])
    · exact hlt
    · omega
  · obtain rfl : i = xs.length := by simp at hb8; omega
    clear hb8
    refine W_exit ?_
    simp [go_sem]
    repeat refine tk ?_
    refine h3 _ ?_
    clear h6 K6 h3 K3
    refine W_seqK fun K10 h10 => ?_
    refine W_reg ?_
    simp [go_sem, ty41, ty132]
    repeat refine tk ?_
    refine h10 _ ?_
    clear h10 K10
    refine W_ret ?_
    simp [go_sem]

set_option maxRecDepth 100000 in
set_option maxHeartbeats 4000000 in
theorem pc_laws_eqHomeS (xs : List GHome) (ys : List GHome) (hx : xs.length ≤ 17592186043904) (hq : ∀ a ∈ xs, a.small) : PC Tryz.prog 55 [(false, [.sl 8 (enc eHome xs)]), (false, [.sl 8 (enc eHome ys)])] [(false, [.bool (decide (xs = ys))])] := by
  refine PC_of (n := 27) Tryz.func55 rfl rfl rfl rfl (by simp) ?_
  refine W_seqK fun K1 h1 => ?_
  refine W_reg ?_
  simp [go_sem, ty4]
  repeat refine tk ?_
  refine h1 _ ?_
  clear h1 K1
  refine W_seqK fun K2 h2 => ?_
  refine W_seqK fun K3 h3 => ?_
  refine W_reg ?_
  simp [go_sem, ty3, ty4, ty41, ty132]
  repeat refine tk ?_
  refine h3 _ ?_
  clear h3 K3
  refine W_cond rfl (fun hb4 => ?_) fun hb4 => ?_
  · have hne : xs ≠ ys := ne_of_len (by simp at hb4; omega)
    refine W_seqK fun K5 h5 => ?_
    refine W_reg ?_
    simp [go_sem, ty4]
    repeat refine tk ?_
    refine h5 _ ?_
    clear h5 K5
    refine W_ret ?_
    simp [go_sem, hne]
  · have hl : xs.length = ys.length := by simp at hb4; omega
    clear hb4
    refine W_skip ?_
    repeat refine tk ?_
    refine h2 _ ?_
    clear h2 K2
    refine W_seqK fun K6 h6 => ?_
    refine W_seqK fun K7 h7 => ?_
    refine W_reg ?_
    simp [go_sem, ty3]
    repeat refine tk ?_
    refine h7 _ ?_
    clear h7 K7
    refine W_block ?_
    refine W_loopI (α := Nat) (fun i => ({ env := [(0, true, .l (.ref 0 [] 8 0 (xs.length))), (1, true, .l (.ref 1 [] 8 0 (ys.length))), (5, true, .l (.t (.int .i64 (i))))], box := [], row := [(0, ⟨.ro, 8, enc eHome xs⟩), (1, ⟨.ro, 8, enc eHome ys⟩)], nxt := 2, sav := [] } : St)) (fun i => i ≤ xs.length ∧ xs.take i = ys.take i) (fun i => xs.length - i) 0 ?_ ?_ ?_
    · exact Sub.of_neat [0, 1, 5] [0, 1] [] 2 (by decide) (by simp [go_sem])
    · simp
    rintro i hinv
    obtain ⟨hi, htk⟩ := hinv
    refine W_seqK fun K9 h9 => ?_
    refine W_seqK fun K10 h10 => ?_
    refine W_reg ?_
    simp [go_sem, ty3, ty4, ty41, ty132]
    repeat refine tk ?_
    refine h10 _ ?_
    clear h10 K10
    refine W_cond rfl (fun hb11 => ?_) fun hb11 => ?_
    · have hlt : i < xs.length := by simpa using hb11
      have hlt2 : i < ys.length := hl ▸ hlt
      clear hb11
      refine W_skip ?_
      repeat refine tk ?_
      refine h9 _ ?_
      clear h9 K9
      refine W_seqK fun K12 h12 => ?_
      refine W_block ?_
      refine W_seqK fun K13 h13 => ?_
      refine W_drawT true mixed (by decide +kernel) ?_
      simp [go_sem, ty3, ty4, ty41, ty132, hlt, hlt2]
      refine callA (fun hG => pc_laws_eqHome xs[i] ys[i] (hq _ (List.getElem_mem hlt))) (fun hG => by simp [go_sem, hlt, hlt2]) rfl rfl ?_
      simp [go_sem, ty4, hlt, hlt2]
      repeat refine tk ?_
      refine h13 _ ?_
      clear h13 K13
      refine W_cond rfl (fun hb14 => ?_) fun hb14 => ?_
      · have hne : xs ≠ ys := ne_of_get hlt hlt2 (by simpa [hlt, hlt2] using hb14)
        refine W_seqK fun K15 h15 => ?_
        refine W_reg ?_
        simp [go_sem, ty4]
        repeat refine tk ?_
        refine h15 _ ?_
        clear h15 K15
        refine W_ret ?_
        simp [go_sem, hne]
      · have he : xs[i] = ys[i] := by simpa [hlt, hlt2] using hb14
        clear hb14
        refine W_skip ?_
        repeat refine tk ?_
        refine h12 _ ?_
        clear h12 K12
        refine W_reg ?_
        simp [go_sem, ty3]
        refine ⟨i + 1, ?_, ?_, ?_⟩
        · exact Sub.of_neat [0, 1, 5] [0, 1] [] 2 (by decide) (by simp [go_sem, wrap_succ (show i < 9223372036854775807 by omega)])
        · exact ⟨hlt, take_succ_eq htk hlt hlt2 he⟩
        · omega
    · obtain rfl : i = xs.length := by simp at hb11; omega
      have hxy : xs = ys := eq_of_take hl htk
      clear hb11
      refine W_exit ?_
      simp [go_sem]
      repeat refine tk ?_
      refine h6 _ ?_
      clear h9 K9 h6 K6
      refine W_seqK fun K16 h16 => ?_
      refine W_reg ?_
      simp [go_sem, ty4]
      repeat refine tk ?_
      refine h16 _ ?_
      clear h16 K16
      refine W_ret ?_
      simp [go_sem, hxy]

set_option maxRecDepth 100000 in
set_option maxHeartbeats 4000000 in
theorem pc_laws_szHomeS (xs : List GHome) (left : Int) (g1 : 0 ≤ left) (g2 : left ≤ 9223372036854775807) (g3 : xs.length ≤ 9223372036854775807) (g4 : ∀ a ∈ xs, a.ok) : PC Tryz.prog 19 [(false, [.sl 8 (enc eHome xs)]), (false, [.int .i64 left])] [(false, [.int .i64 (szL left (xs.length + (xs.map fun a => a.tot).sum))])] := by
  have hw : IntKind.wrap .i64 (left - xs.length) = left - xs.length := wrap_ok (by omega) (by omega)
  refine PC_of (n := 27) Tryz.func19 rfl rfl rfl rfl (by simp) ?_
  refine W_seqK fun K1 h1 => ?_
  refine W_reg ?_
  simp [go_sem, ty3]
  repeat refine tk ?_
  refine h1 _ ?_
  clear h1 K1
  refine W_seqK fun K2 h2 => ?_
  refine W_reg ?_
  simp [go_sem, ty3, ty29, ty118, hw]
  repeat refine tk ?_
  refine h2 _ ?_
  clear h2 K2
  refine W_seqK fun K3 h3 => ?_
  refine W_seqK fun K4 h4 => ?_
  refine W_reg ?_
  simp [go_sem, ty3, ty4]
  repeat refine tk ?_
  refine h4 _ ?_
  clear h4 K4
  refine W_cond rfl (fun hb5 => ?_) fun hb5 => ?_
  · have q : szL left (xs.length + (xs.map fun a => a.tot).sum) = -1 := szL_neg _ (by unfold szL; simp at hb5; rw [if_pos (by omega)]; omega)
    refine W_seqK fun K6 h6 => ?_
    refine W_reg ?_
    simp [go_sem, ty3]
    repeat refine tk ?_
    refine h6 _ ?_
    clear h6 K6
    refine W_ret ?_
    simp [go_sem, q]
  · have ql : 0 ≤ left - xs.length := by simpa using hb5
    have qs : szL left xs.length = left - xs.length := by unfold szL; rw [if_neg (by omega)]
    clear hb5
    refine W_skip ?_
    repeat refine tk ?_
    refine h3 _ ?_
    clear h3 K3
    refine W_seqK fun K7 h7 => ?_
    refine W_seqK fun K8 h8 => ?_
    refine W_reg ?_
    simp [go_sem, ty3, hw]
    repeat refine tk ?_
    refine h8 _ ?_
    clear h8 K8
    refine W_block ?_
    refine W_loopI (α := Nat) (fun i => ({ env := [(0, true, .l (.ref 0 [] 8 0 (xs.length))), (1, true, .l (.t (.int .i64 (szL left (xs.length + sumTo (fun a : GHome => a.tot) xs i))))), (5, true, .l (.t (.int .i64 (i))))], box := [], row := [(0, ⟨.ro, 8, enc eHome xs⟩)], nxt := 2, sav := [] } : St)) (fun i => i ≤ xs.length ∧ 0 ≤ szL left (xs.length + sumTo (fun a : GHome => a.tot) xs i)) (fun i => xs.length - i) 0 ?_ ?_ ?_
    · exact Sub.of_neat [0, 1, 5] [0] [] 2 (by decide) (by simp [go_sem, sumTo_zero, qs])
    · exact ⟨Nat.zero_le _, by simpa [sumTo_zero, qs] using ql⟩
    rintro i hinv
    obtain ⟨hi, hle⟩ := hinv
    refine W_seqK fun K10 h10 => ?_
    refine W_seqK fun K11 h11 => ?_
    refine W_reg ?_
    simp [go_sem, ty3, ty4, ty29, ty118, hw]
    repeat refine tk ?_
    refine h11 _ ?_
    clear h11 K11
    refine W_cond rfl (fun hb12 => ?_) fun hb12 => ?_
    · have hlt : i < xs.length := by simpa using hb12
      have hstep : szL (szL left (xs.length + sumTo (fun a : GHome => a.tot) xs i)) (xs[i].tot) = szL left (xs.length + sumTo (fun a : GHome => a.tot) xs (i + 1)) := by rw [szL_add _ hle, sumTo_succ _ hlt, Nat.add_assoc]
      clear hb12
      refine W_skip ?_
      repeat refine tk ?_
      refine h10 _ ?_
      clear h10 K10
      refine W_seqK fun K13 h13 => ?_
      refine W_block ?_
      refine W_seqK fun K14 h14 => ?_
      refine W_reg ?_
      simp [go_sem, ty3, ty29, ty118, hw, hlt, hstep]
      refine callA (fun hG => pc_laws_szHome xs[i] (szL left (xs.length + sumTo (fun a : GHome => a.tot) xs i)) hle (by have := szL_le (n := xs.length + sumTo (fun a : GHome => a.tot) xs i) g1; omega) (g4 _ (List.getElem_mem hlt))) (fun hG => by simp [go_sem, hlt, hw, hlt, hstep]) rfl rfl ?_
      simp [go_sem, ty3, hw, hlt, hstep]
      repeat refine tk ?_
      refine h14 _ ?_
      clear h14 K14
      refine W_seqK fun K15 h15 => ?_
      refine W_reg ?_
      simp [go_sem, ty3, ty4, hw, hlt, hstep]
      repeat refine tk ?_
      refine h15 _ ?_
      clear h15 K15
      refine W_cond rfl (fun hb16 => ?_) fun hb16 => ?_
      · have q : szL left (xs.length + (xs.map fun a => a.tot).sum) = -1 := by
          obtain ⟨m, hm⟩ := sumTo_rest (fun a : GHome => a.tot) xs (i + 1)
          have hb162 : szL left (xs.length + sumTo (fun a : GHome => a.tot) xs (i + 1)) < 0 := by simpa using hb16
          rw [show (xs.length + (xs.map fun a => a.tot).sum) = (xs.length + sumTo (fun a : GHome => a.tot) xs (i + 1)) + m from by omega]
          exact szL_neg _ hb162
        refine W_seqK fun K17 h17 => ?_
        refine W_reg ?_
        simp [go_sem, ty3, hw, hlt, hstep]
        repeat refine tk ?_
        refine h17 _ ?_
        clear h17 K17
        refine W_ret ?_
        simp [go_sem, q]
      · have hpos : 0 ≤ szL left (xs.length + sumTo (fun a : GHome => a.tot) xs (i + 1)) := by simpa using hb16
        clear hb16
        refine W_skip ?_
        repeat refine tk ?_
        refine h13 _ ?_
        clear h13 K13
        refine W_reg ?_
        simp [go_sem, ty3, hw, hlt, hstep]
        refine ⟨i + 1, ?_, ?_, ?_⟩
        · exact Sub.of_neat [0, 1, 5] [0] [] 2 (by decide) (by simp [go_sem, wrap_succ (show i < 9223372036854775807 by omega), hstep])
        · exact ⟨hlt, hpos⟩
        · omega
    · obtain rfl : i = xs.length := by simp at hb12; omega
      have q : szL left (xs.length + (xs.map fun a => a.tot).sum) = szL left (xs.length + sumTo (fun a : GHome => a.tot) xs xs.length) := by rw [sumTo_full]
      clear hb12
      refine W_exit ?_
      simp [go_sem]
      repeat refine tk ?_
      refine h7 _ ?_
      clear h10 K10 h7 K7
      refine W_seqK fun K18 h18 => ?_
      refine W_reg ?_
      simp [go_sem, ty3, hw]
      repeat refine tk ?_
      refine h18 _ ?_
      clear h18 K18
      refine W_ret ?_
      simp [go_sem, q]

set_option maxRecDepth 100000 in
set_option maxHeartbeats 4000000 in
theorem pc_laws_toNode (x : GNode) (hq : x.small) : PC Tryz.prog 8 [(true, eNode x)] [(true, eNode x)] := by
  unfold GNode.small at hq
  obtain ⟨q0, q1, q2, q3, q4, q5, q6⟩ := hq
  refine PC_of (n := 24) Tryz.func8 rfl rfl rfl rfl (by simp) ?_
  refine W_seqK fun K1 h1 => ?_
  refine W_reg ?_
  simp [go_sem, ty33, ty45]
  repeat refine tk ?_
  refine h1 _ ?_
  clear h1 K1
  refine W_seqK fun K2 h2 => ?_
  refine W_reg ?_
  simp [go_sem, ty45]
  repeat refine tk ?_
  refine h2 _ ?_
  clear h2 K2
  refine W_seqK fun K3 h3 => ?_
  refine W_reg ?_
  simp [go_sem, ty3, ty33, ty45]
  repeat refine tk ?_
  refine h3 _ ?_
  clear h3 K3
  refine W_seqK fun K4 h4 => ?_
  refine W_reg ?_
  simp [go_sem, ty28, ty33, ty40, ty65, ty111]
  refine callA (fun hG => pc_laws_toFrameS x.frames (by first | omega | assumption | (simp only [a0]; omega) | (simp only [a0, a1]; omega) | (simp only [a0, a1, a2]; omega) | (simp_all; done)) (by first | omega | assumption | (simp only [a0]; omega) | (simp only [a0, a1]; omega) | (simp only [a0, a1, a2]; omega) | (simp_all; done))) (fun hG => by simp [go_sem]) rfl rfl ?_
  simp [go_sem, ty40, ty45, ty65]
  repeat refine tk ?_
  refine h4 _ ?_
  clear h4 K4
  refine W_seqK fun K5 h5 => ?_
  refine W_reg ?_
  simp [go_sem, ty29, ty33, ty41, ty118, ty132]
  refine callA (fun hG => pc_laws_toHomeS x.homes (by first | omega | assumption | (simp only [a0]; omega) | (simp only [a0, a1]; omega) | (simp only [a0, a1, a2]; omega) | (simp_all; done)) (by first | omega | assumption | (simp only [a0]; omega) | (simp only [a0, a1]; omega) | (simp only [a0, a1, a2]; omega) | (simp_all; done))) (fun hG => by simp [go_sem]) rfl rfl ?_
  simp [go_sem, ty41, ty45, ty132]
  repeat refine tk ?_
  refine h5 _ ?_
  clear h5 K5
  refine W_seqK fun K6 h6 => ?_
  refine W_reg ?_
  simp [go_sem, ty30, ty33, ty42, ty122, ty136]
  refine callA (fun hG => pc_laws_toSenderS x.out (by first | omega | assumption | (simp only [a0]; omega) | (simp only [a0, a1]; omega) | (simp only [a0, a1, a2]; omega) | (simp_all; done)) (by first | omega | assumption | (simp only [a0]; omega) | (simp only [a0, a1]; omega) | (simp only [a0, a1, a2]; omega) | (simp_all; done))) (fun hG => by simp [go_sem]) rfl rfl ?_
  simp [go_sem, ty42, ty45, ty136]
  repeat refine tk ?_
  refine h6 _ ?_
  clear h6 K6
  refine W_seqK fun K7 h7 => ?_
  refine W_reg ?_
  simp [go_sem, ty31, ty33, ty43, ty153, ty155]
  refine callA (fun hG => pc_laws_toReceiverS x.in_ (by first | omega | assumption | (simp only [a0]; omega) | (simp only [a0, a1]; omega) | (simp only [a0, a1, a2]; omega) | (simp_all; done))) (fun hG => by simp [go_sem]) rfl rfl ?_
  simp [go_sem, ty43, ty45, ty153]
  repeat refine tk ?_
  refine h7 _ ?_
  clear h7 K7
  refine W_seqK fun K8 h8 => ?_
  refine W_reg ?_
  simp [go_sem, ty45]
  repeat refine tk ?_
  refine h8 _ ?_
  clear h8 K8
  refine W_ret ?_
  simp [go_sem, ty45]

set_option maxRecDepth 100000 in
set_option maxHeartbeats 4000000 in
theorem pc_laws_eqNode (x : GNode) (y : GNode) (hq : x.small) : PC Tryz.prog 11 [(true, eNode x), (true, eNode y)] [(false, [.bool (decide (x = y))])] := by
  unfold GNode.small at hq
  obtain ⟨q0, q1, q2, q3, q4, q5, q6⟩ := hq
  refine PC_of (n := 34) Tryz.func11 rfl rfl rfl rfl (by simp) ?_
  refine W_seqK fun K1 h1 => ?_
  refine W_reg ?_
  simp [go_sem, ty4, ty45]
  repeat refine tk ?_
  refine h1 _ ?_
  clear h1 K1
  refine W_seqK fun K2 h2 => ?_
  refine W_seqK fun K3 h3 => ?_
  refine W_reg ?_
  simp [go_sem, ty3, ty4, ty45]
  repeat refine tk ?_
  refine h3 _ ?_
  clear h3 K3
  refine W_cond rfl (fun hb4 => ?_) fun hb4 => ?_
  · try simp at hb4
    refine W_seqK fun K5 h5 => ?_
    refine W_reg ?_
    simp [go_sem, ty4]
    repeat refine tk ?_
    refine h5 _ ?_
    clear h5 K5
    refine W_ret ?_
    simp [go_sem, GNode.ext_iff, hb4]
  · try simp at hb4
    refine W_skip ?_
    repeat refine tk ?_
    refine h2 _ ?_
    clear h2 K2
    refine W_seqK fun K6 h6 => ?_
    refine W_seqK fun K7 h7 => ?_
    refine W_reg ?_
    simp [go_sem, ty4, ty40, ty45, ty65]
    refine callA (fun hG => pc_laws_eqFrameS x.frames y.frames (by first | omega | assumption | (simp only [a0]; omega) | (simp only [a0, a1]; omega) | (simp only [a0, a1, a2]; omega) | (simp_all; done)) (by first | omega | assumption | (simp only [a0]; omega) | (simp only [a0, a1]; omega) | (simp only [a0, a1, a2]; omega) | (simp_all; done))) (fun hG => by simp [go_sem]) rfl rfl ?_
    simp [go_sem, ty4]
    repeat refine tk ?_
    refine h7 _ ?_
    clear h7 K7
    refine W_cond rfl (fun hb8 => ?_) fun hb8 => ?_
    · try simp at hb8
      refine W_seqK fun K9 h9 => ?_
      refine W_reg ?_
      simp [go_sem, ty4]
      repeat refine tk ?_
      refine h9 _ ?_
      clear h9 K9
      refine W_ret ?_
      simp [go_sem, GNode.ext_iff, hb4, hb8]
    · try simp at hb8
      refine W_skip ?_
      repeat refine tk ?_
      refine h6 _ ?_
      clear h6 K6
      refine W_seqK fun K10 h10 => ?_
      refine W_seqK fun K11 h11 => ?_
      refine W_reg ?_
      simp [go_sem, ty4, ty41, ty45, ty132]
      refine callA (fun hG => pc_laws_eqHomeS x.homes y.homes (by first | omega | assumption | (simp only [a0]; omega) | (simp only [a0, a1]; omega) | (simp only [a0, a1, a2]; omega) | (simp_all; done)) (by first | omega | assumption | (simp only [a0]; omega) | (simp only [a0, a1]; omega) | (simp only [a0, a1, a2]; omega) | (simp_all; done))) (fun hG => by simp [go_sem]) rfl rfl ?_
      simp [go_sem, ty4]
      repeat refine tk ?_
      refine h11 _ ?_
      clear h11 K11
      refine W_cond rfl (fun hb12 => ?_) fun hb12 => ?_
      · try simp at hb12
        refine W_seqK fun K13 h13 => ?_
        refine W_reg ?_
        simp [go_sem, ty4]
        repeat refine tk ?_
        refine h13 _ ?_
        clear h13 K13
        refine W_ret ?_
        simp [go_sem, GNode.ext_iff, hb4, hb8, hb12]
      · try simp at hb12
        refine W_skip ?_
        repeat refine tk ?_
        refine h10 _ ?_
        clear h10 K10
        refine W_seqK fun K14 h14 => ?_
        refine W_seqK fun K15 h15 => ?_
        refine W_reg ?_
        simp [go_sem, ty4, ty42, ty45, ty136]
        refine callA (fun hG => pc_laws_eqSenderS x.out y.out (by first | omega | assumption | (simp only [a0]; omega) | (simp only [a0, a1]; omega) | (simp only [a0, a1, a2]; omega) | (simp_all; done)) (by first | omega | assumption | (simp only [a0]; omega) | (simp only [a0, a1]; omega) | (simp only [a0, a1, a2]; omega) | (simp_all; done))) (fun hG => by simp [go_sem]) rfl rfl ?_
        simp [go_sem, ty4]
        repeat refine tk ?_
        refine h15 _ ?_
        clear h15 K15
        refine W_cond rfl (fun hb16 => ?_) fun hb16 => ?_
        · try simp at hb16
          refine W_seqK fun K17 h17 => ?_
          refine W_reg ?_
          simp [go_sem, ty4]
          repeat refine tk ?_
          refine h17 _ ?_
          clear h17 K17
          refine W_ret ?_
          simp [go_sem, GNode.ext_iff, hb4, hb8, hb12, hb16]
        · try simp at hb16
          refine W_skip ?_
          repeat refine tk ?_
          refine h14 _ ?_
          clear h14 K14
          refine W_seqK fun K18 h18 => ?_
          refine W_seqK fun K19 h19 => ?_
          refine W_reg ?_
          simp [go_sem, ty4, ty43, ty45, ty153]
          refine callA (fun hG => pc_laws_eqReceiverS x.in_ y.in_ (by first | omega | assumption | (simp only [a0]; omega) | (simp only [a0, a1]; omega) | (simp only [a0, a1, a2]; omega) | (simp_all; done))) (fun hG => by simp [go_sem]) rfl rfl ?_
          simp [go_sem, ty4]
          repeat refine tk ?_
          refine h19 _ ?_
          clear h19 K19
          refine W_cond rfl (fun hb20 => ?_) fun hb20 => ?_
          · try simp at hb20
            refine W_seqK fun K21 h21 => ?_
            refine W_reg ?_
            simp [go_sem, ty4]
            repeat refine tk ?_
            refine h21 _ ?_
            clear h21 K21
            refine W_ret ?_
            simp [go_sem, GNode.ext_iff, hb4, hb8, hb12, hb16, hb20]
          · try simp at hb20
            refine W_skip ?_
            repeat refine tk ?_
            refine h18 _ ?_
            clear h18 K18
            refine W_seqK fun K22 h22 => ?_
            refine W_reg ?_
            simp [go_sem, ty4]
            repeat refine tk ?_
            refine h22 _ ?_
            clear h22 K22
            refine W_ret ?_
            simp [go_sem, GNode.ext_iff, hb4, hb8, hb12, hb16, hb20]

set_option maxRecDepth 100000 in
set_option maxHeartbeats 4000000 in
theorem pc_laws_szNode (x : GNode) (left : Int) (g1 : 0 ≤ left) (g2 : left ≤ 9223372036854775807) (g3 : x.ok) : PC Tryz.prog 5 [(true, eNode x), (false, [.int .i64 left])] [(false, [.int .i64 (szL left x.tot)])] := by
  have g4 := g3
  unfold GNode.ok at g3
  refine PC_of (n := 30) Tryz.func5 rfl rfl rfl rfl (by simp) ?_
  refine W_seqK fun K1 h1 => ?_
  refine W_reg ?_
  simp [go_sem, ty3, ty33]
  repeat refine tk ?_
  refine h1 _ ?_
  clear h1 K1
  refine W_seqK fun K2 h2 => ?_
  refine W_reg ?_
  simp [go_sem, ty3, ty28, ty33, ty111]
  refine callA (fun hG => pc_laws_szFrameS x.frames left (by first | omega | assumption | (simp only [a0]; omega) | (simp only [a0, a1]; omega) | (simp only [a0, a1, a2]; omega) | (simp_all; done)) (by first | omega | assumption | (simp only [a0]; omega) | (simp only [a0, a1]; omega) | (simp only [a0, a1, a2]; omega) | (simp_all; done)) (by first | omega | assumption | (simp only [a0]; omega) | (simp only [a0, a1]; omega) | (simp only [a0, a1, a2]; omega) | (simp_all; done)) (by first | omega | assumption | (simp only [a0]; omega) | (simp only [a0, a1]; omega) | (simp only [a0, a1, a2]; omega) | (simp_all; done))) (fun hG => by simp [go_sem]) rfl rfl ?_
  simp [go_sem, ty3]
  repeat refine tk ?_
  refine h2 _ ?_
  clear h2 K2
  refine W_seqK fun K3 h3 => ?_
  refine W_seqK fun K4 h4 => ?_
  refine W_reg ?_
  simp [go_sem, ty3, ty4]
  repeat refine tk ?_
  refine h4 _ ?_
  clear h4 K4
  refine W_cond rfl (fun hb5 => ?_) fun hb5 => ?_
  · have q : szL left x.tot = -1 := by rw [show x.tot = (x.frames.length + (x.frames.map fun a => a.tot).sum) + (x.homes.length + (x.homes.map fun a => a.tot).sum + x.out.length + (x.out.map fun a => a.tot).sum + x.in_.length) from by (unfold GNode.tot; omega)]; exact szL_neg _ (by simpa using hb5)
    refine W_seqK fun K6 h6 => ?_
    refine W_reg ?_
    simp [go_sem, ty3]
    repeat refine tk ?_
    refine h6 _ ?_
    clear h6 K6
    refine W_ret ?_
    simp [go_sem, q]
  · have p0 : 0 ≤ szL left (x.frames.length + (x.frames.map fun a => a.tot).sum) := by simpa using hb5
    clear hb5
    have b0 := szL_le (n := x.frames.length + (x.frames.map fun a => a.tot).sum) g1
    have a0 : szL (szL left (x.frames.length + (x.frames.map fun a => a.tot).sum)) (x.homes.length + (x.homes.map fun a => a.tot).sum) = szL left (x.frames.length + (x.frames.map fun a => a.tot).sum + (x.homes.length + (x.homes.map fun a => a.tot).sum)) := szL_add _ p0
    refine W_skip ?_
    repeat refine tk ?_
    refine h3 _ ?_
    clear h3 K3
    refine W_seqK fun K7 h7 => ?_
    refine W_reg ?_
    simp [go_sem, ty3, ty29, ty33, ty118, a0]
    refine callA (fun hG => pc_laws_szHomeS x.homes (szL left (x.frames.length + (x.frames.map fun a => a.tot).sum)) (by first | omega | assumption | (simp only [a0]; omega) | (simp only [a0, a1]; omega) | (simp only [a0, a1, a2]; omega) | (simp_all; done)) (by first | omega | assumption | (simp only [a0]; omega) | (simp only [a0, a1]; omega) | (simp only [a0, a1, a2]; omega) | (simp_all; done)) (by first | omega | assumption | (simp only [a0]; omega) | (simp only [a0, a1]; omega) | (simp only [a0, a1, a2]; omega) | (simp_all; done)) (by first | omega | assumption | (simp only [a0]; omega) | (simp only [a0, a1]; omega) | (simp only [a0, a1, a2]; omega) | (simp_all; done))) (fun hG => by simp [go_sem, a0]) rfl rfl ?_
    simp [go_sem, ty3, a0]
    repeat refine tk ?_
    refine h7 _ ?_
    clear h7 K7
    refine W_seqK fun K8 h8 => ?_
    refine W_seqK fun K9 h9 => ?_
    refine W_reg ?_
    simp [go_sem, ty3, ty4, a0]
    repeat refine tk ?_
    refine h9 _ ?_
    clear h9 K9
    refine W_cond rfl (fun hb10 => ?_) fun hb10 => ?_
    · have q : szL left x.tot = -1 := by rw [show x.tot = (x.frames.length + (x.frames.map fun a => a.tot).sum + (x.homes.length + (x.homes.map fun a => a.tot).sum)) + (x.out.length + (x.out.map fun a => a.tot).sum + x.in_.length) from by (unfold GNode.tot; omega)]; exact szL_neg _ (by simpa using hb10)
      refine W_seqK fun K11 h11 => ?_
      refine W_reg ?_
      simp [go_sem, ty3, a0]
      repeat refine tk ?_
      refine h11 _ ?_
      clear h11 K11
      refine W_ret ?_
      simp [go_sem, q]
    · have p1 : 0 ≤ szL left (x.frames.length + (x.frames.map fun a => a.tot).sum + (x.homes.length + (x.homes.map fun a => a.tot).sum)) := by simpa using hb10
      clear hb10
      have b1 := szL_le (n := x.frames.length + (x.frames.map fun a => a.tot).sum + (x.homes.length + (x.homes.map fun a => a.tot).sum)) g1
      have a1 : szL (szL left (x.frames.length + (x.frames.map fun a => a.tot).sum + (x.homes.length + (x.homes.map fun a => a.tot).sum))) (x.out.length + (x.out.map fun a => a.tot).sum) = szL left (x.frames.length + (x.frames.map fun a => a.tot).sum + (x.homes.length + (x.homes.map fun a => a.tot).sum) + (x.out.length + (x.out.map fun a => a.tot).sum)) := szL_add _ p1
      refine W_skip ?_
      repeat refine tk ?_
      refine h8 _ ?_
      clear h8 K8
      refine W_seqK fun K12 h12 => ?_
      refine W_reg ?_
      simp [go_sem, ty3, ty30, ty33, ty122, a0, a1]
      refine callA (fun hG => pc_laws_szSenderS x.out (szL (szL left (x.frames.length + (x.frames.map fun a => a.tot).sum)) (x.homes.length + (x.homes.map fun a => a.tot).sum)) (by first | omega | assumption | (simp only [a0]; omega) | (simp only [a0, a1]; omega) | (simp only [a0, a1, a2]; omega) | (simp_all; done)) (by first | omega | assumption | (simp only [a0]; omega) | (simp only [a0, a1]; omega) | (simp only [a0, a1, a2]; omega) | (simp_all; done)) (by first | omega | assumption | (simp only [a0]; omega) | (simp only [a0, a1]; omega) | (simp only [a0, a1, a2]; omega) | (simp_all; done)) (by first | omega | assumption | (simp only [a0]; omega) | (simp only [a0, a1]; omega) | (simp only [a0, a1, a2]; omega) | (simp_all; done))) (fun hG => by simp [go_sem, a0, a1]) rfl rfl ?_
      simp [go_sem, ty3, a0, a1]
      repeat refine tk ?_
      refine h12 _ ?_
      clear h12 K12
      refine W_seqK fun K13 h13 => ?_
      refine W_seqK fun K14 h14 => ?_
      refine W_reg ?_
      simp [go_sem, ty3, ty4, a0, a1]
      repeat refine tk ?_
      refine h14 _ ?_
      clear h14 K14
      refine W_cond rfl (fun hb15 => ?_) fun hb15 => ?_
      · have q : szL left x.tot = -1 := by rw [show x.tot = (x.frames.length + (x.frames.map fun a => a.tot).sum + (x.homes.length + (x.homes.map fun a => a.tot).sum) + (x.out.length + (x.out.map fun a => a.tot).sum)) + (x.in_.length) from by (unfold GNode.tot; omega)]; exact szL_neg _ (by simpa using hb15)
        refine W_seqK fun K16 h16 => ?_
        refine W_reg ?_
        simp [go_sem, ty3, a0, a1]
        repeat refine tk ?_
        refine h16 _ ?_
        clear h16 K16
        refine W_ret ?_
        simp [go_sem, q]
      · have p2 : 0 ≤ szL left (x.frames.length + (x.frames.map fun a => a.tot).sum + (x.homes.length + (x.homes.map fun a => a.tot).sum) + (x.out.length + (x.out.map fun a => a.tot).sum)) := by simpa using hb15
        clear hb15
        have b2 := szL_le (n := x.frames.length + (x.frames.map fun a => a.tot).sum + (x.homes.length + (x.homes.map fun a => a.tot).sum) + (x.out.length + (x.out.map fun a => a.tot).sum)) g1
        have a2 : szL (szL left (x.frames.length + (x.frames.map fun a => a.tot).sum + (x.homes.length + (x.homes.map fun a => a.tot).sum) + (x.out.length + (x.out.map fun a => a.tot).sum))) (x.in_.length) = szL left (x.frames.length + (x.frames.map fun a => a.tot).sum + (x.homes.length + (x.homes.map fun a => a.tot).sum) + (x.out.length + (x.out.map fun a => a.tot).sum) + (x.in_.length)) := szL_add _ p2
        refine W_skip ?_
        repeat refine tk ?_
        refine h13 _ ?_
        clear h13 K13
        refine W_seqK fun K17 h17 => ?_
        refine W_reg ?_
        simp [go_sem, ty3, ty31, ty33, ty155, a0, a1, a2]
        refine callA (fun hG => pc_laws_szReceiverS x.in_ (szL (szL (szL left (x.frames.length + (x.frames.map fun a => a.tot).sum)) (x.homes.length + (x.homes.map fun a => a.tot).sum)) (x.out.length + (x.out.map fun a => a.tot).sum)) (by first | omega | assumption | (simp only [a0]; omega) | (simp only [a0, a1]; omega) | (simp only [a0, a1, a2]; omega) | (simp_all; done)) (by first | omega | assumption | (simp only [a0]; omega) | (simp only [a0, a1]; omega) | (simp only [a0, a1, a2]; omega) | (simp_all; done)) (by first | omega | assumption | (simp only [a0]; omega) | (simp only [a0, a1]; omega) | (simp only [a0, a1, a2]; omega) | (simp_all; done))) (fun hG => by simp [go_sem, a0, a1, a2]) rfl rfl ?_
        simp [go_sem, ty3, a0, a1, a2]
        repeat refine tk ?_
        refine h17 _ ?_
        clear h17 K17
        refine W_seqK fun K18 h18 => ?_
        refine W_seqK fun K19 h19 => ?_
        refine W_reg ?_
        simp [go_sem, ty3, ty4, a0, a1, a2]
        repeat refine tk ?_
        refine h19 _ ?_
        clear h19 K19
        refine W_cond rfl (fun hb20 => ?_) fun hb20 => ?_
        · have q : szL left x.tot = -1 := by rw [show x.tot = (x.frames.length + (x.frames.map fun a => a.tot).sum + (x.homes.length + (x.homes.map fun a => a.tot).sum) + (x.out.length + (x.out.map fun a => a.tot).sum) + (x.in_.length)) + (0) from by (unfold GNode.tot; omega)]; exact szL_neg _ (by simpa using hb20)
          refine W_seqK fun K21 h21 => ?_
          refine W_reg ?_
          simp [go_sem, ty3, a0, a1, a2]
          repeat refine tk ?_
          refine h21 _ ?_
          clear h21 K21
          refine W_ret ?_
          simp [go_sem, q]
        · have p3 : 0 ≤ szL left (x.frames.length + (x.frames.map fun a => a.tot).sum + (x.homes.length + (x.homes.map fun a => a.tot).sum) + (x.out.length + (x.out.map fun a => a.tot).sum) + (x.in_.length)) := by simpa using hb20
          clear hb20
          have b3 := szL_le (n := x.frames.length + (x.frames.map fun a => a.tot).sum + (x.homes.length + (x.homes.map fun a => a.tot).sum) + (x.out.length + (x.out.map fun a => a.tot).sum) + (x.in_.length)) g1
          have q : szL left x.tot = szL left (x.frames.length + (x.frames.map fun a => a.tot).sum + (x.homes.length + (x.homes.map fun a => a.tot).sum) + (x.out.length + (x.out.map fun a => a.tot).sum) + (x.in_.length)) := by unfold GNode.tot; first | rfl | (congr 1; omega)
          refine W_skip ?_
          repeat refine tk ?_
          refine h18 _ ?_
          clear h18 K18
          refine W_seqK fun K22 h22 => ?_
          refine W_reg ?_
          simp [go_sem, ty3, a0, a1, a2]
          repeat refine tk ?_
          refine h22 _ ?_
          clear h22 K22
          refine W_ret ?_
          simp [go_sem, q]

set_option maxRecDepth 100000 in
set_option maxHeartbeats 4000000 in
theorem pc_laws_toHart (h : GHart) (hx : h.regs.length ≤ 1048576) : PC Tryz.prog 35 [(true, eHart h)] [(true, eHart h)] := by
  refine PC_of (n := 15) Tryz.func35 rfl rfl rfl rfl (by simp) ?_
  refine W_seqK fun K1 h1 => ?_
  refine W_reg ?_
  simp [go_sem, ty24, ty36]
  repeat refine tk ?_
  refine h1 _ ?_
  clear h1 K1
  refine W_seqK fun K2 h2 => ?_
  refine W_reg ?_
  simp [go_sem, ty36]
  repeat refine tk ?_
  refine h2 _ ?_
  clear h2 K2
  refine W_seqK fun K3 h3 => ?_
  refine W_reg ?_
  simp [go_sem, ty3, ty22, ty24]
  refine callA (fun hG => pc_laws_toIntS h.regs (by omega)) (fun hG => by simp [go_sem]) rfl rfl ?_
  simp [go_sem, ty3, ty22, ty36]
  repeat refine tk ?_
  refine h3 _ ?_
  clear h3 K3
  refine W_seqK fun K4 h4 => ?_
  refine W_reg ?_
  simp [go_sem, ty3, ty24, ty36]
  repeat refine tk ?_
  refine h4 _ ?_
  clear h4 K4
  refine W_seqK fun K5 h5 => ?_
  refine W_reg ?_
  simp [go_sem, ty3, ty24, ty36]
  repeat refine tk ?_
  refine h5 _ ?_
  clear h5 K5
  refine W_seqK fun K6 h6 => ?_
  refine W_reg ?_
  simp [go_sem, ty36]
  repeat refine tk ?_
  refine h6 _ ?_
  clear h6 K6
  refine W_ret ?_
  simp [go_sem, ty36]

set_option maxRecDepth 100000 in
set_option maxHeartbeats 4000000 in
theorem pc_laws_eqHart (a : GHart) (b : GHart) (hx : a.regs.length ≤ 17592186043904) : PC Tryz.prog 52 [(true, eHart a), (true, eHart b)] [(false, [.bool (decide (a = b))])] := by
  refine PC_of (n := 21) Tryz.func52 rfl rfl rfl rfl (by simp) ?_
  refine W_seqK fun K1 h1 => ?_
  refine W_reg ?_
  simp [go_sem, ty4, ty36]
  repeat refine tk ?_
  refine h1 _ ?_
  clear h1 K1
  refine W_seqK fun K2 h2 => ?_
  refine W_seqK fun K3 h3 => ?_
  refine W_reg ?_
  simp [go_sem, ty3, ty4, ty22, ty36]
  refine callA (fun hG => pc_laws_eqIntS a.regs b.regs (by omega)) (fun hG => by simp [go_sem]) rfl rfl ?_
  simp [go_sem, ty4]
  repeat refine tk ?_
  refine h3 _ ?_
  clear h3 K3
  refine W_cond rfl (fun hb4 => ?_) fun hb4 => ?_
  · simp at hb4
    refine W_seqK fun K5 h5 => ?_
    refine W_reg ?_
    simp [go_sem, ty4]
    repeat refine tk ?_
    refine h5 _ ?_
    clear h5 K5
    refine W_ret ?_
    simp [go_sem, GHart.ext_iff, hb4]
  · simp at hb4
    refine W_skip ?_
    repeat refine tk ?_
    refine h2 _ ?_
    clear h2 K2
    refine W_seqK fun K6 h6 => ?_
    refine W_seqK fun K7 h7 => ?_
    refine W_reg ?_
    simp [go_sem, ty3, ty4, ty36]
    repeat refine tk ?_
    refine h7 _ ?_
    clear h7 K7
    refine W_cond rfl (fun hb8 => ?_) fun hb8 => ?_
    · simp at hb8
      refine W_seqK fun K9 h9 => ?_
      refine W_reg ?_
      simp [go_sem, ty4]
      repeat refine tk ?_
      refine h9 _ ?_
      clear h9 K9
      refine W_ret ?_
      simp [go_sem, GHart.ext_iff, hb4, hb8]
    · simp at hb8
      refine W_skip ?_
      repeat refine tk ?_
      refine h6 _ ?_
      clear h6 K6
      refine W_seqK fun K10 h10 => ?_
      refine W_seqK fun K11 h11 => ?_
      refine W_reg ?_
      simp [go_sem, ty3, ty4, ty36]
      repeat refine tk ?_
      refine h11 _ ?_
      clear h11 K11
      refine W_cond rfl (fun hb12 => ?_) fun hb12 => ?_
      · simp at hb12
        refine W_seqK fun K13 h13 => ?_
        refine W_reg ?_
        simp [go_sem, ty4]
        repeat refine tk ?_
        refine h13 _ ?_
        clear h13 K13
        refine W_ret ?_
        simp [go_sem, GHart.ext_iff, hb4, hb8, hb12]
      · simp at hb12
        refine W_skip ?_
        repeat refine tk ?_
        refine h10 _ ?_
        clear h10 K10
        refine W_seqK fun K14 h14 => ?_
        refine W_reg ?_
        simp [go_sem, ty4]
        repeat refine tk ?_
        refine h14 _ ?_
        clear h14 K14
        refine W_ret ?_
        simp [go_sem, GHart.ext_iff, hb4, hb8, hb12]

set_option maxRecDepth 100000 in
set_option maxHeartbeats 4000000 in
theorem pc_laws_szHart (h : GHart) (left : Int) (h1 : -9223372036854775808 + 9223372036854775807 ≤ left) (h2 : left ≤ 9223372036854775807) (h3 : h.regs.length ≤ 9223372036854775807) : PC Tryz.prog 16 [(true, eHart h), (false, [.int .i64 left])] [(false, [.int .i64 (szL left h.regs.length)])] := by
  refine PC_of (n := 12) Tryz.func16 rfl rfl rfl rfl (by simp) ?_
  refine W_seqK fun K1 h1 => ?_
  refine W_reg ?_
  simp [go_sem, ty3, ty24]
  repeat refine tk ?_
  refine h1 _ ?_
  clear h1 K1
  refine W_seqK fun K2 h2 => ?_
  refine W_reg ?_
  simp [go_sem, ty3, ty22, ty24]
  refine callA (fun hG => pc_laws_szIntS h.regs left (by omega) (by omega) (by omega)) (fun hG => by simp [go_sem]) rfl rfl ?_
  simp [go_sem, ty3]
  repeat refine tk ?_
  refine h2 _ ?_
  clear h2 K2
  refine W_seqK fun K3 h3 => ?_
  refine W_seqK fun K4 h4 => ?_
  refine W_reg ?_
  simp [go_sem, ty3, ty4]
  repeat refine tk ?_
  refine h4 _ ?_
  clear h4 K4
  refine W_cond rfl (fun hb5 => ?_) fun hb5 => ?_
  · have h0 : szL left h.regs.length = -1 := by simp at hb5; unfold szL at hb5 ⊢; split at hb5 <;> simp_all
    refine W_seqK fun K6 h6 => ?_
    refine W_reg ?_
    simp [go_sem, ty3]
    repeat refine tk ?_
    refine h6 _ ?_
    clear h6 K6
    refine W_ret ?_
    simp [go_sem, h0]
  · skip
    refine W_skip ?_
    repeat refine tk ?_
    refine h3 _ ?_
    clear h3 K3
    refine W_seqK fun K7 h7 => ?_
    refine W_reg ?_
    simp [go_sem, ty3]
    repeat refine tk ?_
    refine h7 _ ?_
    clear h7 K7
    refine W_ret ?_
    simp [go_sem]

set_option maxRecDepth 100000 in
set_option maxHeartbeats 4000000 in
theorem pc_laws_toCore (x : GCore) (hq : x.small) : PC Tryz.prog 7 [(true, eCore x)] [(true, eCore x)] := by
  unfold GCore.small GHart.small at hq
  obtain ⟨q0, q1, q2⟩ := hq
  refine PC_of (n := 13) Tryz.func7 rfl rfl rfl rfl (by simp) ?_
  refine W_seqK fun K1 h1 => ?_
  refine W_reg ?_
  simp [go_sem, ty27, ty39]
  repeat refine tk ?_
  refine h1 _ ?_
  clear h1 K1
  refine W_seqK fun K2 h2 => ?_
  refine W_reg ?_
  simp [go_sem, ty39]
  repeat refine tk ?_
  refine h2 _ ?_
  clear h2 K2
  refine W_seqK fun K3 h3 => ?_
  refine W_reg ?_
  simp [go_sem, ty24, ty27, ty36]
  refine callA (fun hG => pc_laws_toHart x.hart (by first | omega | assumption | (simp only [a0]; omega) | (simp only [a0, a1]; omega) | (simp only [a0, a1, a2]; omega) | (simp_all; done))) (fun hG => by simp [go_sem]) rfl rfl ?_
  simp [go_sem, ty36, ty39]
  repeat refine tk ?_
  refine h3 _ ?_
  clear h3 K3
  refine W_seqK fun K4 h4 => ?_
  refine W_reg ?_
  simp [go_sem, ty25, ty27, ty37, ty74, ty109]
  refine callA (fun hG => pc_laws_toBlockS x.cache (by first | omega | assumption | (simp only [a0]; omega) | (simp only [a0, a1]; omega) | (simp only [a0, a1, a2]; omega) | (simp_all; done)) (by first | omega | assumption | (simp only [a0]; omega) | (simp only [a0, a1]; omega) | (simp only [a0, a1, a2]; omega) | (simp_all; done))) (fun hG => by simp [go_sem]) rfl rfl ?_
  simp [go_sem, ty37, ty39, ty74]
  repeat refine tk ?_
  refine h4 _ ?_
  clear h4 K4
  refine W_seqK fun K5 h5 => ?_
  refine W_reg ?_
  simp [go_sem, ty39]
  repeat refine tk ?_
  refine h5 _ ?_
  clear h5 K5
  refine W_ret ?_
  simp [go_sem, ty39]

set_option maxRecDepth 100000 in
set_option maxHeartbeats 4000000 in
theorem pc_laws_eqCore (x : GCore) (y : GCore) (hq : x.small) : PC Tryz.prog 10 [(true, eCore x), (true, eCore y)] [(false, [.bool (decide (x = y))])] := by
  unfold GCore.small GHart.small at hq
  obtain ⟨q0, q1, q2⟩ := hq
  refine PC_of (n := 17) Tryz.func10 rfl rfl rfl rfl (by simp) ?_
  refine W_seqK fun K1 h1 => ?_
  refine W_reg ?_
  simp [go_sem, ty4, ty39]
  repeat refine tk ?_
  refine h1 _ ?_
  clear h1 K1
  refine W_seqK fun K2 h2 => ?_
  refine W_seqK fun K3 h3 => ?_
  refine W_reg ?_
  simp [go_sem, ty4, ty36, ty39]
  refine callA (fun hG => pc_laws_eqHart x.hart y.hart (by first | omega | assumption | (simp only [a0]; omega) | (simp only [a0, a1]; omega) | (simp only [a0, a1, a2]; omega) | (simp_all; done))) (fun hG => by simp [go_sem]) rfl rfl ?_
  simp [go_sem, ty4]
  repeat refine tk ?_
  refine h3 _ ?_
  clear h3 K3
  refine W_cond rfl (fun hb4 => ?_) fun hb4 => ?_
  · try simp at hb4
    refine W_seqK fun K5 h5 => ?_
    refine W_reg ?_
    simp [go_sem, ty4]
    repeat refine tk ?_
    refine h5 _ ?_
    clear h5 K5
    refine W_ret ?_
    simp [go_sem, GCore.ext_iff, hb4]
  · try simp at hb4
    refine W_skip ?_
    repeat refine tk ?_
    refine h2 _ ?_
    clear h2 K2
    refine W_seqK fun K6 h6 => ?_
    refine W_seqK fun K7 h7 => ?_
    refine W_reg ?_
    simp [go_sem, ty4, ty37, ty39, ty74]
    refine callA (fun hG => pc_laws_eqBlockS x.cache y.cache (by first | omega | assumption | (simp only [a0]; omega) | (simp only [a0, a1]; omega) | (simp only [a0, a1, a2]; omega) | (simp_all; done)) (by first | omega | assumption | (simp only [a0]; omega) | (simp only [a0, a1]; omega) | (simp only [a0, a1, a2]; omega) | (simp_all; done))) (fun hG => by simp [go_sem]) rfl rfl ?_
    simp [go_sem, ty4]
    repeat refine tk ?_
    refine h7 _ ?_
    clear h7 K7
    refine W_cond rfl (fun hb8 => ?_) fun hb8 => ?_
    · try simp at hb8
      refine W_seqK fun K9 h9 => ?_
      refine W_reg ?_
      simp [go_sem, ty4]
      repeat refine tk ?_
      refine h9 _ ?_
      clear h9 K9
      refine W_ret ?_
      simp [go_sem, GCore.ext_iff, hb4, hb8]
    · try simp at hb8
      refine W_skip ?_
      repeat refine tk ?_
      refine h6 _ ?_
      clear h6 K6
      refine W_seqK fun K10 h10 => ?_
      refine W_reg ?_
      simp [go_sem, ty4]
      repeat refine tk ?_
      refine h10 _ ?_
      clear h10 K10
      refine W_ret ?_
      simp [go_sem, GCore.ext_iff, hb4, hb8]

set_option maxRecDepth 100000 in
set_option maxHeartbeats 4000000 in
theorem pc_laws_szCore (x : GCore) (left : Int) (g1 : 0 ≤ left) (g2 : left ≤ 9223372036854775807) (g3 : x.ok) : PC Tryz.prog 4 [(true, eCore x), (false, [.int .i64 left])] [(false, [.int .i64 (szL left x.tot)])] := by
  have g4 := g3
  unfold GCore.ok GHart.ok at g3
  refine PC_of (n := 18) Tryz.func4 rfl rfl rfl rfl (by simp) ?_
  refine W_seqK fun K1 h1 => ?_
  refine W_reg ?_
  simp [go_sem, ty3, ty27]
  repeat refine tk ?_
  refine h1 _ ?_
  clear h1 K1
  refine W_seqK fun K2 h2 => ?_
  refine W_reg ?_
  simp [go_sem, ty3, ty24, ty27]
  refine callA (fun hG => pc_laws_szHart x.hart left (by first | omega | assumption | (simp only [a0]; omega) | (simp only [a0, a1]; omega) | (simp only [a0, a1, a2]; omega) | (simp_all; done)) (by first | omega | assumption | (simp only [a0]; omega) | (simp only [a0, a1]; omega) | (simp only [a0, a1, a2]; omega) | (simp_all; done)) (by first | omega | assumption | (simp only [a0]; omega) | (simp only [a0, a1]; omega) | (simp only [a0, a1, a2]; omega) | (simp_all; done))) (fun hG => by simp [go_sem]) rfl rfl ?_
  simp [go_sem, ty3]
  repeat refine tk ?_
  refine h2 _ ?_
  clear h2 K2
  refine W_seqK fun K3 h3 => ?_
  refine W_seqK fun K4 h4 => ?_
  refine W_reg ?_
  simp [go_sem, ty3, ty4]
  repeat refine tk ?_
  refine h4 _ ?_
  clear h4 K4
  refine W_cond rfl (fun hb5 => ?_) fun hb5 => ?_
  · have q : szL left x.tot = -1 := by rw [show x.tot = (x.hart.regs.length) + (x.cache.length + (x.cache.map fun a => a.tot).sum) from by (unfold GCore.tot GHart.tot; omega)]; exact szL_neg _ (by simpa using hb5)
    refine W_seqK fun K6 h6 => ?_
    refine W_reg ?_
    simp [go_sem, ty3]
    repeat refine tk ?_
    refine h6 _ ?_
    clear h6 K6
    refine W_ret ?_
    simp [go_sem, q]
  · have p0 : 0 ≤ szL left (x.hart.regs.length) := by simpa using hb5
    clear hb5
    have b0 := szL_le (n := x.hart.regs.length) g1
    have a0 : szL (szL left (x.hart.regs.length)) (x.cache.length + (x.cache.map fun a => a.tot).sum) = szL left (x.hart.regs.length + (x.cache.length + (x.cache.map fun a => a.tot).sum)) := szL_add _ p0
    refine W_skip ?_
    repeat refine tk ?_
    refine h3 _ ?_
    clear h3 K3
    refine W_seqK fun K7 h7 => ?_
    refine W_reg ?_
    simp [go_sem, ty3, ty25, ty27, ty109, a0]
    refine callA (fun hG => pc_laws_szBlockS x.cache (szL left x.hart.regs.length) (by first | omega | assumption | (simp only [a0]; omega) | (simp only [a0, a1]; omega) | (simp only [a0, a1, a2]; omega) | (simp_all; done)) (by first | omega | assumption | (simp only [a0]; omega) | (simp only [a0, a1]; omega) | (simp only [a0, a1, a2]; omega) | (simp_all; done)) (by first | omega | assumption | (simp only [a0]; omega) | (simp only [a0, a1]; omega) | (simp only [a0, a1, a2]; omega) | (simp_all; done)) (by first | omega | assumption | (simp only [a0]; omega) | (simp only [a0, a1]; omega) | (simp only [a0, a1, a2]; omega) | (simp_all; done))) (fun hG => by simp [go_sem, a0]) rfl rfl ?_
    simp [go_sem, ty3, a0]
    repeat refine tk ?_
    refine h7 _ ?_
    clear h7 K7
    refine W_seqK fun K8 h8 => ?_
    refine W_seqK fun K9 h9 => ?_
    refine W_reg ?_
    simp [go_sem, ty3, ty4, a0]
    repeat refine tk ?_
    refine h9 _ ?_
    clear h9 K9
    refine W_cond rfl (fun hb10 => ?_) fun hb10 => ?_
    · have q : szL left x.tot = -1 := by rw [show x.tot = (x.hart.regs.length + (x.cache.length + (x.cache.map fun a => a.tot).sum)) + (0) from by (unfold GCore.tot GHart.tot; omega)]; exact szL_neg _ (by simpa using hb10)
      refine W_seqK fun K11 h11 => ?_
      refine W_reg ?_
      simp [go_sem, ty3, a0]
      repeat refine tk ?_
      refine h11 _ ?_
      clear h11 K11
      refine W_ret ?_
      simp [go_sem, q]
    · have p1 : 0 ≤ szL left (x.hart.regs.length + (x.cache.length + (x.cache.map fun a => a.tot).sum)) := by simpa using hb10
      clear hb10
      have b1 := szL_le (n := x.hart.regs.length + (x.cache.length + (x.cache.map fun a => a.tot).sum)) g1
      have q : szL left x.tot = szL left (x.hart.regs.length + (x.cache.length + (x.cache.map fun a => a.tot).sum)) := by unfold GCore.tot GHart.tot; first | rfl | (congr 1; omega)
      refine W_skip ?_
      repeat refine tk ?_
      refine h8 _ ?_
      clear h8 K8
      refine W_seqK fun K12 h12 => ?_
      refine W_reg ?_
      simp [go_sem, ty3, a0]
      repeat refine tk ?_
      refine h12 _ ?_
      clear h12 K12
      refine W_ret ?_
      simp [go_sem, q]
end Go.Tw
