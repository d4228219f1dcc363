/- Walks of functions: impl.CoreStep -/
import Derived.Test.YtjfjnpbeboafkaaGreatG8u5
import Derived.Test.YtjfjnpbeboafkaaGreatG8w2
import Derived.Test.YtjfjnpbeboafkaaGreatG8t
import Derived.Test.YtjfjnpbeboafkaaGreatG8f
import Derived.Test.YtjfjnpbeboafkaaGreatG8s
import Derived.Test.YtjfjnpbeboafkaaGreatBaseG
set_option linter.unusedSimpArgs false
set_option linter.unusedVariables false
set_option linter.unnecessarySimpa false
namespace Go.Tw
open Go.Proofs

set_option maxRecDepth 100000 in
set_option maxHeartbeats 4000000 in
theorem pc_impl_CoreStep (c : GCore) (n : GNode) (nodes : Int) (hc : c.small) (hn : n.small) : PC Tryz.prog 9 [(true, eCore c), (true, eNode n), (false, [.int .i64 nodes])] [(true, eCore ((coreStep c n nodes).1)), (true, eNode ((coreStep c n nodes).2.1)), (false, [.int .i64 ((coreStep c n nodes).2.2)])] := by
  have hc1 := hc
  unfold GCore.small GHart.small at hc1
  obtain ⟨u1, u2, u3⟩ := hc1
  have hn1 := hn
  unfold GNode.small at hn1
  obtain ⟨q1, q2, q3, q4, q5, q6, q7⟩ := hn1
  have v1 : (csCache c n).length ≤ 1048576 := by have := csCache_few c n; omega
  have v2 := csCache_small (c := c) u3 hn
  have hat : target (csIns c n) c.hart.regs = csAt c n := rfl
  have hwk : work c.hart (csIns c n) (csGot c n) = csWork c n := rfl
  have hci : cfI (csCache c n) c.hart.pc = csIns c n := rfl
  have hrng := csAt_range c n
  refine PC_of (n := 155) Tryz.func9 rfl rfl rfl rfl (by simp) ?_
  refine W_seqK fun K1 h1 => ?_
  refine W_reg ?_
  simp [go_sem, ty3, ty39, ty45]
  repeat refine tk ?_
  refine h1 _ ?_
  clear h1 K1
  refine W_seqK fun K2 h2 => ?_
  refine W_seqK fun K3 h3 => ?_
  refine W_reg ?_
  simp [go_sem, ty3, ty4, ty39, ty45]
  refine callA (fun hG => pc_impl_CoreOk c n nodes (by first | assumption | omega) (by first | assumption | omega)) (fun hG => by simp [go_sem]) rfl rfl ?_
  simp [go_sem, ty4]
  repeat refine tk ?_
  refine h3 _ ?_
  clear h3 K3
  refine W_cond rfl (fun hb4 => ?_) fun hb4 => ?_
  · have qk : coreOkB c n nodes = false := by (unfold coreOkB; simp at hb4 ⊢; grind)
    have q := coreStep_bad qk
    clear hb4
    refine W_seqK fun K5 h5 => ?_
    refine W_reg ?_
    simp [go_sem, ty3, ty39, ty45, fw39, fw45]
    repeat refine tk ?_
    refine h5 _ ?_
    clear h5 K5
    refine W_ret ?_
    simp [go_sem, ty39, ty45, q, zCore, zNode]
  · have qk : coreOkB c n nodes = true := by (unfold coreOkB; simp at hb4 ⊢; grind)
    obtain ⟨kn, kh, kc⟩ := coreOkB_facts qk
    obtain ⟨-, khl, ⟨kp0, kp1⟩, kst⟩ := hart_facts kh
    obtain ⟨kf, -, -, -, kfr, -, -, -⟩ := nodeOk_facts kn
    obtain ⟨k, r0, e2, d1, d2, d3, d4, d5, d6, d7, d8, d9, d10⟩ := page_nat kp0 kp1 kf
    have e2i : (k : Int) < (n.frames.length : Int) := by omega
    have hfk : n.frames[k].list.length ≤ 1048576 := q2 _ (List.getElem_mem e2)
    have w1 : (cacheAdd c.cache (blockOf n.frames[k].list c.hart.pc)).length ≤ 1048576 := by have := cacheAdd_len c.cache (blockOf n.frames[k].list c.hart.pc); omega
    have w0 : (blockOf n.frames[k].list c.hart.pc).small := by unfold GBlock.small; exact blockOf_len hfk
    have w2 : ∀ a ∈ cacheAdd c.cache (blockOf n.frames[k].list c.hart.pc), a.small := fun a ha => (cacheAdd_mem ha).elim (u3 a) fun e => e ▸ w0
    clear hb4
    refine W_skip ?_
    repeat refine tk ?_
    refine h2 _ ?_
    clear h2 K2
    refine W_seqJK (α := Unit) (fun _u => ({ env := [(2, true, .l (.t (.int .i64 (nodes)))), (3, true, .l (.ptr 10 0)), (4, true, .l (.ptr 11 0)), (6, true, .l (.ptr 12 0)), (7, true, .l (.ptr 13 0))], box := [(10, [.ref 30 [] 1 0 (c.hart.regs).length, .t (.int .i64 c.hart.pc), .t (.int .i64 c.hart.state), .ref 33 [] 2 0 (c.cache).length]), (11, [.t (.int .i64 n.id), .ref 35 [] 3 0 (n.frames).length, .ref 36 [] 8 0 (n.homes).length, .ref 37 [] 2 0 (n.out).length, .ref 38 [] 1 0 (n.in_).length]), (12, [.nil, .t (.int .i64 0), .t (.int .i64 0), .nil]), (13, [.t (.int .i64 0), .nil, .nil, .nil, .nil])], row := [(30, ⟨.own, 1, enc eI c.hart.regs⟩), (33, ⟨.own, 2, enc eBlock c.cache⟩), (35, ⟨.own, 3, enc eFrame n.frames⟩), (36, ⟨.own, 8, enc eHome n.homes⟩), (37, ⟨.own, 2, enc eSender n.out⟩), (38, ⟨.own, 1, enc eReceiver n.in_⟩)], nxt := 60, sav := [] } : St)) (fun _u => True) (fun J6 hJ6 => ?_) ?_
    · refine W_drawS true (.op 0 (.fork 1 (.op 2 (.op 3 (.op 4 (.op 5 .nil)))) 2 (.op 1 (.op 3 (.op 4 (.op 5 .nil)))))) mixed (by decide +kernel) rfl ?_
      simp (config := {maxSteps := 10000000}) [go_sem, ty39, d1, d2, e2, e2i]
      refine ⟨?_, ?_⟩
      · try simp (config := {maxSteps := 10000000}) [go_sem, ty39, d1, d2, e2, e2i]
        refine callA (fun hG => pc_impl_copyCore c (by first | assumption | omega)) (fun hG => by simp [go_sem, d1, d2, e2, e2i]) rfl rfl ?_
        simp (config := {maxSteps := 10000000}) [go_sem, ty45, d1, d2, e2, e2i]
        refine callA (fun hG => pc_impl_copyNode n (by first | assumption | omega)) (fun hG => by simp [go_sem, d1, d2, e2, e2i]) rfl rfl ?_
        try simp (config := {maxSteps := 10000000}) [go_sem, ty39, ty45, d1, d2, e2, e2i]
        (repeat refine tk ?_); refine hJ6 _ ⟨(), trivial, ?_⟩
        exact (Sub.swp_row 15 30 rfl).trans ((Sub.swp_row 18 33 rfl).trans ((Sub.swp_row 20 35 rfl).trans ((Sub.swp_row 21 36 rfl).trans ((Sub.swp_row 22 37 rfl).trans ((Sub.swp_row 23 38 rfl).trans (Sub.of_neat [2, 3, 4, 6, 7] [30, 33, 35, 36, 37, 38] [10, 11, 12, 13] 60 (by decide) (by simp [go_sem])))))))
      · try simp (config := {maxSteps := 10000000}) [go_sem, ty39, ty45, d1, d2, e2, e2i]
        refine callA (fun hG => pc_impl_copyCore c (by first | assumption | omega)) (fun hG => by simp [go_sem, d1, d2, e2, e2i]) rfl rfl ?_
        simp (config := {maxSteps := 10000000}) [go_sem, ty45, d1, d2, e2, e2i]
        refine callA (fun hG => pc_impl_copyNode n (by first | assumption | omega)) (fun hG => by simp [go_sem, d1, d2, e2, e2i]) rfl rfl ?_
        try simp (config := {maxSteps := 10000000}) [go_sem, ty39, ty45, d1, d2, e2, e2i]
        (repeat refine tk ?_); refine hJ6 _ ⟨(), trivial, ?_⟩
        exact (Sub.swp_row 15 30 rfl).trans ((Sub.swp_row 18 33 rfl).trans ((Sub.swp_row 20 35 rfl).trans ((Sub.swp_row 21 36 rfl).trans ((Sub.swp_row 22 37 rfl).trans ((Sub.swp_row 23 38 rfl).trans (Sub.of_neat [2, 3, 4, 6, 7] [30, 33, 35, 36, 37, 38] [10, 11, 12, 13] 60 (by decide) (by simp [go_sem])))))))
    · rintro _ hinv
      refine W_seqK fun K7 h7 => ?_
      refine W_seqK fun K8 h8 => ?_
      refine W_reg ?_
      simp [go_sem, ty3, ty4, ty36, ty39, d1, d2, e2, e2i]
      repeat refine tk ?_
      refine h8 _ ?_
      clear h8 K8
      refine W_cond rfl (fun hb9 => ?_) fun hb9 => ?_
      · have q := coreStep_over qk (by simpa using hb9)
        clear hb9
        refine W_seqK fun K10 h10 => ?_
        refine W_drawS true (.op 0 (.fork 1 (.op 2 (.op 3 (.op 4 .nil))) 2 (.op 1 (.op 3 (.op 4 .nil))))) mixed (by decide +kernel) rfl ?_
        simp (config := {maxSteps := 10000000}) [go_sem, ty3, ty39, ty45, d1, d2, e2, e2i]
        try (apply And.intro)
        all_goals
          repeat refine tk ?_
          refine h10 _ ?_
          clear h10 K10
          refine W_ret ?_
          simp [go_sem, ty39, ty45, q]
      · have hs0 : c.hart.state = 0 := by simpa using hb9
        clear hb9
        refine W_skip ?_
        repeat refine tk ?_
        refine h7 _ ?_
        clear h7 K7
        refine W_seqK fun K11 h11 => ?_
        refine W_reg ?_
        simp [go_sem, ty3, ty36, ty39, d1, d2, e2, e2i]
        repeat refine tk ?_
        refine h11 _ ?_
        clear h11 K11
        refine W_seqK fun K12 h12 => ?_
        refine W_seqK fun K13 h13 => ?_
        refine W_reg ?_
        simp [go_sem, ty3, ty4, ty40, ty45, ty65, d1, d2, e2, e2i]
        repeat refine tk ?_
        refine h13 _ ?_
        clear h13 K13
        refine W_cond rfl (fun hb14 => ?_) fun hb14 => ?_
        · have q := coreStep_wait1 qk hs0 (by rw [d7]; simpa using hb14)
          clear hb14
          refine W_seqK fun K15 h15 => ?_
          refine W_reg ?_
          simp [go_sem, ty3, ty4, ty45, d1, d2, e2, e2i]
          refine callA (fun hG => pc_impl_Want n nodes (c.hart.pc / 4) false (by exact hn)) (fun hG => by simp [go_sem, d3, d1, d2, e2, e2i]) rfl rfl ?_
          simp [go_sem, ty4, ty45, d1, d2, e2, e2i]
          repeat refine tk ?_
          refine h15 _ ?_
          clear h15 K15
          refine W_seqK fun K16 h16 => ?_
          refine W_drawS true (.op 0 (.fork 1 (.op 2 (.op 3 (.op 4 .nil))) 2 (.op 1 (.op 3 (.op 4 .nil))))) mixed (by decide +kernel) rfl ?_
          simp (config := {maxSteps := 10000000}) [go_sem, ty3, ty39, ty45, d1, d2, e2, e2i]
          try (apply And.intro)
          all_goals
            repeat refine tk ?_
            refine h16 _ ?_
            clear h16 K16
            refine W_ret ?_
            simp [go_sem, ty39, ty45, q]
        · have hf0 : ¬ (frameAtI n (c.hart.pc / 4)).state = 0 := by (rw [d7]; simpa using hb14)
          clear hb14
          refine W_skip ?_
          repeat refine tk ?_
          refine h12 _ ?_
          clear h12 K12
          refine W_seqK fun K17 h17 => ?_
          refine W_reg ?_
          simp [go_sem, ty3, ty37, ty39, ty74, d1, d2, e2, e2i]
          refine callA (fun hG => pc_impl_CacheFind c.cache c.hart.pc (by exact u2) (by exact u3)) (fun hG => by simp [go_sem, d1, d2, e2, e2i]) rfl rfl ?_
          simp [go_sem, ty4, ty68, d1, d2, e2, e2i]
          repeat refine tk ?_
          refine h17 _ ?_
          clear h17 K17
          refine W_seqJK (α := Unit) (fun _u => ({ env := [(2, true, .l (.t (.int .i64 (nodes)))), (3, true, .l (.ptr 10 0)), (4, true, .l (.ptr 11 0)), (6, true, .l (.ptr 12 0)), (7, true, .l (.ptr 13 0)), (10, true, .l (.ptr 66 0))], box := [(10, [.ref 30 [] 1 0 (c.hart.regs).length, .t (.int .i64 c.hart.pc), .t (.int .i64 c.hart.state), .ref 41 [] 2 0 (csCache c n).length]), (11, [.t (.int .i64 n.id), .ref 35 [] 3 0 (n.frames).length, .ref 36 [] 8 0 (n.homes).length, .ref 37 [] 2 0 (n.out).length, .ref 38 [] 1 0 (n.in_).length]), (12, [.nil, .t (.int .i64 0), .t (.int .i64 0), .nil]), (13, [.t (.int .i64 0), .nil, .nil, .nil, .nil]), (66, [.t (.int .i64 ((csIns c n).op)), .t (.int .i64 ((csIns c n).r)), .t (.int .i64 ((csIns c n).a)), .t (.int .i64 ((csIns c n).b)), .t (.int .i64 ((csIns c n).n))])], row := [(30, ⟨.own, 1, enc eI c.hart.regs⟩), (35, ⟨.own, 3, enc eFrame n.frames⟩), (36, ⟨.own, 8, enc eHome n.homes⟩), (37, ⟨.own, 2, enc eSender n.out⟩), (38, ⟨.own, 1, enc eReceiver n.in_⟩), (41, ⟨.own, 2, enc eBlock (csCache c n)⟩)], nxt := 61, sav := [] } : St)) (fun _u => True) (fun J18 hJ18 => ?_) ?_
          · refine W_seqK fun K19 h19 => ?_
            refine W_reg ?_
            simp [go_sem, ty4, d1, d2, e2, e2i]
            repeat refine tk ?_
            refine h19 _ ?_
            clear h19 K19
            refine W_cond rfl (fun hb20 => ?_) fun hb20 => ?_
            · have hcf : cfB c.cache c.hart.pc = false := by simpa using hb20
              have hcc := csCache_miss hcf e2 d7
              clear hb20
              refine W_seqK fun K21 h21 => ?_
              refine W_drawT true mixed (by decide +kernel) ?_
              simp [go_sem, ty3, ty22, ty37, ty39, ty40, ty45, ty65, ty74, d1, d2, e2, e2i]
              refine callA (fun hG => pc_impl_BlockOf n.frames[k].list c.hart.pc (by exact hfk)) (fun hG => by simp [go_sem, d1, d2, e2, e2i]) rfl rfl ?_
              simp [go_sem, ty37, ty74, d1, d2, e2, e2i]
              refine callA (fun hG => pc_impl_CacheAdd c.cache (blockOf n.frames[k].list c.hart.pc) (by exact u2) (by exact u3) (by exact w0)) (fun hG => by simp [go_sem, d1, d2, e2, e2i]) rfl rfl ?_
              simp [go_sem, ty37, ty39, ty74, d1, d2, e2, e2i]
              repeat refine tk ?_
              refine h21 _ ?_
              clear h21 K21
              refine W_reg ?_
              simp [go_sem, ty3, ty37, ty39, ty74, d1, d2, e2, e2i]
              refine callA (fun hG => pc_impl_CacheFind (cacheAdd c.cache (blockOf n.frames[k].list c.hart.pc)) c.hart.pc (by exact w1) (by exact w2)) (fun hG => by simp [go_sem, d1, d2, e2, e2i]) rfl rfl ?_
              simp [go_sem, ty4, ty68, d1, d2, e2, e2i]
              (repeat refine tk ?_); refine hJ18 _ ⟨(), trivial, ?_⟩
              exact (Sub.swp_row 70 41 rfl).trans (Sub.of_neat [2, 3, 4, 6, 7, 10] [30, 35, 36, 37, 38, 41] [10, 11, 12, 13, 66] 61 (by decide) (by simp [go_sem, hcc, hci]))
            · have hcf : cfB c.cache c.hart.pc = true := by simpa using hb20
              have hcc := csCache_hit (n := n) hcf
              clear hb20
              refine W_skip ?_
              (repeat refine tk ?_); refine hJ18 _ ⟨(), trivial, ?_⟩
              exact (Sub.swp_row 33 41 rfl).trans (Sub.of_neat [2, 3, 4, 6, 7, 10] [30, 35, 36, 37, 38, 41] [10, 11, 12, 13, 66] 61 (by decide) (by simp [go_sem, hcc, hci]))
          · rintro _ hinv
            refine W_seqK fun K22 h22 => ?_
            refine W_reg ?_
            simp [go_sem, ty3, ty22, ty36, ty39, ty68, hat, d1, d2, e2, e2i]
            refine callA (fun hG => pc_impl_Target (csIns c n) c.hart.regs) (fun hG => by simp [go_sem, d1, d2, e2, e2i]) rfl rfl ?_
            simp [go_sem, ty3, hat, d1, d2, e2, e2i]
            repeat refine tk ?_
            refine h22 _ ?_
            clear h22 K22
            refine W_seqK fun K23 h23 => ?_
            refine W_reg ?_
            simp [go_sem, ty3, d1, d2, e2, e2i]
            repeat refine tk ?_
            refine h23 _ ?_
            clear h23 K23
            refine W_seqJK (α := Unit) (fun _u => ({ env := [(3, true, .l (.ptr 10 0)), (4, true, .l (.ptr 11 0)), (6, true, .l (.ptr 12 0)), (7, true, .l (.ptr 13 0)), (10, true, .l (.ptr 66 0)), (12, true, .l (.t (.int .i64 ((csAt c n))))), (13, true, .l (.t (.int .i64 (csGot c n))))], box := [(10, [.ref 30 [] 1 0 (c.hart.regs).length, .t (.int .i64 c.hart.pc), .t (.int .i64 c.hart.state), .ref 41 [] 2 0 (csCache c n).length]), (11, [.t (.int .i64 n.id), .ref 35 [] 3 0 (n.frames).length, .ref 36 [] 8 0 (n.homes).length, .ref 37 [] 2 0 (n.out).length, .ref 38 [] 1 0 (n.in_).length]), (12, [.nil, .t (.int .i64 0), .t (.int .i64 0), .nil]), (13, [.t (.int .i64 0), .nil, .nil, .nil, .nil]), (66, [.t (.int .i64 ((csIns c n).op)), .t (.int .i64 ((csIns c n).r)), .t (.int .i64 ((csIns c n).a)), .t (.int .i64 ((csIns c n).b)), .t (.int .i64 ((csIns c n).n))])], row := [(30, ⟨.own, 1, enc eI c.hart.regs⟩), (35, ⟨.own, 3, enc eFrame n.frames⟩), (36, ⟨.own, 8, enc eHome n.homes⟩), (37, ⟨.own, 2, enc eSender n.out⟩), (38, ⟨.own, 1, enc eReceiver n.in_⟩), (41, ⟨.own, 2, enc eBlock (csCache c n)⟩)], nxt := 61, sav := [] } : St)) (fun _u => 0 ≤ csAt c n → lacks (frameAtI n (csAt c n / 4)) (csOwn c n) = false) (fun J24 hJ24 => ?_) ?_
            · refine W_seqK fun K25 h25 => ?_
              refine W_reg ?_
              simp [go_sem, ty3, ty4, d1, d2, e2, e2i]
              repeat refine tk ?_
              refine h25 _ ?_
              clear h25 K25
              refine W_cond rfl (fun hb26 => ?_) fun hb26 => ?_
              · have ha0 : 0 ≤ csAt c n := by simpa using hb26
                obtain ⟨a, r, e3, c1, c2, c3, c4, c5, c6, c7, c8, c9, c10⟩ := page_nat (n := n) ha0 (by omega) kf
                have e3i : (a : Int) < (n.frames.length : Int) := by omega
                have hfa : n.frames[a].list.length ≤ 1048576 := q2 _ (List.getElem_mem e3)
                have e4 := lessB_eq (kfr a e3) (csOwn c n)
                clear hb26
                refine W_seqK fun K27 h27 => ?_
                refine W_reg ?_
                simp [go_sem, ty3, d1, d2, e2, e2i, c1, c2, e3, e3i]
                repeat refine tk ?_
                refine h27 _ ?_
                clear h27 K27
                refine W_seqK fun K28 h28 => ?_
                refine W_reg ?_
                simp [go_sem, ty3, ty4, ty68, d1, d2, e2, e2i, c1, c2, e3, e3i]
                repeat refine tk ?_
                refine h28 _ ?_
                clear h28 K28
                refine W_seqK fun K29 h29 => ?_
                refine W_seqK fun K30 h30 => ?_
                refine W_reg ?_
                simp [go_sem, ty3, ty4, ty40, ty45, ty65, d1, d2, e2, e2i, c1, c2, e3, e3i]
                refine callA (fun hG => pc_impl_lacks n.frames[a] (csOwn c n)) (fun hG => by simp [go_sem, csOwn, bne_dec, d1, d2, e2, e2i, c1, c2, e3, e3i]) rfl rfl ?_
                simp [go_sem, d1, d2, e2, e2i, c1, c2, e3, e3i]
                repeat refine tk ?_
                refine h30 _ ?_
                clear h30 K30
                refine W_cond rfl (fun hb31 => ?_) fun hb31 => ?_
                · have hl : lacks n.frames[a] (csOwn c n) = true := by simpa using hb31
                  have q := coreStep_wait2 qk hs0 hf0 ha0 (by rw [c7]; exact hl)
                  clear hb31
                  refine W_seqK fun K32 h32 => ?_
                  refine W_reg ?_
                  simp [go_sem, ty3, ty4, ty45, d1, d2, e2, e2i, c1, c2, e3, e3i]
                  refine callA (fun hG => pc_impl_Want n nodes (csAt c n / 4) (csOwn c n) (by exact hn)) (fun hG => by simp [go_sem, c3, csOwn, bne_dec, d1, d2, e2, e2i, c1, c2, e3, e3i]) rfl rfl ?_
                  simp [go_sem, ty4, ty45, d1, d2, e2, e2i, c1, c2, e3, e3i]
                  repeat refine tk ?_
                  refine h32 _ ?_
                  clear h32 K32
                  refine W_seqK fun K33 h33 => ?_
                  refine W_drawS true (.op 0 (.fork 1 (.op 2 (.op 3 (.op 4 .nil))) 2 (.op 1 (.op 3 (.op 4 .nil))))) mixed (by decide +kernel) rfl ?_
                  simp (config := {maxSteps := 10000000}) [go_sem, ty3, ty39, ty45, d1, d2, e2, e2i, c1, c2, e3, e3i]
                  try (apply And.intro)
                  all_goals
                    repeat refine tk ?_
                    refine h33 _ ?_
                    clear h33 K33
                    refine W_ret ?_
                    simp [go_sem, ty39, ty45, q]
                · have hl : lacks n.frames[a] (csOwn c n) = false := by simpa using hb31
                  have hjv : 0 ≤ csAt c n → lacks (frameAtI n (csAt c n / 4)) (csOwn c n) = false := fun _ => by rw [c7]; exact hl
                  obtain ⟨l1, l2, l3⟩ := lacks_no hl (kfr a e3)
                  have e5 : r < n.frames[a].list.length := by omega
                  have e5i : (r : Int) < (n.frames[a].list.length : Int) := by omega
                  have hgot : n.frames[a].list[r] = csGot c n := by (unfold csGot; rw [if_pos ha0, c7, c5, getD_at e5])
                  have hfr := fr_at (kfr a e3) (show r < 4 by omega) e5
                  clear hb31
                  refine W_skip ?_
                  repeat refine tk ?_
                  refine h29 _ ?_
                  clear h29 K29
                  refine W_reg ?_
                  simp [go_sem, ty3, ty22, ty40, ty45, ty65, d1, d2, e2, e2i, c1, c2, e3, e3i, c4, e5, e5i]
                  (repeat refine tk ?_); refine hJ24 _ ⟨(), hjv, ?_⟩
                  exact Sub.of_neat [3, 4, 6, 7, 10, 12, 13] [30, 35, 36, 37, 38, 41] [10, 11, 12, 13, 66] 61 (by decide) (by simp [go_sem, hgot])
              · have hneg : ¬ 0 ≤ csAt c n := by simpa using hb26
                have hgot : csGot c n = 0 := if_neg hneg
                have hjv : 0 ≤ csAt c n → lacks (frameAtI n (csAt c n / 4)) (csOwn c n) = false := fun h => absurd h hneg
                clear hb26
                refine W_skip ?_
                (repeat refine tk ?_); refine hJ24 _ ⟨(), hjv, ?_⟩
                exact Sub.of_neat [3, 4, 6, 7, 10, 12, 13] [30, 35, 36, 37, 38, 41] [10, 11, 12, 13, 66] 61 (by decide) (by simp [go_sem, hgot])
            · rintro _ hinv
              have hjv := hinv
              refine W_seqK fun K34 h34 => ?_
              refine W_reg ?_
              simp [go_sem, ty3, ty36, ty39, ty68, hwk, d1, d2, e2, e2i]
              refine callA (fun hG => pc_impl_Work c.hart (csIns c n) (csGot c n) (by exact u1)) (fun hG => by simp [go_sem, d1, d2, e2, e2i]) rfl rfl ?_
              simp [go_sem, ty3, ty36, hwk, d1, d2, e2, e2i]
              repeat refine tk ?_
              refine h34 _ ?_
              clear h34 K34
              refine W_seqK fun K35 h35 => ?_
              refine W_reg ?_
              simp [go_sem, ty36, ty39, d1, d2, e2, e2i]
              repeat refine tk ?_
              refine h35 _ ?_
              clear h35 K35
              refine W_seqK fun K36 h36 => ?_
              refine W_seqK fun K37 h37 => ?_
              refine W_reg ?_
              simp [go_sem, ty3, ty4, d1, d2, e2, e2i]
              repeat refine tk ?_
              refine h37 _ ?_
              clear h37 K37
              refine W_cond rfl (fun hb38 => ?_) fun hb38 => ?_
              · have hp0 : 0 ≤ (csWork c n).2 := by simpa using hb38
                obtain ⟨ha0, how, hiw⟩ := csWork_put hp0
                obtain ⟨a, r, e3, c1, c2, c3, c4, c5, c6, c7, c8, c9, c10⟩ := page_nat (n := n) ha0 (by omega) kf
                have e3i : (a : Int) < (n.frames.length : Int) := by omega
                have hl := hjv ha0
                rw [c7] at hl
                obtain ⟨l1, l2, l3⟩ := lacks_no hl (kfr a e3)
                have hfa : n.frames[a].list.length ≤ 1048576 := q2 _ (List.getElem_mem e3)
                have e5 : r < n.frames[a].list.length := by omega
                have e5i : (r : Int) < (n.frames[a].list.length : Int) := by omega
                have q := coreStep_done qk hs0 hf0 hjv
                have hcr := csCore_put hp0 c3
                have hpt := csPut_put hp0 c9 e3 c5 c7
                have hfw : fwF n.frames[a] (r : Int) (csWork c n).2 = ⟨n.frames[a].state, n.frames[a].list.set r (csWork c n).2, n.frames[a].asked⟩ := fw_at (kfr a e3) (l3 how) c6 hiw
                clear hb38
                refine W_seqK fun K39 h39 => ?_
                refine W_reg ?_
                simp [go_sem, ty3, ty22, ty40, ty45, ty65, d1, d2, e2, e2i, c1, c2, e3, e3i, c4, e5, e5i]
                repeat refine tk ?_
                refine h39 _ ?_
                clear h39 K39
                refine W_reg ?_
                simp [go_sem, ty3, ty37, ty39, ty74, d1, d2, e2, e2i, c1, c2, e3, e3i, c4, e5, e5i]
                refine callA (fun hG => pc_impl_Purge (csCache c n) (a : Int) (by exact v1) (by exact v2)) (fun hG => by simp [go_sem, d1, d2, e2, e2i, c1, c2, e3, e3i, c4, e5, e5i]) rfl rfl ?_
                simp [go_sem, ty37, ty39, ty74, d1, d2, e2, e2i, c1, c2, e3, e3i, c4, e5, e5i]
                repeat refine tk ?_
                refine h36 _ ?_
                clear h36 K36
                refine W_seqK fun K40 h40 => ?_
                refine W_drawS true (.op 0 (.fork 1 (.op 2 (.op 3 (.op 4 .nil))) 2 (.op 1 (.op 3 (.op 4 .nil))))) mixed (by decide +kernel) rfl ?_
                simp (config := {maxSteps := 10000000}) [go_sem, ty3, ty39, ty45, d1, d2, e2, e2i, c1, c2, e3, e3i, c4, e5, e5i]
                try (apply And.intro)
                all_goals
                  repeat refine tk ?_
                  refine h40 _ ?_
                  clear h40 K40
                  refine W_ret ?_
                  simp [go_sem, ty39, ty45, q, hcr, hpt]
              · have hp0 : ¬ 0 ≤ (csWork c n).2 := by simpa using hb38
                have q := coreStep_done qk hs0 hf0 hjv
                have hcr := csCore_keep hp0
                have hpt := csPut_keep hp0
                clear hb38
                refine W_skip ?_
                repeat refine tk ?_
                refine h36 _ ?_
                clear h36 K36
                refine W_seqK fun K41 h41 => ?_
                refine W_drawS true (.op 0 (.fork 1 (.op 2 (.op 3 (.op 4 .nil))) 2 (.op 1 (.op 3 (.op 4 .nil))))) mixed (by decide +kernel) rfl ?_
                simp (config := {maxSteps := 10000000}) [go_sem, ty3, ty39, ty45, d1, d2, e2, e2i]
                try (apply And.intro)
                all_goals
                  repeat refine tk ?_
                  refine h41 _ ?_
                  clear h41 K41
                  refine W_ret ?_
                  simp [go_sem, ty39, ty45, q, hcr, hpt]
end Go.Tw
