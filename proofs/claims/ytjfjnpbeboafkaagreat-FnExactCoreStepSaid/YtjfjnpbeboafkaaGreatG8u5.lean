/- Walks of functions: impl.Want -/
import Derived.Test.YtjfjnpbeboafkaaGreatG8u4
import Derived.Test.YtjfjnpbeboafkaaGreatG8u2
import Derived.Test.YtjfjnpbeboafkaaGreatBaseG
set_option linter.unusedSimpArgs false
set_option linter.unusedVariables false
set_option linter.unnecessarySimpa false
namespace Go.Tw
open Go.Proofs

set_option maxRecDepth 100000 in
set_option maxHeartbeats 4000000 in
theorem pc_impl_Want (n : GNode) (nodes : Int) (page : Int) (own : Bool) (hs : n.small) : PC Tryz.prog 44 [(true, eNode n), (false, [.int .i64 nodes]), (false, [.int .i64 page]), (false, [.bool own])] [(true, eNode (want n nodes page own)), (false, [.bool (wantOk n nodes page own)])] := by
  have hs1 := hs
  unfold GNode.small at hs1
  obtain ⟨q1, q2, q3, q4, q5, q6, q7⟩ := hs1
  refine PC_of (n := 76) Tryz.func44 rfl rfl rfl rfl (by simp) ?_
  refine W_seqK fun K1 h1 => ?_
  refine W_reg ?_
  simp [go_sem, ty4, ty45]
  repeat refine tk ?_
  refine h1 _ ?_
  clear h1 K1
  refine W_seqK fun K2 h2 => ?_
  refine W_reg ?_
  simp [go_sem, ty45]
  refine callA (fun hG => pc_impl_copyNode n (by first | assumption | omega)) (fun hG => by simp [go_sem]) rfl rfl ?_
  simp [go_sem, ty45]
  repeat refine tk ?_
  refine h2 _ ?_
  clear h2 K2
  refine W_seqK fun K3 h3 => ?_
  refine W_seqK fun K4 h4 => ?_
  rcases want_split n nodes page with kn | ⟨kn, kp⟩ | ⟨kn, kp, p, d, e1, e2, e3, e4, e5, e6, e7, e8, e9, e10⟩
  · refine W_reg ?_
    have qk := wantOk_no1 (own := own) (page := page) kn
    have q := want_no qk
    simp (config := {maxSteps := 10000000}) [go_sem, ty3, ty4, ty45, kn]
    refine callA (fun hG => pc_impl_NodeOk n nodes (by first | assumption | omega)) (fun hG => by simp [go_sem]) rfl rfl ?_
    simp (config := {maxSteps := 10000000}) [go_sem, ty3, ty4, kn]
    first | refine callG_false (.l (.t (.bool false))) ?_ | refine callA (fun hG => pc_impl_isPage page) (fun hG => by simp [go_sem]) rfl rfl ?_
    simp (config := {maxSteps := 10000000}) [go_sem, ty3, ty4, ty40, ty45, ty65, kn]
    first | refine callG_false (.l (.t (.bool false))) ?_ | refine callA (fun hG => pc_impl_lacks zFrame own) (fun hG => by simp [go_sem, e1, e2, e2i, e3, e3i, e5b, e8]) rfl rfl ?_
    simp (config := {maxSteps := 10000000}) [go_sem, ty4, kn]
    repeat refine tk ?_
    refine h4 _ ?_
    clear h4 K4
    refine W_cond rfl (fun hb5 => ?_) fun hb5 => by simp [go_sem, kn] at hb5
    clear hb5
    refine W_seqK fun K6 h6 => ?_
    refine W_reg ?_
    simp [go_sem, ty4, ty45]
    repeat refine tk ?_
    refine h6 _ ?_
    clear h6 K6
    refine W_ret ?_
    simp [go_sem, ty45, q, qk]
  · refine W_reg ?_
    have qk := wantOk_no2 (n := n) (nodes := nodes) (own := own) kp
    have q := want_no qk
    simp (config := {maxSteps := 10000000}) [go_sem, ty3, ty4, ty45, kn, kp]
    refine callA (fun hG => pc_impl_NodeOk n nodes (by first | assumption | omega)) (fun hG => by simp [go_sem]) rfl rfl ?_
    simp (config := {maxSteps := 10000000}) [go_sem, ty3, ty4, kn, kp]
    first | refine callG_false (.l (.t (.bool false))) ?_ | refine callA (fun hG => pc_impl_isPage page) (fun hG => by simp [go_sem]) rfl rfl ?_
    simp (config := {maxSteps := 10000000}) [go_sem, ty3, ty4, ty40, ty45, ty65, kn, kp]
    first | refine callG_false (.l (.t (.bool false))) ?_ | refine callA (fun hG => pc_impl_lacks zFrame own) (fun hG => by simp [go_sem, e1, e2, e2i, e3, e3i, e5b, e8]) rfl rfl ?_
    simp (config := {maxSteps := 10000000}) [go_sem, ty4, kn, kp]
    repeat refine tk ?_
    refine h4 _ ?_
    clear h4 K4
    refine W_cond rfl (fun hb7 => ?_) fun hb7 => by simp [go_sem, kn, kp] at hb7
    clear hb7
    refine W_seqK fun K8 h8 => ?_
    refine W_reg ?_
    simp [go_sem, ty4, ty45]
    repeat refine tk ?_
    refine h8 _ ?_
    clear h8 K8
    refine W_ret ?_
    simp [go_sem, ty45, q, qk]
  · refine W_reg ?_
    have e5b := e5
    rw [e1] at e5b
    have qat := wantOk_at (own := own) kn kp e10 e2 e4 e3
    obtain ⟨-, -, -, -, kfr, -, -, -⟩ := nodeOk_facts kn
    have e11 := lessB_eq (kfr p e2) own
    have hfs : n.frames[p].list.length ≤ 1048576 := q2 _ (List.getElem_mem e2)
    have hss : n.out[d].small := q6 _ (List.getElem_mem e3)
    have hms : (wantMsg page own).small := by unfold GMsg.small wantMsg; simp
    have e2i : (p : Int) < (n.frames.length : Int) := by omega
    have e3i : (d : Int) < (n.out.length : Int) := by omega
    simp (config := {maxSteps := 10000000}) [go_sem, ty3, ty4, ty45, kn, kp, e11, e1, e2, e2i, e3, e3i, e5b, e8]
    refine callA (fun hG => pc_impl_NodeOk n nodes (by first | assumption | omega)) (fun hG => by simp [go_sem]) rfl rfl ?_
    simp (config := {maxSteps := 10000000}) [go_sem, ty3, ty4, kn, kp, e11, e1, e2, e2i, e3, e3i, e5b, e8]
    first | refine callG_false (.l (.t (.bool false))) ?_ | refine callA (fun hG => pc_impl_isPage page) (fun hG => by simp [go_sem, e1, e2, e2i, e3, e3i, e5b, e8]) rfl rfl ?_
    simp (config := {maxSteps := 10000000}) [go_sem, ty3, ty4, ty40, ty45, ty65, kn, kp, e11, e1, e2, e2i, e3, e3i, e5b, e8]
    first | refine callG_false (.l (.t (.bool false))) ?_ | refine callA (fun hG => pc_impl_lacks n.frames[p] own) (fun hG => by simp [go_sem, e1, e2, e2i, e3, e3i, e5b, e8]) rfl rfl ?_
    simp (config := {maxSteps := 10000000}) [go_sem, ty4, kn, kp, e11, e1, e2, e2i, e3, e3i, e5b, e8]
    repeat refine tk ?_
    refine h4 _ ?_
    clear h4 K4
    refine W_cond rfl (fun hb9 => ?_) fun hb9 => ?_
    · have qk : wantOk n nodes page own = false := by (rw [qat]; simp at hb9 ⊢; grind)
      have q := want_no qk
      rw [e1] at q qk
      clear hb9
      refine W_seqK fun K10 h10 => ?_
      refine W_reg ?_
      simp [go_sem, ty4, ty45]
      repeat refine tk ?_
      refine h10 _ ?_
      clear h10 K10
      refine W_ret ?_
      simp [go_sem, ty45, q, qk, e1]
    · obtain ⟨ka, kl⟩ : n.frames[p].asked = false ∧ lacks n.frames[p] own = true := by (simp at hb9 ⊢; grind)
      clear hb9
      refine W_skip ?_
      repeat refine tk ?_
      refine h3 _ ?_
      clear h3 K3
      refine W_seqK fun K11 h11 => ?_
      refine W_reg ?_
      simp [go_sem, ty3, ty159, fw159, e1, e2, e2i, e3, e3i, e5b, e8]
      repeat refine tk ?_
      refine h11 _ ?_
      clear h11 K11
      refine W_seqK fun K12 h12 => ?_
      refine W_seqK fun K13 h13 => ?_
      refine W_reg ?_
      simp [go_sem, ty4, e1, e2, e2i, e3, e3i, e5b, e8]
      repeat refine tk ?_
      refine h13 _ ?_
      clear h13 K13
      refine W_cond rfl (fun hb14 => ?_) fun hb14 => ?_
      · have ho : own = true := by simpa using hb14
        clear hb14
        refine W_reg ?_
        simp [go_sem, ty3, ty159, e1, e2, e2i, e3, e3i, e5b, e8]
        repeat refine tk ?_
        refine h12 _ ?_
        clear h12 K12
        refine W_seqK fun K15 h15 => ?_
        refine W_reg ?_
        simp [go_sem, ty3, e1, e2, e2i, e3, e3i, e5b, e8]
        repeat refine tk ?_
        refine h15 _ ?_
        clear h15 K15
        refine W_seqK fun K16 h16 => ?_
        refine W_drawS true (.op 0 (.op 1 (.op 2 (.op 3 (.op 4 (.op 5 (.fork 6 (.op 7 (.op 8 (.op 9 (.op 10 (.op 11 (.op 12 .nil)))))) 10 (.op 6 (.op 7 (.op 8 (.op 9 (.op 11 (.op 12 .nil))))))))))))) mixed (by decide +kernel) rfl ?_
        simp (config := {maxSteps := 10000000}) [go_sem, ty3, ty42, ty45, ty136, ty159, e1, e2, e2i, e3, e3i, e5b, e8]
        refine ⟨?_, ?_⟩
        · try simp (config := {maxSteps := 10000000}) [go_sem, ty136, ty159, e1, e2, e2i, e3, e3i, e5b, e8]
          refine callA (fun hG => pc_impl_Queue n.out[d] (wantMsg page own) (by exact hss) (by exact hms)) (fun hG => by simp [go_sem, wantMsg, ho, e1, e2, e2i, e3, e3i, e5b, e8]) rfl rfl ?_
          try simp (config := {maxSteps := 10000000}) [go_sem, ty4, ty136, e1, e2, e2i, e3, e3i, e5b, e8]
          repeat refine tk ?_
          refine h16 _ ?_
          clear h16 K16
          refine W_seqK fun K17 h17 => ?_
          refine W_seqK fun K18 h18 => ?_
          refine W_reg ?_
          simp [go_sem, ty4, e1, e2, e2i, e3, e3i, e5b, e8]
          repeat refine tk ?_
          refine h18 _ ?_
          clear h18 K18
          refine W_cond rfl (fun hb19 => ?_) fun hb19 => ?_
          · have hqb : queueB n.out[d] (wantMsg page own) = false := by simpa [e1] using hb19
            have qk : wantOk n nodes page own = false := by rw [qat, hqb, Bool.and_false]
            have q := want_no qk
            rw [e1] at q qk
            clear hb19
            refine W_seqK fun K20 h20 => ?_
            refine W_reg ?_
            simp [go_sem, ty4, ty45, e1, e2, e2i, e3, e3i, e5b, e8]
            repeat refine tk ?_
            refine h20 _ ?_
            clear h20 K20
            refine W_ret ?_
            simp [go_sem, ty45, q, qk, e1]
          · have hqb : queueB n.out[d] (wantMsg page own) = true := by simpa [e1] using hb19
            have qk : wantOk n nodes page own = true := by rw [qat, hqb, ka, kl]; rfl
            have q := want_yes qk e10 e2 e4 e3
            rw [e1] at q qk
            clear hb19
            refine W_skip ?_
            repeat refine tk ?_
            refine h17 _ ?_
            clear h17 K17
            refine W_seqK fun K21 h21 => ?_
            refine W_reg ?_
            simp [go_sem, ty3, ty42, ty45, ty136, e1, e2, e2i, e3, e3i, e5b, e8]
            repeat refine tk ?_
            refine h21 _ ?_
            clear h21 K21
            refine W_seqK fun K22 h22 => ?_
            refine W_reg ?_
            simp [go_sem, ty3, ty4, ty40, ty45, ty65, e1, e2, e2i, e3, e3i, e5b, e8]
            repeat refine tk ?_
            refine h22 _ ?_
            clear h22 K22
            refine W_seqK fun K23 h23 => ?_
            refine W_reg ?_
            simp [go_sem, ty4, ty45, e1, e2, e2i, e3, e3i, e5b, e8]
            repeat refine tk ?_
            refine h23 _ ?_
            clear h23 K23
            refine W_ret ?_
            simp [go_sem, ty45, q, qk, e1]
        · try simp (config := {maxSteps := 10000000}) [go_sem, ty136, ty159, e1, e2, e2i, e3, e3i, e5b, e8]
          refine callA (fun hG => pc_impl_Queue n.out[d] (wantMsg page own) (by exact hss) (by exact hms)) (fun hG => by simp [go_sem, wantMsg, ho, e1, e2, e2i, e3, e3i, e5b, e8]) rfl rfl ?_
          try simp (config := {maxSteps := 10000000}) [go_sem, ty4, ty136, e1, e2, e2i, e3, e3i, e5b, e8]
          repeat refine tk ?_
          refine h16 _ ?_
          clear h16 K16
          refine W_seqK fun K24 h24 => ?_
          refine W_seqK fun K25 h25 => ?_
          refine W_reg ?_
          simp [go_sem, ty4, e1, e2, e2i, e3, e3i, e5b, e8]
          repeat refine tk ?_
          refine h25 _ ?_
          clear h25 K25
          refine W_cond rfl (fun hb26 => ?_) fun hb26 => ?_
          · have hqb : queueB n.out[d] (wantMsg page own) = false := by simpa [e1] using hb26
            have qk : wantOk n nodes page own = false := by rw [qat, hqb, Bool.and_false]
            have q := want_no qk
            rw [e1] at q qk
            clear hb26
            refine W_seqK fun K27 h27 => ?_
            refine W_reg ?_
            simp [go_sem, ty4, ty45, e1, e2, e2i, e3, e3i, e5b, e8]
            repeat refine tk ?_
            refine h27 _ ?_
            clear h27 K27
            refine W_ret ?_
            simp [go_sem, ty45, q, qk, e1]
          · have hqb : queueB n.out[d] (wantMsg page own) = true := by simpa [e1] using hb26
            have qk : wantOk n nodes page own = true := by rw [qat, hqb, ka, kl]; rfl
            have q := want_yes qk e10 e2 e4 e3
            rw [e1] at q qk
            clear hb26
            refine W_skip ?_
            repeat refine tk ?_
            refine h24 _ ?_
            clear h24 K24
            refine W_seqK fun K28 h28 => ?_
            refine W_reg ?_
            simp [go_sem, ty3, ty42, ty45, ty136, e1, e2, e2i, e3, e3i, e5b, e8]
            repeat refine tk ?_
            refine h28 _ ?_
            clear h28 K28
            refine W_seqK fun K29 h29 => ?_
            refine W_reg ?_
            simp [go_sem, ty3, ty4, ty40, ty45, ty65, e1, e2, e2i, e3, e3i, e5b, e8]
            repeat refine tk ?_
            refine h29 _ ?_
            clear h29 K29
            refine W_seqK fun K30 h30 => ?_
            refine W_reg ?_
            simp [go_sem, ty4, ty45, e1, e2, e2i, e3, e3i, e5b, e8]
            repeat refine tk ?_
            refine h30 _ ?_
            clear h30 K30
            refine W_ret ?_
            simp [go_sem, ty45, q, qk, e1]
      · have ho : own = false := by simpa using hb14
        clear hb14
        refine W_skip ?_
        repeat refine tk ?_
        refine h12 _ ?_
        clear h12 K12
        refine W_seqK fun K31 h31 => ?_
        refine W_reg ?_
        simp [go_sem, ty3, e1, e2, e2i, e3, e3i, e5b, e8]
        repeat refine tk ?_
        refine h31 _ ?_
        clear h31 K31
        refine W_seqK fun K32 h32 => ?_
        refine W_drawS true (.op 0 (.op 1 (.op 2 (.op 3 (.op 4 (.op 5 (.fork 6 (.op 7 (.op 8 (.op 9 (.op 10 (.op 11 (.op 12 .nil)))))) 10 (.op 6 (.op 7 (.op 8 (.op 9 (.op 11 (.op 12 .nil))))))))))))) mixed (by decide +kernel) rfl ?_
        simp (config := {maxSteps := 10000000}) [go_sem, ty3, ty42, ty45, ty136, ty159, e1, e2, e2i, e3, e3i, e5b, e8]
        refine ⟨?_, ?_⟩
        · try simp (config := {maxSteps := 10000000}) [go_sem, ty136, ty159, e1, e2, e2i, e3, e3i, e5b, e8]
          refine callA (fun hG => pc_impl_Queue n.out[d] (wantMsg page own) (by exact hss) (by exact hms)) (fun hG => by simp [go_sem, wantMsg, ho, e1, e2, e2i, e3, e3i, e5b, e8]) rfl rfl ?_
          try simp (config := {maxSteps := 10000000}) [go_sem, ty4, ty136, e1, e2, e2i, e3, e3i, e5b, e8]
          repeat refine tk ?_
          refine h32 _ ?_
          clear h32 K32
          refine W_seqK fun K33 h33 => ?_
          refine W_seqK fun K34 h34 => ?_
          refine W_reg ?_
          simp [go_sem, ty4, e1, e2, e2i, e3, e3i, e5b, e8]
          repeat refine tk ?_
          refine h34 _ ?_
          clear h34 K34
          refine W_cond rfl (fun hb35 => ?_) fun hb35 => ?_
          · have hqb : queueB n.out[d] (wantMsg page own) = false := by simpa [e1] using hb35
            have qk : wantOk n nodes page own = false := by rw [qat, hqb, Bool.and_false]
            have q := want_no qk
            rw [e1] at q qk
            clear hb35
            refine W_seqK fun K36 h36 => ?_
            refine W_reg ?_
            simp [go_sem, ty4, ty45, e1, e2, e2i, e3, e3i, e5b, e8]
            repeat refine tk ?_
            refine h36 _ ?_
            clear h36 K36
            refine W_ret ?_
            simp [go_sem, ty45, q, qk, e1]
          · have hqb : queueB n.out[d] (wantMsg page own) = true := by simpa [e1] using hb35
            have qk : wantOk n nodes page own = true := by rw [qat, hqb, ka, kl]; rfl
            have q := want_yes qk e10 e2 e4 e3
            rw [e1] at q qk
            clear hb35
            refine W_skip ?_
            repeat refine tk ?_
            refine h33 _ ?_
            clear h33 K33
            refine W_seqK fun K37 h37 => ?_
            refine W_reg ?_
            simp [go_sem, ty3, ty42, ty45, ty136, e1, e2, e2i, e3, e3i, e5b, e8]
            repeat refine tk ?_
            refine h37 _ ?_
            clear h37 K37
            refine W_seqK fun K38 h38 => ?_
            refine W_reg ?_
            simp [go_sem, ty3, ty4, ty40, ty45, ty65, e1, e2, e2i, e3, e3i, e5b, e8]
            repeat refine tk ?_
            refine h38 _ ?_
            clear h38 K38
            refine W_seqK fun K39 h39 => ?_
            refine W_reg ?_
            simp [go_sem, ty4, ty45, e1, e2, e2i, e3, e3i, e5b, e8]
            repeat refine tk ?_
            refine h39 _ ?_
            clear h39 K39
            refine W_ret ?_
            simp [go_sem, ty45, q, qk, e1]
        · try simp (config := {maxSteps := 10000000}) [go_sem, ty136, ty159, e1, e2, e2i, e3, e3i, e5b, e8]
          refine callA (fun hG => pc_impl_Queue n.out[d] (wantMsg page own) (by exact hss) (by exact hms)) (fun hG => by simp [go_sem, wantMsg, ho, e1, e2, e2i, e3, e3i, e5b, e8]) rfl rfl ?_
          try simp (config := {maxSteps := 10000000}) [go_sem, ty4, ty136, e1, e2, e2i, e3, e3i, e5b, e8]
          repeat refine tk ?_
          refine h32 _ ?_
          clear h32 K32
          refine W_seqK fun K40 h40 => ?_
          refine W_seqK fun K41 h41 => ?_
          refine W_reg ?_
          simp [go_sem, ty4, e1, e2, e2i, e3, e3i, e5b, e8]
          repeat refine tk ?_
          refine h41 _ ?_
          clear h41 K41
          refine W_cond rfl (fun hb42 => ?_) fun hb42 => ?_
          · have hqb : queueB n.out[d] (wantMsg page own) = false := by simpa [e1] using hb42
            have qk : wantOk n nodes page own = false := by rw [qat, hqb, Bool.and_false]
            have q := want_no qk
            rw [e1] at q qk
            clear hb42
            refine W_seqK fun K43 h43 => ?_
            refine W_reg ?_
            simp [go_sem, ty4, ty45, e1, e2, e2i, e3, e3i, e5b, e8]
            repeat refine tk ?_
            refine h43 _ ?_
            clear h43 K43
            refine W_ret ?_
            simp [go_sem, ty45, q, qk, e1]
          · have hqb : queueB n.out[d] (wantMsg page own) = true := by simpa [e1] using hb42
            have qk : wantOk n nodes page own = true := by rw [qat, hqb, ka, kl]; rfl
            have q := want_yes qk e10 e2 e4 e3
            rw [e1] at q qk
            clear hb42
            refine W_skip ?_
            repeat refine tk ?_
            refine h40 _ ?_
            clear h40 K40
            refine W_seqK fun K44 h44 => ?_
            refine W_reg ?_
            simp [go_sem, ty3, ty42, ty45, ty136, e1, e2, e2i, e3, e3i, e5b, e8]
            repeat refine tk ?_
            refine h44 _ ?_
            clear h44 K44
            refine W_seqK fun K45 h45 => ?_
            refine W_reg ?_
            simp [go_sem, ty3, ty4, ty40, ty45, ty65, e1, e2, e2i, e3, e3i, e5b, e8]
            repeat refine tk ?_
            refine h45 _ ?_
            clear h45 K45
            refine W_seqK fun K46 h46 => ?_
            refine W_reg ?_
            simp [go_sem, ty4, ty45, e1, e2, e2i, e3, e3i, e5b, e8]
            repeat refine tk ?_
            refine h46 _ ?_
            clear h46 K46
            refine W_ret ?_
            simp [go_sem, ty45, q, qk, e1]
end Go.Tw
