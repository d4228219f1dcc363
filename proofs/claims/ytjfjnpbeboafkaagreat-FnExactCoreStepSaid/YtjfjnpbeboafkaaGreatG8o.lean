/- Walks of functions: spec.HomeOk -/
import Derived.Test.YtjfjnpbeboafkaaGreatG8n
import Derived.Test.YtjfjnpbeboafkaaGreatBaseG
set_option linter.unusedSimpArgs false
set_option linter.unusedVariables false
set_option linter.unnecessarySimpa false
namespace Go.Tw
open Go.Proofs

set_option maxRecDepth 100000 in
set_option maxHeartbeats 4000000 in
theorem pc_spec_HomeOk (h : GHome) (n : Int) (hx : h.list.length ≤ 1048576) (hy : h.queue.length ≤ 1048576) : PC Tryz.prog 146 [(true, eHome h), (false, [.int .i64 n])] [(false, [.bool (homeOk h n)])] := by
  refine PC_of (n := 69) Tryz.func146 rfl rfl rfl rfl (by simp) ?_
  refine W_seqK fun K1 h1 => ?_
  refine W_reg ?_
  simp [go_sem, ty4, ty132]
  repeat refine tk ?_
  refine h1 _ ?_
  clear h1 K1
  refine W_seqK fun K2 h2 => ?_
  refine W_seqK fun K3 h3 => ?_
  refine W_reg ?_
  simp (config := {maxSteps := 10000000}) [go_sem, ty3, ty4]
  refine callA (fun hG => pc_spec_l1In n 1 4) (fun hG => by simp [go_sem]) rfl rfl ?_
  simp (config := {maxSteps := 10000000}) [go_sem, ty3, ty4, ty22, ty132]
  refine callA (fun hG => pc_spec_l1Words h.list 4 (by omega)) (fun hG => by simp [go_sem]) rfl rfl ?_
  simp (config := {maxSteps := 10000000}) [go_sem, ty3, ty4, ty132]
  refine callA (fun hG => pc_spec_l1In h.owner (-1) (IntKind.wrap .i64 (n - 1))) (fun hG => by simp [go_sem]) rfl rfl ?_
  simp (config := {maxSteps := 10000000}) [go_sem, ty3, ty4, ty113, ty129, ty132]
  refine callA (fun hG => pc_spec_l1In h.now.who 0 (IntKind.wrap .i64 (n - 1))) (fun hG => by simp [go_sem]) rfl rfl ?_
  simp (config := {maxSteps := 10000000}) [go_sem, ty3, ty4, ty132]
  refine callA (fun hG => pc_spec_l1In h.acks 0 n) (fun hG => by simp [go_sem]) rfl rfl ?_
  simp (config := {maxSteps := 10000000}) [go_sem, ty3, ty4, ty129, ty130, ty132]
  repeat refine tk ?_
  refine h3 _ ?_
  clear h3 K3
  refine W_cond rfl (fun hb4 => ?_) fun hb4 => ?_
  · have q : homeOk h n = false := homeOk_hd (by unfold homeHd wofN; simp at hb4 ⊢; grind)
    clear hb4
    refine W_seqK fun K5 h5 => ?_
    refine W_reg ?_
    simp [go_sem, ty4]
    repeat refine tk ?_
    refine h5 _ ?_
    clear h5 K5
    refine W_ret ?_
    simp [go_sem, q]
  · have qh : homeHd h n = true := by unfold homeHd wofN; simp at hb4 ⊢; grind
    clear hb4
    refine W_skip ?_
    repeat refine tk ?_
    refine h2 _ ?_
    clear h2 K2
    refine W_seqK fun K6 h6 => ?_
    refine W_seqK fun K7 h7 => ?_
    refine W_reg ?_
    simp [go_sem, ty3]
    repeat refine tk ?_
    refine h7 _ ?_
    clear h7 K7
    refine W_block ?_
    refine W_loopI (α := Nat) (fun i => ({ env := [(1, true, .l (.t (.int .i64 (n)))), (2, true, .l (.ptr 9 0)), (5, true, .l (.t (.int .i64 (i))))], box := [(9, [.ref 0 [] 1 0 h.list.length, .t (.int .i64 h.owner), .ref 2 [] 1 0 h.readers.length, .t (.bool h.busy), .t (.int .i64 h.now.who), .t (.bool h.now.own), .t (.int .i64 h.acks), .ref 7 [] 2 0 h.queue.length])], row := [(0, ⟨.ro, 1, enc eI h.list⟩), (2, ⟨.ro, 1, enc eB h.readers⟩), (7, ⟨.ro, 2, enc eWait h.queue⟩)], nxt := 20, sav := [] } : St)) (fun i => i ≤ h.queue.length ∧ ∀ j, (hj : j < h.queue.length) → j < i → wofN h.queue[j].who n = true) (fun i => h.queue.length - i) 0 ?_ ?_ ?_
    · exact Sub.of_neat [1, 2, 5] [0, 2, 7] [9] 20 (by decide) (by simp [go_sem])
    · simp
    rintro i hinv
    obtain ⟨hi, hall⟩ := hinv
    refine W_seqK fun K9 h9 => ?_
    refine W_seqK fun K10 h10 => ?_
    refine W_reg ?_
    simp [go_sem, ty3, ty4, ty129, ty130, ty132]
    repeat refine tk ?_
    refine h10 _ ?_
    clear h10 K10
    refine W_cond rfl (fun hb11 => ?_) fun hb11 => ?_
    · have hlt : i < h.queue.length := by simpa using hb11
      clear hb11
      refine W_skip ?_
      repeat refine tk ?_
      refine h9 _ ?_
      clear h9 K9
      refine W_seqK fun K12 h12 => ?_
      refine W_block ?_
      refine W_seqK fun K13 h13 => ?_
      refine W_reg ?_
      simp [go_sem, ty3, ty4, ty129, ty130, ty132, hlt]
      refine callA (fun hG => pc_spec_l1In h.queue[i].who 0 (IntKind.wrap .i64 (n - 1))) (fun hG => by simp [go_sem]) rfl rfl ?_
      simp [go_sem, ty4, hlt]
      repeat refine tk ?_
      refine h13 _ ?_
      clear h13 K13
      refine W_cond rfl (fun hb14 => ?_) fun hb14 => ?_
      · have q : homeOk h n = false := homeOk_bad hlt (by simpa [hlt, wofN] using hb14)
        refine W_seqK fun K15 h15 => ?_
        refine W_reg ?_
        simp [go_sem, ty4]
        repeat refine tk ?_
        refine h15 _ ?_
        clear h15 K15
        refine W_ret ?_
        simp [go_sem, q]
      · have hok : wofN h.queue[i].who n = true := by simpa [hlt, wofN] using hb14
        clear hb14
        refine W_skip ?_
        repeat refine tk ?_
        refine h12 _ ?_
        clear h12 K12
        refine W_reg ?_
        simp [go_sem, ty3]
        refine ⟨i + 1, ?_, ?_, ?_⟩
        · exact Sub.of_neat [1, 2, 5] [0, 2, 7] [9] 20 (by decide) (by simp [go_sem, wrap_succ (show i < 9223372036854775807 by omega)])
        · exact ⟨hlt, fun j hj hji => by rcases Nat.lt_succ_iff_lt_or_eq.1 hji with h | rfl; exact hall j hj h; exact hok⟩
        · omega
    · obtain rfl : i = h.queue.length := by simp at hb11; omega
      have q : homeOk h n = true := homeOk_good qh fun j hj => hall j hj hj
      clear hb11
      refine W_exit ?_
      simp [go_sem]
      repeat refine tk ?_
      refine h6 _ ?_
      clear h9 K9 h6 K6
      refine W_seqK fun K16 h16 => ?_
      refine W_reg ?_
      simp [go_sem, ty4]
      repeat refine tk ?_
      refine h16 _ ?_
      clear h16 K16
      refine W_ret ?_
      simp [go_sem, q]
end Go.Tw
