/- Walks of functions: spec.NodeOk -/
import Derived.Test.YtjfjnpbeboafkaaGreatG8p
import Derived.Test.YtjfjnpbeboafkaaGreatBaseG
set_option linter.unusedSimpArgs false
set_option linter.unusedVariables false
set_option linter.unnecessarySimpa false
namespace Go.Tw
open Go.Proofs

set_option maxRecDepth 100000 in
set_option maxHeartbeats 4000000 in
theorem pc_spec_NodeOk (x : GNode) (n : Int) (hs : x.small) : PC Tryz.prog 75 [(true, eNode x), (false, [.int .i64 n])] [(false, [.bool (nodeOk x n)])] := by
  unfold GNode.small at hs
  refine PC_of (n := 87) Tryz.func75 rfl rfl rfl rfl (by simp) ?_
  refine W_seqK fun K1 h1 => ?_
  refine W_reg ?_
  simp [go_sem, ty4, ty45]
  repeat refine tk ?_
  refine h1 _ ?_
  clear h1 K1
  refine W_seqK fun K2 h2 => ?_
  refine W_seqK fun K3 h3 => ?_
  refine W_reg ?_
  simp (config := {maxSteps := 10000000}) [go_sem, ty3, ty4]
  refine callA (fun hG => pc_spec_l1In n 1 4) (fun hG => by simp [go_sem]) rfl rfl ?_
  simp (config := {maxSteps := 10000000}) [go_sem, ty3, ty4, ty45]
  refine callA (fun hG => pc_spec_l1In x.id 0 (IntKind.wrap .i64 (n - 1))) (fun hG => by simp [go_sem]) rfl rfl ?_
  simp (config := {maxSteps := 10000000}) [go_sem, ty3, ty4, ty40, ty41, ty42, ty43, ty45, ty65, ty132, ty136, ty153]
  repeat refine tk ?_
  refine h3 _ ?_
  clear h3 K3
  refine W_cond rfl (fun hb4 => ?_) fun hb4 => ?_
  · have q : nodeOk x n = false := nodeOk_hd (by unfold nodeHd; simp at hb4 ⊢; grind)
    clear hb4
    refine W_seqK fun K5 h5 => ?_
    refine W_reg ?_
    simp [go_sem, ty4]
    repeat refine tk ?_
    refine h5 _ ?_
    clear h5 K5
    refine W_ret ?_
    simp [go_sem, q]
  · have qh : nodeHd x n = true := by unfold nodeHd; simp at hb4 ⊢; grind
    obtain ⟨qn, ql1, ql2, ql3, ql4⟩ := nodeHd_len qh
    clear hb4
    refine W_skip ?_
    repeat refine tk ?_
    refine h2 _ ?_
    clear h2 K2
    refine W_seqK fun K6 h6 => ?_
    refine W_seqK fun K7 h7 => ?_
    refine W_reg ?_
    simp [go_sem, ty3]
    repeat refine tk ?_
    refine h7 _ ?_
    clear h7 K7
    refine W_block ?_
    refine W_loopI (α := Nat) (fun i => ({ env := [(1, true, .l (.t (.int .i64 (n)))), (2, true, .l (.ptr 6 0)), (5, true, .l (.t (.int .i64 (i))))], box := [(6, [.t (.int .i64 x.id), .ref 1 [] 3 0 x.frames.length, .ref 2 [] 8 0 x.homes.length, .ref 3 [] 2 0 x.out.length, .ref 4 [] 1 0 x.in_.length])], row := [(1, ⟨.ro, 3, enc eFrame x.frames⟩), (2, ⟨.ro, 8, enc eHome x.homes⟩), (3, ⟨.ro, 2, enc eSender x.out⟩), (4, ⟨.ro, 1, enc eReceiver x.in_⟩)], nxt := 20, sav := [] } : St)) (fun i => i ≤ 6 ∧ (∀ j, (hj : j < x.frames.length) → j < i → frameOk x.frames[j] = true) ∧ (∀ j, (hj : j < x.homes.length) → j < i → homeOk x.homes[j] n = true)) (fun i => 6 - i) 0 ?_ ?_ ?_
    · exact Sub.of_neat [1, 2, 5] [1, 2, 3, 4] [6] 20 (by decide) (by simp [go_sem])
    · simp
    rintro i hinv
    obtain ⟨hi, hall, hall2⟩ := hinv
    refine W_seqK fun K9 h9 => ?_
    refine W_seqK fun K10 h10 => ?_
    refine W_reg ?_
    simp [go_sem, ty3, ty4]
    repeat refine tk ?_
    refine h10 _ ?_
    clear h10 K10
    refine W_cond rfl (fun hb11 => ?_) fun hb11 => ?_
    · have hlt : i < 6 := by simp at hb11; omega
      have hl1 : i < x.frames.length := by omega
      have hl2 : i < x.homes.length := by omega
      have hf := hs.2.1 _ (List.getElem_mem hl1)
      have hh := hs.2.2.2.1 _ (List.getElem_mem hl2)
      unfold GFrame.small at hf
      unfold GHome.small at hh
      clear hb11
      refine W_skip ?_
      repeat refine tk ?_
      refine h9 _ ?_
      clear h9 K9
      refine W_seqK fun K12 h12 => ?_
      refine W_block ?_
      refine W_seqK fun K13 h13 => ?_
      refine W_reg ?_
      simp [go_sem, ty3, ty4, ty40, ty45, ty65, hl1, hl2]
      refine callA (fun hG => pc_spec_FrameOk x.frames[i] (by omega)) (fun hG => by simp [go_sem, hl1]) rfl rfl ?_
      simp [go_sem, ty3, ty4, ty41, ty45, ty132, hl1, hl2]
      refine callA (fun hG => pc_spec_HomeOk x.homes[i] n (by omega) (by omega)) (fun hG => by simp [go_sem, hl2]) rfl rfl ?_
      simp [go_sem, ty4, hl1, hl2]
      repeat refine tk ?_
      refine h13 _ ?_
      clear h13 K13
      refine W_cond rfl (fun hb14 => ?_) fun hb14 => ?_
      · have q : nodeOk x n = false := nodeOk_bad1 hl1 hl2 (by simpa [hl1, hl2] using hb14)
        refine W_seqK fun K15 h15 => ?_
        refine W_reg ?_
        simp [go_sem, ty4]
        repeat refine tk ?_
        refine h15 _ ?_
        clear h15 K15
        refine W_ret ?_
        simp [go_sem, q]
      · obtain ⟨hok, hok2⟩ : frameOk x.frames[i] = true ∧ homeOk x.homes[i] n = true := by simpa [hl1, hl2] using hb14
        clear hb14
        refine W_skip ?_
        repeat refine tk ?_
        refine h12 _ ?_
        clear h12 K12
        refine W_reg ?_
        simp [go_sem, ty3]
        refine ⟨i + 1, ?_, ?_, ?_⟩
        · exact Sub.of_neat [1, 2, 5] [1, 2, 3, 4] [6] 20 (by decide) (by simp [go_sem, wrap_succ (show i < 9223372036854775807 by omega)])
        · exact ⟨hlt, fun j hj hji => by rcases Nat.lt_succ_iff_lt_or_eq.1 hji with h | rfl; exact hall j hj h; exact hok, fun j hj hji => by rcases Nat.lt_succ_iff_lt_or_eq.1 hji with h | rfl; exact hall2 j hj h; exact hok2⟩
        · omega
    · have qi : i = 6 := by simp at hb11; omega
      have qf : ∀ j, (hj : j < x.frames.length) → frameOk x.frames[j] = true := fun j hj => hall j hj (by omega)
      have qg : ∀ j, (hj : j < x.homes.length) → homeOk x.homes[j] n = true := fun j hj => hall2 j hj (by omega)
      clear hb11
      refine W_exit ?_
      simp [go_sem]
      repeat refine tk ?_
      refine h6 _ ?_
      clear h9 K9 h6 K6
      refine W_seqK fun K16 h16 => ?_
      refine W_seqK fun K17 h17 => ?_
      refine W_reg ?_
      simp [go_sem, ty3]
      repeat refine tk ?_
      refine h17 _ ?_
      clear h17 K17
      refine W_block ?_
      refine W_loopI (α := Nat) (fun i => ({ env := [(1, true, .l (.t (.int .i64 (n)))), (2, true, .l (.ptr 6 0)), (6, true, .l (.t (.int .i64 (i))))], box := [(6, [.t (.int .i64 x.id), .ref 1 [] 3 0 x.frames.length, .ref 2 [] 8 0 x.homes.length, .ref 3 [] 2 0 x.out.length, .ref 4 [] 1 0 x.in_.length])], row := [(1, ⟨.ro, 3, enc eFrame x.frames⟩), (2, ⟨.ro, 8, enc eHome x.homes⟩), (3, ⟨.ro, 2, enc eSender x.out⟩), (4, ⟨.ro, 1, enc eReceiver x.in_⟩)], nxt := 20, sav := [] } : St)) (fun i => (i : Int) ≤ n ∧ (∀ j, (hj : j < x.out.length) → j < i → senderOk x.out[j] = true) ∧ (∀ j, (hj : j < x.in_.length) → j < i → inR x.in_[j].got 0 100000 = true)) (fun i => (n - i).toNat) 0 ?_ ?_ ?_
      · exact Sub.of_neat [1, 2, 6] [1, 2, 3, 4] [6] 20 (by decide) (by simp [go_sem])
      · exact ⟨by omega, by simp, by simp⟩
      rintro i hinv
      obtain ⟨hi, hall, hall2⟩ := hinv
      refine W_seqK fun K19 h19 => ?_
      refine W_seqK fun K20 h20 => ?_
      refine W_reg ?_
      simp [go_sem, ty3, ty4]
      repeat refine tk ?_
      refine h20 _ ?_
      clear h20 K20
      refine W_cond rfl (fun hb21 => ?_) fun hb21 => ?_
      · have hlt : (i : Int) < n := by simpa using hb21
        have hl1 : i < x.out.length := by omega
        have hl2 : i < x.in_.length := by omega
        have hf := hs.2.2.2.2.2.1 _ (List.getElem_mem hl1)
        unfold GSender.small at hf
        clear hb21
        refine W_skip ?_
        repeat refine tk ?_
        refine h19 _ ?_
        clear h19 K19
        refine W_seqK fun K22 h22 => ?_
        refine W_block ?_
        refine W_seqK fun K23 h23 => ?_
        refine W_reg ?_
        simp [go_sem, ty3, ty4, ty42, ty45, ty136, hl1, hl2]
        refine callA (fun hG => pc_spec_SenderOk x.out[i] hf.1 hf.2) (fun hG => by simp [go_sem, hl1]) rfl rfl ?_
        simp [go_sem, ty3, ty4, ty43, ty45, ty153, hl1, hl2]
        refine callA (fun hG => pc_spec_l1In x.in_[i].got 0 100000) (fun hG => by simp [go_sem]) rfl rfl ?_
        simp [go_sem, ty4, hl1, hl2]
        repeat refine tk ?_
        refine h23 _ ?_
        clear h23 K23
        refine W_cond rfl (fun hb24 => ?_) fun hb24 => ?_
        · have q : nodeOk x n = false := nodeOk_bad2 hl1 hl2 (by simpa [hl1, hl2] using hb24)
          refine W_seqK fun K25 h25 => ?_
          refine W_reg ?_
          simp [go_sem, ty4]
          repeat refine tk ?_
          refine h25 _ ?_
          clear h25 K25
          refine W_ret ?_
          simp [go_sem, q]
        · obtain ⟨hok, hok2⟩ : senderOk x.out[i] = true ∧ inR x.in_[i].got 0 100000 = true := by simpa [hl1, hl2] using hb24
          clear hb24
          refine W_skip ?_
          repeat refine tk ?_
          refine h22 _ ?_
          clear h22 K22
          refine W_reg ?_
          simp [go_sem, ty3]
          refine ⟨i + 1, ?_, ?_, ?_⟩
          · exact Sub.of_neat [1, 2, 6] [1, 2, 3, 4] [6] 20 (by decide) (by simp [go_sem, wrap_succ (show i < 9223372036854775807 by omega)])
          · exact ⟨by omega, fun j hj hji => by rcases Nat.lt_succ_iff_lt_or_eq.1 hji with h | rfl; exact hall j hj h; exact hok, fun j hj hji => (inR_iff _ _ _).1 (by rcases Nat.lt_succ_iff_lt_or_eq.1 hji with h | rfl; exact hall2 j hj h; exact hok2)⟩
          · omega
      · have qi : (i : Int) = n := by simp at hb21; omega
        have q : nodeOk x n = true := nodeOk_good qh qf qg (fun j hj => hall j hj (by omega)) (fun j hj => hall2 j hj (by omega))
        clear hb21
        refine W_exit ?_
        simp [go_sem]
        repeat refine tk ?_
        refine h16 _ ?_
        clear h19 K19 h16 K16
        refine W_seqK fun K26 h26 => ?_
        refine W_reg ?_
        simp [go_sem, ty4]
        repeat refine tk ?_
        refine h26 _ ?_
        clear h26 K26
        refine W_ret ?_
        simp [go_sem, q]
end Go.Tw
