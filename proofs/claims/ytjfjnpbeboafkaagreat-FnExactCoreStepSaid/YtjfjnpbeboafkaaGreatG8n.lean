/- Walks of functions: spec.SenderOk, impl.SenderOk$1, slices.IndexFunc[[]impl.Msg,impl.Msg], slices.ContainsFunc[[]impl.Msg,impl.Msg], impl.SenderOk -/
import Derived.Test.YtjfjnpbeboafkaaGreatG8m
set_option linter.unusedSimpArgs false
set_option linter.unusedVariables false
set_option linter.unnecessarySimpa false
namespace Go.Tw
open Go.Proofs

set_option maxRecDepth 100000 in
set_option maxHeartbeats 4000000 in
theorem pc_spec_SenderOk (s : GSender) (hx : s.queue.length ≤ 1048576) (hs : ∀ a ∈ s.queue, a.small) : PC Tryz.prog 147 [(true, eSender s)] [(false, [.bool (senderOk s)])] := by
  refine PC_of (n := 36) Tryz.func147 rfl rfl rfl rfl (by simp) ?_
  refine W_seqK fun K1 h1 => ?_
  refine W_reg ?_
  simp [go_sem, ty4, ty136]
  repeat refine tk ?_
  refine h1 _ ?_
  clear h1 K1
  refine W_seqK fun K2 h2 => ?_
  refine W_seqK fun K3 h3 => ?_
  refine W_reg ?_
  simp [go_sem, ty3]
  repeat refine tk ?_
  refine h3 _ ?_
  clear h3 K3
  refine W_block ?_
  refine W_loopI (α := Nat) (fun i => ({ env := [(1, true, .l (.ptr 2 0)), (3, true, .l (.t (.int .i64 (i))))], box := [(2, [.t (.int .i64 s.base), .ref 1 [] 4 0 s.queue.length])], row := [(1, ⟨.ro, 4, enc eMsg s.queue⟩)], nxt := 9, sav := [] } : St)) (fun i => i ≤ s.queue.length ∧ ∀ j, (hj : j < s.queue.length) → j < i → msgOk s.queue[j] = true) (fun i => s.queue.length - i) 0 ?_ ?_ ?_
  · exact Sub.of_neat [1, 3] [1] [2] 9 (by decide) (by simp [go_sem])
  · simp
  rintro i hinv
  obtain ⟨hi, hall⟩ := hinv
  refine W_seqK fun K5 h5 => ?_
  refine W_seqK fun K6 h6 => ?_
  refine W_reg ?_
  simp [go_sem, ty3, ty4, ty134, ty136, ty159]
  repeat refine tk ?_
  refine h6 _ ?_
  clear h6 K6
  refine W_cond rfl (fun hb7 => ?_) fun hb7 => ?_
  · have hlt : i < s.queue.length := by simpa using hb7
    have hml : s.queue[i].list.length ≤ 1048576 := by have := hs _ (List.getElem_mem hlt); unfold GMsg.small at this; omega
    clear hb7
    refine W_skip ?_
    repeat refine tk ?_
    refine h5 _ ?_
    clear h5 K5
    refine W_seqK fun K8 h8 => ?_
    refine W_block ?_
    refine W_seqK fun K9 h9 => ?_
    refine W_reg ?_
    simp [go_sem, ty3, ty4, ty134, ty136, ty159, hlt]
    refine callA (fun hG => pc_spec_MsgOk s.queue[i] (by omega)) (fun hG => by simp [go_sem, hlt]) rfl rfl ?_
    simp [go_sem, ty4, hlt]
    repeat refine tk ?_
    refine h9 _ ?_
    clear h9 K9
    refine W_cond rfl (fun hb10 => ?_) fun hb10 => ?_
    · have q : senderOk s = false := senderOk_bad hlt (by simpa [hlt] using hb10)
      refine W_seqK fun K11 h11 => ?_
      refine W_reg ?_
      simp [go_sem, ty4]
      repeat refine tk ?_
      refine h11 _ ?_
      clear h11 K11
      refine W_ret ?_
      simp [go_sem, q]
    · have hok : msgOk s.queue[i] = true := by simpa [hlt] using hb10
      clear hb10
      refine W_skip ?_
      repeat refine tk ?_
      refine h8 _ ?_
      clear h8 K8
      refine W_reg ?_
      simp [go_sem, ty3]
      refine ⟨i + 1, ?_, ?_, ?_⟩
      · exact Sub.of_neat [1, 3] [1] [2] 9 (by decide) (by simp [go_sem, wrap_succ (show i < 9223372036854775807 by omega)])
      · exact ⟨hlt, fun j hj hji => by rcases Nat.lt_succ_iff_lt_or_eq.1 hji with h | rfl; exact hall j hj h; exact hok⟩
      · omega
  · obtain rfl : i = s.queue.length := by simp at hb7; omega
    clear hb7
    have q : senderOk s = sendHd s := senderOk_good fun j hj => hall j hj hj
    refine W_exit ?_
    simp [go_sem]
    repeat refine tk ?_
    refine h2 _ ?_
    clear h5 K5 h2 K2
    refine W_seqK fun K12 h12 => ?_
    refine W_reg ?_
    simp [go_sem, ty3, ty4, ty136]
    refine callA (fun hG => pc_spec_l1In s.base 0 100000) (fun hG => by simp [go_sem]) rfl rfl ?_
    simp [go_sem, ty3, ty4, ty134, ty136, ty159]
    repeat refine tk ?_
    refine h12 _ ?_
    clear h12 K12
    refine W_ret ?_
    simp [go_sem, q, sendHd]
    first | done | grind

set_option maxRecDepth 100000 in
set_option maxHeartbeats 4000000 in
theorem pc_impl_SenderOk_1 (m : GMsg) (hx : m.list.length ≤ 9223372036854775806) : PC Tryz.prog 199 [(true, eMsg m)] [(false, [.bool (!(msgOk m))])] := by
  refine PC_of (n := 6) Tryz.func199 rfl rfl rfl rfl (by simp) ?_
  refine W_seqK fun K1 h1 => ?_
  refine W_reg ?_
  simp [go_sem, ty4, ty159]
  repeat refine tk ?_
  refine h1 _ ?_
  clear h1 K1
  refine W_seqK fun K2 h2 => ?_
  refine W_reg ?_
  simp [go_sem, ty4, ty159]
  refine callA (fun hG => pc_impl_MsgOk m (by omega)) (fun hG => by simp [go_sem]) rfl rfl ?_
  simp [go_sem, ty4]
  repeat refine tk ?_
  refine h2 _ ?_
  clear h2 K2
  refine W_ret ?_
  simp [go_sem]

set_option maxRecDepth 100000 in
set_option maxHeartbeats 4000000 in
theorem q_IndexFunc_Msg {σ : St} {r F : Nat} {bs : List Nat} {caps : List (List T)} {pm : Pm} {xs : List GMsg} {pr : GMsg → Bool} (hrow : get σ.row r = some ⟨pm, 4, enc eMsg xs⟩) (hx : xs.length ≤ 9223372036854775806) (hcap : capsDen σ bs caps) (hfr : σ.row.all (fun x => decide (x.1 < σ.nxt)) = true) (hF : ∀ x ∈ xs, PCb Tryz.prog F [(true, eMsg x)] caps [(false, [.bool (pr x)])]) : Quiet Tryz.prog 206 [.l (.ref r [] 4 0 xs.length), .l (.fn F bs)] (.int .i64 (idxOf pr xs)) σ := by
  intro K hK
  refine CallW_inline (n := 19) Tryz.func206 rfl rfl rfl rfl (by simp) fun a => ?_
  refine W_seqK fun K1 h1 => ?_
  refine W_reg ?_
  simp [go_sem, ty3]
  repeat refine tk ?_
  refine h1 _ ?_
  clear h1 K1
  refine W_seqK fun K2 h2 => ?_
  refine W_seqK fun K3 h3 => ?_
  refine W_reg ?_
  simp [go_sem, ty3, ty134, ty159]
  repeat refine tk ?_
  refine h3 _ ?_
  clear h3 K3
  refine W_block ?_
  refine W_loopI (α := Nat) (fun i => { env := [(0, true, .l (.ref r [] 4 0 xs.length)), (1, true, .l (.fn F bs)), (7, true, .l (.t (.int .i64 xs.length))), (8, true, .l (.t (.int .i64 i)))], box := σ.box, row := σ.row, nxt := σ.nxt, sav := (σ.env, a) :: σ.sav }) (fun i => i ≤ xs.length ∧ ∀ j, (hj : j < xs.length) → j < i → pr xs[j] = false) (fun i => xs.length - i) 0 ?_ ?_ ?_
  · exact Sub.of_to [0, 1, 7, 8] σ.nxt (by decide) (by simp [go_sem])
  · simp
  rintro i hinv
  obtain ⟨hi, hall⟩ := hinv
  refine W_seqK fun K5 h5 => ?_
  refine W_reg ?_
  simp [go_sem, ty3]
  repeat refine tk ?_
  refine h5 _ ?_
  clear h5 K5
  refine W_seqK fun K6 h6 => ?_
  refine W_cond rfl (fun hb7 => ?_) fun hb7 => ?_
  · have hlt : i < xs.length := by simpa using hb7
    clear hb7
    refine W_skip ?_
    repeat refine tk ?_
    refine h6 _ ?_
    clear h6 K6
    refine W_seqK fun K8 h8 => ?_
    refine W_block ?_
    refine W_seqK fun K9 h9 => ?_
    refine W_reg ?_
    simp [go_sem, ty3]
    repeat refine tk ?_
    refine h9 _ ?_
    clear h9 K9
    refine W_seqK fun K10 h10 => ?_
    refine W_reg ?_
    simp [go_sem, ty3, ty4, ty134, ty159, hlt, hrow]
    refine callG_quiet (fun hG => quiet_pcb (vs := [_]) (hF xs[i] (List.getElem_mem hlt)) (by simp [go_sem, hlt, hrow]) (by refine capsDen_same (σ := σ) ?_ ?_ hcap <;> rfl) hfr rfl) (by simp) ?_
    simp [go_sem, hlt, hrow]
    repeat refine tk ?_
    refine h10 _ ?_
    clear h10 K10
    refine W_cond rfl (fun hb11 => ?_) fun hb11 => ?_
    · have hid : idxOf pr xs = i := idxOf_some hall hlt hb11
      refine W_seqK fun K12 h12 => ?_
      refine W_reg ?_
      simp [go_sem, ty3]
      repeat refine tk ?_
      refine h12 _ ?_
      clear h12 K12
      refine W_ret ?_
      rw [hid] at hK
      simp [go_sem]
      exact ⟨_, _, ⟨rfl, rfl⟩, hK⟩
    · have hp : pr xs[i] = false := hb11
      clear hb11
      refine W_skip ?_
      repeat refine tk ?_
      refine h8 _ ?_
      clear h8 K8
      refine W_reg ?_
      simp [go_sem, ty3]
      refine ⟨i + 1, ?_, ?_, ?_⟩
      · exact Sub.of_to [0, 1, 7, 8] σ.nxt (by decide) (by simp [go_sem, wrap_succ (show i < 9223372036854775807 by omega)])
      · exact ⟨hlt, fun j hj hji => by rcases Nat.lt_succ_iff_lt_or_eq.1 hji with h | rfl; exact hall j hj h; exact hp⟩
      · omega
  · obtain rfl : i = xs.length := by simp at hb7; omega
    have hid : idxOf pr xs = -1 := idxOf_none fun j hj => hall j hj hj
    clear hb7
    refine W_exit ?_
    simp [go_sem]
    repeat refine tk ?_
    refine h2 _ ?_
    clear h6 K6 h2 K2
    refine W_seqK fun K13 h13 => ?_
    refine W_reg ?_
    simp [go_sem, ty3]
    repeat refine tk ?_
    refine h13 _ ?_
    clear h13 K13
    refine W_ret ?_
    rw [hid] at hK
    simp [go_sem]
    exact ⟨_, _, ⟨rfl, rfl⟩, hK⟩

set_option maxRecDepth 100000 in
set_option maxHeartbeats 4000000 in
theorem q_ContainsFunc_Msg {σ : St} {r F : Nat} {bs : List Nat} {caps : List (List T)} {pm : Pm} {xs : List GMsg} {pr : GMsg → Bool} (hrow : get σ.row r = some ⟨pm, 4, enc eMsg xs⟩) (hx : xs.length ≤ 9223372036854775806) (hcap : capsDen σ bs caps) (hfr : σ.row.all (fun x => decide (x.1 < σ.nxt)) = true) (hF : ∀ x ∈ xs, PCb Tryz.prog F [(true, eMsg x)] caps [(false, [.bool (pr x)])]) : Quiet Tryz.prog 198 [.l (.ref r [] 4 0 xs.length), .l (.fn F bs)] (.bool (xs.any pr)) σ := by
  intro K hK
  refine CallW_inline (n := 9) Tryz.func198 rfl rfl rfl rfl (by simp) fun a => ?_
  refine W_seqK fun K1 h1 => ?_
  refine W_reg ?_
  simp [go_sem, ty4]
  repeat refine tk ?_
  refine h1 _ ?_
  clear h1 K1
  refine W_seqK fun K2 h2 => ?_
  refine W_reg ?_
  simp [go_sem, ty3, ty134, ty159]
  refine callG_quiet (fun hG => q_IndexFunc_Msg (pr := pr) hrow hx (by refine capsDen_same (σ := σ) ?_ ?_ hcap <;> rfl) hfr hF) (by simp) ?_
  simp [go_sem, ty3, ty4]
  repeat refine tk ?_
  refine h2 _ ?_
  clear h2 K2
  refine W_ret ?_
  rw [← idxOf_any] at hK
  simp [go_sem]
  exact ⟨_, _, ⟨rfl, rfl⟩, hK⟩

set_option maxRecDepth 100000 in
set_option maxHeartbeats 4000000 in
theorem pc_impl_SenderOk (s : GSender) (hx : s.queue.length ≤ 1048576) (hs : ∀ a ∈ s.queue, a.small) : PC Tryz.prog 168 [(true, eSender s)] [(false, [.bool (senderOk s)])] := by
  refine PC_of (n := 27) Tryz.func168 rfl rfl rfl rfl (by simp) ?_
  refine W_seqK fun K1 h1 => ?_
  refine W_reg ?_
  simp [go_sem, ty4, ty136]
  repeat refine tk ?_
  refine h1 _ ?_
  clear h1 K1
  refine W_seqK fun K2 h2 => ?_
  refine W_reg ?_
  simp [go_sem, ty3, ty4, ty136]
  refine callA (fun hG => pc_impl_isSeq s.base) (fun hG => by simp [go_sem]) rfl rfl ?_
  simp [go_sem, ty3, ty4, ty134, ty136, ty159]
  refine callG_quiet (fun hG => q_ContainsFunc_Msg (pr := fun m => !(msgOk m)) (bs := []) (caps := []) rfl (by omega) trivial rfl (fun x hx => PC.toB (pc_impl_SenderOk_1 x (by have := hs _ hx; unfold GMsg.small at this; omega)))) (by first | (simp; done) | (simp [inR_iff]; done) | (simp [inR_iff]; grind) | grind) ?_
  simp [go_sem, ty4]
  repeat refine tk ?_
  refine h2 _ ?_
  clear h2 K2
  refine W_ret ?_
  simp [go_sem, senderOk, sendHd]
  first | done | grind
end Go.Tw
