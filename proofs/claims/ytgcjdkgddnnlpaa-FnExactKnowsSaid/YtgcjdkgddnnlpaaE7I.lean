/- Walks of functions: impl.ClockNew, impl.ClockJoin, impl.ClockWithin, slices.IndexFunc[[]impl.Event,impl.Event], slices.ContainsFunc[[]impl.Event,impl.Event], impl.isSwap, impl.Clocks$1 -/
import Derived.Test.YtgcjdkgddnnlpaaE7G
set_option linter.unusedSimpArgs false
set_option linter.unusedVariables false
set_option linter.unnecessarySimpa false
namespace Go.Tw
open Go.Proofs

set_option maxRecDepth 100000 in
set_option maxHeartbeats 4000000 in
theorem pc_impl_ClockNew (n : Int)  : PC Try.prog 82 [(false, [.int .i64 n])] [(false, [.sl 1 (enc eI (clockNew n))])] := by
  refine PC_of (n := 8) Try.func82 rfl rfl rfl rfl (by simp) ?_
  refine W_seqK fun K1 h1 => ?_
  refine W_reg ?_
  simp [go_sem, ty3, ty22]
  repeat refine ⟨by first | omega | grind, ?_⟩
  refine h1 _ ?_
  clear h1 K1
  refine W_seqK fun K2 h2 => ?_
  refine W_seqK fun K3 h3 => ?_
  refine W_reg ?_
  simp [go_sem, ty3, ty4]
  refine callG_pc (fun hG => pc_impl_from n 1 8) (by first | (simp; done) | (simp [inR_iff]; done) | (simp [inR_iff]; grind) | grind) (fun hG => by simp [go_sem]) rfl rfl (by first | exact Or.inl rfl | exact Or.inr rfl) ?_
  simp [go_sem, ty4]
  repeat refine ⟨by first | omega | grind, ?_⟩
  refine h3 _ ?_
  clear h3 K3
  refine W_cond rfl (fun hb4 => ?_) fun hb4 => ?_
  · have q : clockNew n = [] := if_neg (by simp [inR] at hb4; omega)
    clear hb4
    refine W_seqK fun K5 h5 => ?_
    refine W_reg ?_
    simp [go_sem, ty3, ty22]
    repeat refine ⟨by first | omega | grind, ?_⟩
    refine h5 _ ?_
    clear h5 K5
    refine W_ret ?_
    simp [go_sem, q, enc_nil]
  · have qn : 1 ≤ n ∧ n ≤ 8 := by simp [inR] at hb4; omega
    have q : clockNew n = List.replicate n.toNat 0 := if_pos qn
    clear hb4
    refine W_skip ?_
    repeat refine ⟨by first | omega | grind, ?_⟩
    refine h2 _ ?_
    clear h2 K2
    refine W_seqK fun K6 h6 => ?_
    refine W_reg ?_
    simp [go_sem, ty3, ty22]
    refine ⟨by omega, ?_⟩
    repeat refine ⟨by first | omega | grind, ?_⟩
    refine h6 _ ?_
    clear h6 K6
    refine W_ret ?_
    simp [go_sem, q]

set_option maxRecDepth 100000 in
set_option maxHeartbeats 4000000 in
theorem pc_impl_ClockJoin (xs : List Int) (ys : List Int) (hx : xs.length ≤ 1048576) : PC Try.prog 84 [(false, [.sl 1 (enc eI xs)]), (false, [.sl 1 (enc eI ys)])] [(false, [.sl 1 (enc eI (clockJoin xs ys))])] := by
  refine PC_of (n := 34) Try.func84 rfl rfl rfl rfl (by simp) ?_
  refine W_seqK fun K1 h1 => ?_
  refine W_reg ?_
  simp [go_sem, ty3, ty22]
  repeat refine ⟨by first | omega | grind, ?_⟩
  refine h1 _ ?_
  clear h1 K1
  refine W_seqK fun K2 h2 => ?_
  refine W_reg ?_
  simp [go_sem, ty3, ty22]
  refine callG_pc (fun hG => pc_slices_Clone_int_int xs (by omega)) (by first | (simp; done) | (simp [inR_iff]; done) | (simp [inR_iff]; grind) | grind) (fun hG => by simp [go_sem]) rfl rfl (by first | exact Or.inl rfl | exact Or.inr rfl) ?_
  simp [go_sem, ty3, ty22]
  repeat refine ⟨by first | omega | grind, ?_⟩
  refine h2 _ ?_
  clear h2 K2
  refine W_seqK fun K3 h3 => ?_
  refine W_seqK fun K4 h4 => ?_
  refine W_reg ?_
  simp [go_sem, ty3, ty4, ty22]
  repeat refine ⟨by first | omega | grind, ?_⟩
  refine h4 _ ?_
  clear h4 K4
  refine W_cond rfl (fun hb5 => ?_) fun hb5 => ?_
  · have hl : xs.length ≠ ys.length := by simp at hb5; omega
    refine W_seqK fun K6 h6 => ?_
    refine W_reg ?_
    simp [go_sem, ty3, ty22]
    repeat refine ⟨by first | omega | grind, ?_⟩
    refine h6 _ ?_
    clear h6 K6
    refine W_ret ?_
    simp [go_sem, clockJoin, hl]
  · have hl : xs.length = ys.length := by simp at hb5; omega
    clear hb5
    refine W_skip ?_
    repeat refine ⟨by first | omega | grind, ?_⟩
    refine h3 _ ?_
    clear h3 K3
    refine W_seqK fun K7 h7 => ?_
    refine W_seqK fun K8 h8 => ?_
    refine W_reg ?_
    simp [go_sem, ty3, ty22]
    repeat refine ⟨by first | omega | grind, ?_⟩
    refine h8 _ ?_
    clear h8 K8
    refine W_block ?_
    refine W_loopI (α := Nat) (fun i => ({ env := [(0, true, .l (.ref 0 [] 1 0 (xs.length))), (1, true, .l (.ref 1 [] 1 0 (ys.length))), (5, true, .l (.ref 2 [] 1 0 (xs.length))), (16, true, .l (.t (.int .i64 (xs.length)))), (17, true, .l (.t (.int .i64 (i))))], box := [], row := [(2, ⟨.own, 1, enc eI (upto (joinAt xs ys) xs i)⟩), (0, ⟨.ro, 1, enc eI xs⟩), (1, ⟨.ro, 1, enc eI ys⟩)], nxt := 3, sav := [] } : St)) (fun i => i ≤ xs.length) (fun i => xs.length - i) 0 ?_ ?_ ?_
    · exact Sub.of_neat [0, 1, 5, 16, 17] [2, 0, 1] [] 3 (by decide) (by simp [go_sem, upto_zero])
    · exact Nat.zero_le _
    rintro i hinv
    have hu := upto_len (joinAt xs ys) xs i hinv
    refine W_seqK fun K10 h10 => ?_
    refine W_reg ?_
    simp [go_sem, ty3]
    repeat refine ⟨by first | omega | grind, ?_⟩
    refine h10 _ ?_
    clear h10 K10
    refine W_seqK fun K11 h11 => ?_
    refine W_cond rfl (fun hb12 => ?_) fun hb12 => ?_
    · have hlt : i < xs.length := by simpa using hb12
      have hlt2 : i < ys.length := hl ▸ hlt
      have hv : joinAt xs ys i = if xs[i] < ys[i] then ys[i] else xs[i] := by simp [joinAt, hlt, hlt2]; split <;> omega
      clear hb12
      refine W_skip ?_
      repeat refine ⟨by first | omega | grind, ?_⟩
      refine h11 _ ?_
      clear h11 K11
      refine W_seqK fun K13 h13 => ?_
      refine W_block ?_
      refine W_seqK fun K14 h14 => ?_
      refine W_reg ?_
      simp [go_sem, ty3]
      repeat refine ⟨by first | omega | grind, ?_⟩
      refine h14 _ ?_
      clear h14 K14
      refine W_drawT true mixed (by decide +kernel) ?_
      simp [go_sem, ty3, ty22, hlt, hlt2, hu]
      repeat refine ⟨by first | omega | grind, ?_⟩
      refine h13 _ ?_
      clear h13 K13
      refine W_reg ?_
      simp [go_sem, ty3]
      refine ⟨i + 1, ?_, ?_, ?_⟩
      · exact Sub.of_neat [0, 1, 5, 16, 17] [2, 0, 1] [] 3 (by decide) (by simp [go_sem, wrap_succ (show i < 9223372036854775807 by omega), upto_step hlt hv])
      · exact hlt
      · omega
    · obtain rfl : i = xs.length := by simp at hb12; omega
      clear hb12
      have hf := upto_full (joinAt xs ys) xs
      have hc : clockJoin xs ys = (List.range xs.length).map (joinAt xs ys) := if_pos hl
      refine W_exit ?_
      simp [go_sem]
      repeat refine ⟨by first | omega | grind, ?_⟩
      refine h7 _ ?_
      clear h11 K11 h7 K7
      refine W_seqK fun K15 h15 => ?_
      refine W_reg ?_
      simp [go_sem, ty3, ty22]
      repeat refine ⟨by first | omega | grind, ?_⟩
      refine h15 _ ?_
      clear h15 K15
      refine W_ret ?_
      simp [go_sem, hc, hf]

set_option maxRecDepth 100000 in
set_option maxHeartbeats 4000000 in
theorem pc_impl_ClockWithin (xs : List Int) (ys : List Int) (hx : xs.length ≤ 1048576) : PC Try.prog 133 [(false, [.sl 1 (enc eI xs)]), (false, [.sl 1 (enc eI ys)])] [(false, [.bool (clockWithin xs ys)])] := by
  refine PC_of (n := 26) Try.func133 rfl rfl rfl rfl (by simp) ?_
  refine W_seqK fun K1 h1 => ?_
  refine W_reg ?_
  simp [go_sem, ty4]
  repeat refine ⟨by first | omega | grind, ?_⟩
  refine h1 _ ?_
  clear h1 K1
  refine W_seqK fun K2 h2 => ?_
  refine W_seqK fun K3 h3 => ?_
  refine W_reg ?_
  simp [go_sem, ty3, ty4, ty22]
  repeat refine ⟨by first | omega | grind, ?_⟩
  refine h3 _ ?_
  clear h3 K3
  refine W_cond rfl (fun hb4 => ?_) fun hb4 => ?_
  · have q : clockWithin xs ys = false := clockWithin_no (by simp at hb4; omega)
    clear hb4
    refine W_seqK fun K5 h5 => ?_
    refine W_reg ?_
    simp [go_sem, ty4]
    repeat refine ⟨by first | omega | grind, ?_⟩
    refine h5 _ ?_
    clear h5 K5
    refine W_ret ?_
    simp [go_sem, q]
  · have hl : xs.length = ys.length := by simp at hb4; omega
    clear hb4
    refine W_skip ?_
    repeat refine ⟨by first | omega | grind, ?_⟩
    refine h2 _ ?_
    clear h2 K2
    refine W_seqK fun K6 h6 => ?_
    refine W_seqK fun K7 h7 => ?_
    refine W_reg ?_
    simp [go_sem, ty3, ty22]
    repeat refine ⟨by first | omega | grind, ?_⟩
    refine h7 _ ?_
    clear h7 K7
    refine W_block ?_
    refine W_loopI (α := Nat) (fun i => ({ env := [(0, true, .l (.ref 0 [] 1 0 (xs).length)), (1, true, .l (.ref 1 [] 1 0 (ys).length)), (12, true, .l (.t (.int .i64 ((xs.length : Int))))), (13, true, .l (.t (.int .i64 (i))))], box := [], row := [(0, ⟨.ro, 1, enc eI xs⟩), (1, ⟨.ro, 1, enc eI ys⟩)], nxt := 60, sav := [] } : St)) (fun i => i ≤ xs.length ∧ i ≤ ys.length ∧ ∀ j, (h1 : j < xs.length) → (h2 : j < ys.length) → j < i → xs[j] ≤ ys[j]) (fun i => xs.length - i) 0 ?_ ?_ ?_
    · exact Sub.of_neat [0, 1, 12, 13] [0, 1] [] 60 (by decide) (by simp [go_sem])
    · exact ⟨Nat.zero_le _, Nat.zero_le _, fun j _ _ h => absurd h (Nat.not_lt_zero _)⟩
    rintro i hinv
    obtain ⟨hi, hi2, hall⟩ := hinv
    refine W_seqK fun K9 h9 => ?_
    refine W_reg ?_
    simp [go_sem, ty3]
    repeat refine ⟨by first | omega | grind, ?_⟩
    refine h9 _ ?_
    clear h9 K9
    refine W_seqK fun K10 h10 => ?_
    refine W_cond rfl (fun hb11 => ?_) fun hb11 => ?_
    · have hlt : i < xs.length := by simpa using hb11
      have hlt2 : i < ys.length := by omega
      clear hb11
      refine W_skip ?_
      repeat refine ⟨by first | omega | grind, ?_⟩
      refine h10 _ ?_
      clear h10 K10
      refine W_seqK fun K12 h12 => ?_
      refine W_block ?_
      refine W_seqK fun K13 h13 => ?_
      refine W_reg ?_
      simp [go_sem, ty3]
      repeat refine ⟨by first | omega | grind, ?_⟩
      refine h13 _ ?_
      clear h13 K13
      refine W_seqK fun K14 h14 => ?_
      refine W_drawT true mixed (by decide +kernel) ?_
      simp [go_sem, ty3, ty4, ty22, hlt, hlt2]
      repeat refine ⟨by first | omega | grind, ?_⟩
      refine h14 _ ?_
      clear h14 K14
      refine W_cond rfl (fun hb15 => ?_) fun hb15 => ?_
      · have q : clockWithin xs ys = false := clockWithin_at hlt hlt2 (by simpa [hlt, hlt2] using hb15)
        clear hb15
        refine W_seqK fun K16 h16 => ?_
        refine W_reg ?_
        simp [go_sem, ty4]
        repeat refine ⟨by first | omega | grind, ?_⟩
        refine h16 _ ?_
        clear h16 K16
        refine W_ret ?_
        simp [go_sem, q]
      · have hle : xs[i] ≤ ys[i] := by simpa [hlt, hlt2] using hb15
        clear hb15
        refine W_skip ?_
        repeat refine ⟨by first | omega | grind, ?_⟩
        refine h12 _ ?_
        clear h12 K12
        refine W_reg ?_
        simp [go_sem, ty3]
        refine ⟨i + 1, ?_, ?_, ?_⟩
        · exact Sub.of_neat [0, 1, 12, 13] [0, 1] [] 60 (by decide) (by simp [go_sem, wrap_succ (show i < 9223372036854775807 by omega)])
        · refine ⟨hlt, hlt2, fun j h1 h2 hj => ?_⟩
          rcases Nat.lt_succ_iff_lt_or_eq.1 hj with hj | rfl
          · exact hall j h1 h2 hj
          · exact hle
        · omega
    · obtain rfl : i = xs.length := by simp at hb11; omega
      have q : clockWithin xs ys = true := clockWithin_all hl fun j h1 h2 => hall j h1 h2 h1
      clear hb11
      refine W_exit ?_
      simp [go_sem]
      repeat refine ⟨by first | omega | grind, ?_⟩
      refine h6 _ ?_
      clear h10 K10 h6 K6
      refine W_seqK fun K17 h17 => ?_
      refine W_reg ?_
      simp [go_sem, ty4]
      repeat refine ⟨by first | omega | grind, ?_⟩
      refine h17 _ ?_
      clear h17 K17
      refine W_ret ?_
      simp [go_sem, q]

set_option maxRecDepth 100000 in
set_option maxHeartbeats 4000000 in
theorem q_IndexFunc_Event {σ : St} {r F : Nat} {bs : List Nat} {caps : List (List T)} {pm : Pm} {xs : List GEvent} {pr : GEvent → Bool} (hrow : get σ.row r = some ⟨pm, 5, enc eEvent xs⟩) (hx : xs.length ≤ 9223372036854775806) (hcap : capsDen σ bs caps) (hfr : σ.row.all (fun x => decide (x.1 < σ.nxt)) = true) (hF : ∀ x ∈ xs, PCb Try.prog F [(true, eEvent x)] caps [(false, [.bool (pr x)])]) : Quiet Try.prog 135 [.l (.ref r [] 5 0 xs.length), .l (.fn F bs)] (.int .i64 (idxOf pr xs)) σ := by
  intro K hK
  refine CallW_inline (n := 19) Try.func135 rfl rfl rfl rfl (by simp) fun a => ?_
  refine W_seqK fun K1 h1 => ?_
  refine W_reg ?_
  simp [go_sem, ty3]
  repeat refine ⟨by first | omega | grind, ?_⟩
  refine h1 _ ?_
  clear h1 K1
  refine W_seqK fun K2 h2 => ?_
  refine W_seqK fun K3 h3 => ?_
  refine W_reg ?_
  simp [go_sem, ty3, ty41, ty54]
  repeat refine ⟨by first | omega | grind, ?_⟩
  refine h3 _ ?_
  clear h3 K3
  refine W_block ?_
  refine W_loopI (α := Nat) (fun i => { env := [(0, true, .l (.ref r [] 5 0 xs.length)), (1, true, .l (.fn F bs)), (7, true, .l (.t (.int .i64 xs.length))), (8, true, .l (.t (.int .i64 i)))], box := σ.box, row := σ.row, nxt := σ.nxt, sav := (σ.env, a) :: σ.sav }) (fun i => i ≤ xs.length ∧ ∀ j, (hj : j < xs.length) → j < i → pr xs[j] = false) (fun i => xs.length - i) 0 ?_ ?_ ?_
  · exact Sub.of_to [0, 1, 7, 8] σ.nxt (by decide) (by simp [go_sem])
  · simp
  rintro i hinv
  obtain ⟨hi, hall⟩ := hinv
  refine W_seqK fun K5 h5 => ?_
  refine W_reg ?_
  simp [go_sem, ty3]
  repeat refine ⟨by first | omega | grind, ?_⟩
  refine h5 _ ?_
  clear h5 K5
  refine W_seqK fun K6 h6 => ?_
  refine W_cond rfl (fun hb7 => ?_) fun hb7 => ?_
  · have hlt : i < xs.length := by simpa using hb7
    clear hb7
    refine W_skip ?_
    repeat refine ⟨by first | omega | grind, ?_⟩
    refine h6 _ ?_
    clear h6 K6
    refine W_seqK fun K8 h8 => ?_
    refine W_block ?_
    refine W_seqK fun K9 h9 => ?_
    refine W_reg ?_
    simp [go_sem, ty3]
    repeat refine ⟨by first | omega | grind, ?_⟩
    refine h9 _ ?_
    clear h9 K9
    refine W_seqK fun K10 h10 => ?_
    refine W_reg ?_
    simp [go_sem, ty3, ty4, ty41, ty54, hlt, hrow]
    refine callG_quiet (fun hG => quiet_pcb (vs := [_]) (hF xs[i] (List.getElem_mem hlt)) (by simp [go_sem, hlt, hrow]) (by refine capsDen_same (σ := σ) ?_ ?_ hcap <;> rfl) hfr rfl) (by simp) ?_
    simp [go_sem, hlt, hrow]
    repeat refine ⟨by first | omega | grind, ?_⟩
    refine h10 _ ?_
    clear h10 K10
    refine W_cond rfl (fun hb11 => ?_) fun hb11 => ?_
    · have hid : idxOf pr xs = i := idxOf_some hall hlt hb11
      refine W_seqK fun K12 h12 => ?_
      refine W_reg ?_
      simp [go_sem, ty3]
      repeat refine ⟨by first | omega | grind, ?_⟩
      refine h12 _ ?_
      clear h12 K12
      refine W_ret ?_
      rw [hid] at hK
      simp [go_sem]
      exact ⟨_, _, ⟨rfl, rfl⟩, hK⟩
    · have hp : pr xs[i] = false := hb11
      clear hb11
      refine W_skip ?_
      repeat refine ⟨by first | omega | grind, ?_⟩
      refine h8 _ ?_
      clear h8 K8
      refine W_reg ?_
      simp [go_sem, ty3]
      refine ⟨i + 1, ?_, ?_, ?_⟩
      · exact Sub.of_to [0, 1, 7, 8] σ.nxt (by decide) (by simp [go_sem, wrap_succ (show i < 9223372036854775807 by omega)])
      · exact ⟨hlt, fun j hj hji => by rcases Nat.lt_succ_iff_lt_or_eq.1 hji with h | rfl; exact hall j hj h; exact hp⟩
      · omega
  · obtain rfl : i = xs.length := by simp at hb7; omega
    have hid : idxOf pr xs = -1 := idxOf_none fun j hj => hall j hj hj
    clear hb7
    refine W_exit ?_
    simp [go_sem]
    repeat refine ⟨by first | omega | grind, ?_⟩
    refine h2 _ ?_
    clear h6 K6 h2 K2
    refine W_seqK fun K13 h13 => ?_
    refine W_reg ?_
    simp [go_sem, ty3]
    repeat refine ⟨by first | omega | grind, ?_⟩
    refine h13 _ ?_
    clear h13 K13
    refine W_ret ?_
    rw [hid] at hK
    simp [go_sem]
    exact ⟨_, _, ⟨rfl, rfl⟩, hK⟩

set_option maxRecDepth 100000 in
set_option maxHeartbeats 4000000 in
theorem q_ContainsFunc_Event {σ : St} {r F : Nat} {bs : List Nat} {caps : List (List T)} {pm : Pm} {xs : List GEvent} {pr : GEvent → Bool} (hrow : get σ.row r = some ⟨pm, 5, enc eEvent xs⟩) (hx : xs.length ≤ 9223372036854775806) (hcap : capsDen σ bs caps) (hfr : σ.row.all (fun x => decide (x.1 < σ.nxt)) = true) (hF : ∀ x ∈ xs, PCb Try.prog F [(true, eEvent x)] caps [(false, [.bool (pr x)])]) : Quiet Try.prog 80 [.l (.ref r [] 5 0 xs.length), .l (.fn F bs)] (.bool (xs.any pr)) σ := by
  intro K hK
  refine CallW_inline (n := 9) Try.func80 rfl rfl rfl rfl (by simp) fun a => ?_
  refine W_seqK fun K1 h1 => ?_
  refine W_reg ?_
  simp [go_sem, ty4]
  repeat refine ⟨by first | omega | grind, ?_⟩
  refine h1 _ ?_
  clear h1 K1
  refine W_seqK fun K2 h2 => ?_
  refine W_reg ?_
  simp [go_sem, ty3, ty41, ty54]
  refine callG_quiet (fun hG => q_IndexFunc_Event (pr := pr) hrow hx (by refine capsDen_same (σ := σ) ?_ ?_ hcap <;> rfl) hfr hF) (by simp) ?_
  simp [go_sem, ty3, ty4]
  repeat refine ⟨by first | omega | grind, ?_⟩
  refine h2 _ ?_
  clear h2 K2
  refine W_ret ?_
  rw [← idxOf_any] at hK
  simp [go_sem]
  exact ⟨_, _, ⟨rfl, rfl⟩, hK⟩

set_option maxRecDepth 100000 in
set_option maxHeartbeats 4000000 in
theorem pc_impl_isSwap (e : GEvent)  : PC Try.prog 83 [(true, eEvent e)] [(false, [.bool (isSwp e)])] := by
  refine PC_of (n := 11) Try.func83 rfl rfl rfl rfl (by simp) ?_
  refine W_seqK fun K1 h1 => ?_
  refine W_reg ?_
  simp [go_sem, ty4, ty54]
  repeat refine ⟨by first | omega | grind, ?_⟩
  refine h1 _ ?_
  clear h1 K1
  refine W_seqK fun K2 h2 => ?_
  refine W_reg ?_
  simp [go_sem, ty3, ty4, ty54]
  repeat refine ⟨by first | omega | grind, ?_⟩
  refine h2 _ ?_
  clear h2 K2
  refine W_ret ?_
  simp [go_sem, isSwp]

set_option maxRecDepth 100000 in
set_option maxHeartbeats 4000000 in
theorem pcb_impl_Clocks_1 (e : GEvent) (n : Int)  : PCb Try.prog 81 [(true, eEvent e)] [[.int .i64 n]] [(false, [.bool (!(wofN e.who n))])] := by
  refine PCb_of (n := 10) Try.func81 rfl rfl rfl rfl (by simp) ?_
  refine W_seqK fun K1 h1 => ?_
  refine W_reg ?_
  simp [go_sem, ty4, ty54]
  repeat refine ⟨by first | omega | grind, ?_⟩
  refine h1 _ ?_
  clear h1 K1
  refine W_seqK fun K2 h2 => ?_
  refine W_reg ?_
  simp [go_sem, ty3, ty4, ty54]
  refine callG_pc (fun hG => pc_impl_from e.who 0 (IntKind.wrap .i64 (n - 1))) (by first | (simp; done) | (simp [inR_iff]; done) | (simp [inR_iff]; grind) | grind) (fun hG => by simp [go_sem]) rfl rfl (by first | exact Or.inl rfl | exact Or.inr rfl) ?_
  simp [go_sem, ty4]
  repeat refine ⟨by first | omega | grind, ?_⟩
  refine h2 _ ?_
  clear h2 K2
  refine W_ret ?_
  simp [go_sem, wofN]
end Go.Tw
