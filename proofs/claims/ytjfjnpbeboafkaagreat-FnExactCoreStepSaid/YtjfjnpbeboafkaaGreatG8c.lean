/- Walks of functions: spec.FrameOk, impl.FrameOk, slices.Equal[[]impl.Ins,impl.Ins], spec.l11Same, impl.CacheOk$1, slices.IndexFunc[[]impl.Frame,impl.Frame], slices.ContainsFunc[[]impl.Frame,impl.Frame] -/
import Derived.Test.YtjfjnpbeboafkaaGreatG8b
import Derived.Test.YtjfjnpbeboafkaaGreatBaseG
set_option linter.unusedSimpArgs false
set_option linter.unusedVariables false
set_option linter.unnecessarySimpa false
namespace Go.Tw
open Go.Proofs

set_option maxRecDepth 100000 in
set_option maxHeartbeats 4000000 in
theorem pc_spec_FrameOk (f : GFrame) (hx : f.list.length ≤ 9223372036854775806) : PC Tryz.prog 92 [(true, eFrame f)] [(false, [.bool (frameOk f)])] := by
  refine PC_of (n := 18) Tryz.func92 rfl rfl rfl rfl (by simp) ?_
  refine W_seqK fun K1 h1 => ?_
  refine W_reg ?_
  simp [go_sem, ty4, ty65]
  repeat refine tk ?_
  refine h1 _ ?_
  clear h1 K1
  refine W_seqK fun K2 h2 => ?_
  refine W_seqK fun K3 h3 => ?_
  refine W_reg ?_
  simp [go_sem, ty3, ty4, ty65]
  repeat refine tk ?_
  refine h3 _ ?_
  clear h3 K3
  refine W_cond rfl (fun hb4 => ?_) fun hb4 => ?_
  · have h0 : frameOk f = decide (f.list.length = 0) := frameOk_none (by simpa using hb4)
    refine W_seqK fun K5 h5 => ?_
    refine W_reg ?_
    simp [go_sem, ty3, ty4, ty22, ty65]
    repeat refine tk ?_
    refine h5 _ ?_
    clear h5 K5
    refine W_ret ?_
    simp [go_sem, h0]
    by_cases q : f.list = [] <;> simp [q]
  · have h0 : frameOk f = (inR f.state 0 2 && wordsOk f.list 4) := frameOk_some (by simpa using hb4)
    refine W_skip ?_
    repeat refine tk ?_
    refine h2 _ ?_
    clear h2 K2
    refine W_seqK fun K6 h6 => ?_
    refine W_reg ?_
    simp [go_sem, ty3, ty4, ty65]
    refine callA (fun hG => pc_spec_l1In f.state 0 2) (fun hG => by simp [go_sem]) rfl rfl ?_
    simp [go_sem, ty3, ty4, ty22, ty65]
    refine callA (fun hG => pc_spec_l1Words f.list 4 (by omega)) (fun hG => by simp [go_sem]) rfl rfl ?_
    simp [go_sem, ty4]
    repeat refine tk ?_
    refine h6 _ ?_
    clear h6 K6
    refine W_ret ?_
    simp [go_sem, h0]
    first | done | grind

set_option maxRecDepth 100000 in
set_option maxHeartbeats 4000000 in
theorem pc_impl_FrameOk (f : GFrame) (hx : f.list.length ≤ 9223372036854775806) : PC Tryz.prog 162 [(true, eFrame f)] [(false, [.bool (frameOk f)])] := by
  refine PC_of (n := 23) Tryz.func162 rfl rfl rfl rfl (by simp) ?_
  refine W_seqK fun K1 h1 => ?_
  refine W_reg ?_
  simp [go_sem, ty4, ty65]
  repeat refine tk ?_
  refine h1 _ ?_
  clear h1 K1
  refine W_seqK fun K2 h2 => ?_
  refine W_seqK fun K3 h3 => ?_
  refine W_reg ?_
  simp [go_sem, ty3, ty4, ty65]
  repeat refine tk ?_
  refine h3 _ ?_
  clear h3 K3
  refine W_cond rfl (fun hb4 => ?_) fun hb4 => ?_
  · have h0 : frameOk f = decide (f.list.length = 0) := frameOk_none (by simpa using hb4)
    refine W_seqK fun K5 h5 => ?_
    refine W_reg ?_
    simp [go_sem, ty3, ty4, ty22, ty65]
    repeat refine tk ?_
    refine h5 _ ?_
    clear h5 K5
    refine W_ret ?_
    simp [go_sem, h0]
    by_cases q : f.list = [] <;> simp [q]
  · have h0 : frameOk f = ((decide (f.state = 1) || decide (f.state = 2)) && wordsOk f.list 4) := frameOk_12 (by simpa using hb4)
    refine W_skip ?_
    repeat refine tk ?_
    refine h2 _ ?_
    clear h2 K2
    refine W_seqK fun K6 h6 => ?_
    refine W_reg ?_
    simp [go_sem, ty3, ty4, ty22, ty65]
    refine callA (fun hG => pc_impl_wordsOk f.list 4 (by omega)) (fun hG => by simp [go_sem]) rfl rfl ?_
    simp [go_sem, ty4]
    repeat refine tk ?_
    refine h6 _ ?_
    clear h6 K6
    refine W_ret ?_
    simp [go_sem, h0]
    first | done | grind

set_option maxRecDepth 100000 in
set_option maxHeartbeats 4000000 in
theorem pc_slices_Equal_impl_Ins_impl_Ins (xs : List GIns) (ys : List GIns) (hx : xs.length ≤ 9223372036854775806) : PC Tryz.prog 175 [(false, [.sl 5 (enc eIns xs)]), (false, [.sl 5 (enc eIns ys)])] [(false, [.bool (decide (xs = ys))])] := by
  refine PC_of (n := 26) Tryz.func175 rfl rfl rfl rfl (by simp) ?_
  refine W_seqK fun K1 h1 => ?_
  refine W_reg ?_
  simp [go_sem, ty4]
  repeat refine tk ?_
  refine h1 _ ?_
  clear h1 K1
  refine W_seqK fun K2 h2 => ?_
  refine W_seqK fun K3 h3 => ?_
  refine W_reg ?_
  simp [go_sem, ty3, ty4, ty68, ty72]
  repeat refine tk ?_
  refine h3 _ ?_
  clear h3 K3
  refine W_cond rfl (fun hb4 => ?_) fun hb4 => ?_
  · have hne : xs ≠ ys := ne_of_len (by simp at hb4; omega)
    refine W_seqK fun K5 h5 => ?_
    refine W_reg ?_
    simp [go_sem, ty4]
    repeat refine tk ?_
    refine h5 _ ?_
    clear h5 K5
    refine W_ret ?_
    simp [go_sem, hne]
  · have hl : xs.length = ys.length := by simp at hb4; omega
    clear hb4
    refine W_skip ?_
    repeat refine tk ?_
    refine h2 _ ?_
    clear h2 K2
    refine W_seqK fun K6 h6 => ?_
    refine W_seqK fun K7 h7 => ?_
    refine W_reg ?_
    simp [go_sem, ty3, ty68, ty72]
    repeat refine tk ?_
    refine h7 _ ?_
    clear h7 K7
    refine W_block ?_
    refine W_loopI (α := Nat) (fun i => ({ env := [(0, true, .l (.ref 0 [] 5 0 (xs.length))), (1, true, .l (.ref 1 [] 5 0 (ys.length))), (12, true, .l (.t (.int .i64 (xs.length)))), (13, true, .l (.t (.int .i64 (i))))], box := [], row := [(0, ⟨.ro, 5, enc eIns xs⟩), (1, ⟨.ro, 5, enc eIns ys⟩)], nxt := 2, sav := [] } : St)) (fun i => i ≤ xs.length ∧ xs.take i = ys.take i) (fun i => xs.length - i) 0 ?_ ?_ ?_
    · exact Sub.of_neat [0, 1, 12, 13] [0, 1] [] 2 (by decide) (by simp [go_sem])
    · simp
    rintro i hinv
    obtain ⟨hi, htk⟩ := hinv
    refine W_seqK fun K9 h9 => ?_
    refine W_reg ?_
    simp [go_sem, ty3]
    repeat refine tk ?_
    refine h9 _ ?_
    clear h9 K9
    refine W_seqK fun K10 h10 => ?_
    refine W_cond rfl (fun hb11 => ?_) fun hb11 => ?_
    · have hlt : i < xs.length := by simpa using hb11
      have hlt2 : i < ys.length := hl ▸ hlt
      clear hb11
      refine W_skip ?_
      repeat refine tk ?_
      refine h10 _ ?_
      clear h10 K10
      refine W_seqK fun K12 h12 => ?_
      refine W_block ?_
      refine W_seqK fun K13 h13 => ?_
      refine W_reg ?_
      simp [go_sem, ty3]
      repeat refine tk ?_
      refine h13 _ ?_
      clear h13 K13
      refine W_seqK fun K14 h14 => ?_
      refine W_drawT true mixed (by decide +kernel) ?_
      simp [go_sem, ty3, ty4, ty68, ty72, fk68, hlt, hlt2]
      repeat refine tk ?_
      refine h14 _ ?_
      clear h14 K14
      refine W_cond rfl (fun hb15 => ?_) fun hb15 => ?_
      · have hne : xs ≠ ys := ne_of_get hlt hlt2 (by intro q; rw [q] at hb15; simp at hb15)
        refine W_seqK fun K16 h16 => ?_
        refine W_reg ?_
        simp [go_sem, ty4]
        repeat refine tk ?_
        refine h16 _ ?_
        clear h16 K16
        refine W_ret ?_
        simp [go_sem, hne]
      · have he : xs[i] = ys[i] := by simp at hb15; first | exact hb15 | (ext <;> simp_all)
        clear hb15
        refine W_skip ?_
        repeat refine tk ?_
        refine h12 _ ?_
        clear h12 K12
        refine W_reg ?_
        simp [go_sem, ty3]
        refine ⟨i + 1, ?_, ?_, ?_⟩
        · exact Sub.of_neat [0, 1, 12, 13] [0, 1] [] 2 (by decide) (by simp [go_sem, wrap_succ (show i < 9223372036854775807 by omega)])
        · exact ⟨hlt, take_succ_eq htk hlt hlt2 he⟩
        · omega
    · obtain rfl : i = xs.length := by simp at hb11; omega
      have hxy : xs = ys := eq_of_take hl htk
      clear hb11
      refine W_exit ?_
      simp [go_sem]
      repeat refine tk ?_
      refine h6 _ ?_
      clear h10 K10 h6 K6
      refine W_seqK fun K17 h17 => ?_
      refine W_reg ?_
      simp [go_sem, ty4]
      repeat refine tk ?_
      refine h17 _ ?_
      clear h17 K17
      refine W_ret ?_
      simp [go_sem, hxy]

set_option maxRecDepth 100000 in
set_option maxHeartbeats 4000000 in
theorem pc_spec_l11Same (a : GBlock) (b : GBlock) (hx : a.list.length ≤ 9223372036854775806) : PC Tryz.prog 149 [(true, eBlock a), (true, eBlock b)] [(false, [.bool (decide (a = b))])] := by
  refine PC_of (n := 38) Tryz.func149 rfl rfl rfl rfl (by simp) ?_
  refine W_seqK fun K1 h1 => ?_
  refine W_reg ?_
  simp [go_sem, ty4, ty74]
  repeat refine tk ?_
  refine h1 _ ?_
  clear h1 K1
  refine W_seqK fun K2 h2 => ?_
  refine W_seqK fun K3 h3 => ?_
  refine W_reg ?_
  simp [go_sem, ty3, ty4, ty68, ty72, ty74]
  repeat refine tk ?_
  refine h3 _ ?_
  clear h3 K3
  refine W_cond rfl (fun hb4 => ?_) fun hb4 => ?_
  · have hne : a ≠ b := by intro q; subst q; simp at hb4
    refine W_seqK fun K5 h5 => ?_
    refine W_reg ?_
    simp [go_sem, ty4]
    repeat refine tk ?_
    refine h5 _ ?_
    clear h5 K5
    refine W_ret ?_
    simp [go_sem, hne]
  · obtain ⟨hs, hl⟩ : a.start = b.start ∧ a.list.length = b.list.length := by simp at hb4; omega
    clear hb4
    refine W_skip ?_
    repeat refine tk ?_
    refine h2 _ ?_
    clear h2 K2
    refine W_seqK fun K6 h6 => ?_
    refine W_seqK fun K7 h7 => ?_
    refine W_reg ?_
    simp [go_sem, ty3]
    repeat refine tk ?_
    refine h7 _ ?_
    clear h7 K7
    refine W_block ?_
    refine W_loopI (α := Nat) (fun i => ({ env := [(2, true, .l (.ptr 4 0)), (3, true, .l (.ptr 5 0)), (5, true, .l (.t (.int .i64 (i))))], box := [(5, [.t (.int .i64 b.start), .ref 3 [] 5 0 b.list.length]), (4, [.t (.int .i64 a.start), .ref 1 [] 5 0 a.list.length])], row := [(1, ⟨.ro, 5, enc eIns a.list⟩), (3, ⟨.ro, 5, enc eIns b.list⟩)], nxt := 9, sav := [] } : St)) (fun i => i ≤ a.list.length ∧ a.list.take i = b.list.take i) (fun i => a.list.length - i) 0 ?_ ?_ ?_
    · exact Sub.of_neat [2, 3, 5] [1, 3] [5, 4] 9 (by decide) (by simp [go_sem])
    · simp
    rintro i hinv
    obtain ⟨hi, htk⟩ := hinv
    refine W_seqK fun K9 h9 => ?_
    refine W_seqK fun K10 h10 => ?_
    refine W_reg ?_
    simp [go_sem, ty3, ty4, ty68, ty72, ty74]
    repeat refine tk ?_
    refine h10 _ ?_
    clear h10 K10
    refine W_cond rfl (fun hb11 => ?_) fun hb11 => ?_
    · have hlt : i < a.list.length := by simpa using hb11
      have hlt2 : i < b.list.length := hl ▸ hlt
      clear hb11
      refine W_skip ?_
      repeat refine tk ?_
      refine h9 _ ?_
      clear h9 K9
      refine W_seqK fun K12 h12 => ?_
      refine W_block ?_
      refine W_seqK fun K13 h13 => ?_
      refine W_drawT true mixed (by decide +kernel) ?_
      simp [go_sem, ty3, ty4, ty68, ty72, ty74, fk68, hlt, hlt2]
      repeat refine tk ?_
      refine h13 _ ?_
      clear h13 K13
      refine W_cond rfl (fun hb14 => ?_) fun hb14 => ?_
      · have hne : a ≠ b := by intro q; subst q; simp at hb14
        refine W_seqK fun K15 h15 => ?_
        refine W_reg ?_
        simp [go_sem, ty4]
        repeat refine tk ?_
        refine h15 _ ?_
        clear h15 K15
        refine W_ret ?_
        simp [go_sem, hne]
      · have he : a.list[i] = b.list[i] := by simp at hb14; first | exact hb14 | (ext <;> simp_all)
        clear hb14
        refine W_skip ?_
        repeat refine tk ?_
        refine h12 _ ?_
        clear h12 K12
        refine W_reg ?_
        simp [go_sem, ty3]
        refine ⟨i + 1, ?_, ?_, ?_⟩
        · exact Sub.of_neat [2, 3, 5] [1, 3] [5, 4] 9 (by decide) (by simp [go_sem, wrap_succ (show i < 9223372036854775807 by omega)])
        · exact ⟨hlt, take_succ_eq htk hlt hlt2 he⟩
        · omega
    · obtain rfl : i = a.list.length := by simp at hb11; omega
      have hxy : a = b := GBlock.ext hs (eq_of_take hl htk)
      clear hb11
      refine W_exit ?_
      simp [go_sem]
      repeat refine tk ?_
      refine h6 _ ?_
      clear h9 K9 h6 K6
      refine W_seqK fun K16 h16 => ?_
      refine W_reg ?_
      simp [go_sem, ty4]
      repeat refine tk ?_
      refine h16 _ ?_
      clear h16 K16
      refine W_ret ?_
      simp [go_sem, hxy]

set_option maxRecDepth 100000 in
set_option maxHeartbeats 4000000 in
theorem pc_impl_CacheOk_1 (f : GFrame) (hx : f.list.length ≤ 9223372036854775806) : PC Tryz.prog 174 [(true, eFrame f)] [(false, [.bool (!(frameOk f))])] := by
  refine PC_of (n := 6) Tryz.func174 rfl rfl rfl rfl (by simp) ?_
  refine W_seqK fun K1 h1 => ?_
  refine W_reg ?_
  simp [go_sem, ty4, ty65]
  repeat refine tk ?_
  refine h1 _ ?_
  clear h1 K1
  refine W_seqK fun K2 h2 => ?_
  refine W_reg ?_
  simp [go_sem, ty4, ty65]
  refine callA (fun hG => pc_impl_FrameOk f (by omega)) (fun hG => by simp [go_sem]) rfl rfl ?_
  simp [go_sem, ty4]
  repeat refine tk ?_
  refine h2 _ ?_
  clear h2 K2
  refine W_ret ?_
  simp [go_sem]

set_option maxRecDepth 100000 in
set_option maxHeartbeats 4000000 in
theorem q_IndexFunc_Frame {σ : St} {r F : Nat} {bs : List Nat} {caps : List (List T)} {pm : Pm} {xs : List GFrame} {pr : GFrame → Bool} (hrow : get σ.row r = some ⟨pm, 3, enc eFrame xs⟩) (hx : xs.length ≤ 9223372036854775806) (hcap : capsDen σ bs caps) (hfr : σ.row.all (fun x => decide (x.1 < σ.nxt)) = true) (hF : ∀ x ∈ xs, PCb Tryz.prog F [(true, eFrame x)] caps [(false, [.bool (pr x)])]) : Quiet Tryz.prog 193 [.l (.ref r [] 3 0 xs.length), .l (.fn F bs)] (.int .i64 (idxOf pr xs)) σ := by
  intro K hK
  refine CallW_inline (n := 19) Tryz.func193 rfl rfl rfl rfl (by simp) fun a => ?_
  refine W_seqK fun K1 h1 => ?_
  refine W_reg ?_
  simp [go_sem, ty3]
  repeat refine tk ?_
  refine h1 _ ?_
  clear h1 K1
  refine W_seqK fun K2 h2 => ?_
  refine W_seqK fun K3 h3 => ?_
  refine W_reg ?_
  simp [go_sem, ty3, ty40, ty65]
  repeat refine tk ?_
  refine h3 _ ?_
  clear h3 K3
  refine W_block ?_
  refine W_loopI (α := Nat) (fun i => { env := [(0, true, .l (.ref r [] 3 0 xs.length)), (1, true, .l (.fn F bs)), (7, true, .l (.t (.int .i64 xs.length))), (8, true, .l (.t (.int .i64 i)))], box := σ.box, row := σ.row, nxt := σ.nxt, sav := (σ.env, a) :: σ.sav }) (fun i => i ≤ xs.length ∧ ∀ j, (hj : j < xs.length) → j < i → pr xs[j] = false) (fun i => xs.length - i) 0 ?_ ?_ ?_
  · exact Sub.of_to [0, 1, 7, 8] σ.nxt (by decide) (by simp [go_sem])
  · simp
  rintro i hinv
  obtain ⟨hi, hall⟩ := hinv
  refine W_seqK fun K5 h5 => ?_
  refine W_reg ?_
  simp [go_sem, ty3]
  repeat refine tk ?_
  refine h5 _ ?_
  clear h5 K5
  refine W_seqK fun K6 h6 => ?_
  refine W_cond rfl (fun hb7 => ?_) fun hb7 => ?_
  · have hlt : i < xs.length := by simpa using hb7
    clear hb7
    refine W_skip ?_
    repeat refine tk ?_
    refine h6 _ ?_
    clear h6 K6
    refine W_seqK fun K8 h8 => ?_
    refine W_block ?_
    refine W_seqK fun K9 h9 => ?_
    refine W_reg ?_
    simp [go_sem, ty3]
    repeat refine tk ?_
    refine h9 _ ?_
    clear h9 K9
    refine W_seqK fun K10 h10 => ?_
    refine W_reg ?_
    simp [go_sem, ty3, ty4, ty40, ty65, hlt, hrow]
    refine callG_quiet (fun hG => quiet_pcb (vs := [_]) (hF xs[i] (List.getElem_mem hlt)) (by simp [go_sem, hlt, hrow]) (by refine capsDen_same (σ := σ) ?_ ?_ hcap <;> rfl) hfr rfl) (by simp) ?_
    simp [go_sem, hlt, hrow]
    repeat refine tk ?_
    refine h10 _ ?_
    clear h10 K10
    refine W_cond rfl (fun hb11 => ?_) fun hb11 => ?_
    · have hid : idxOf pr xs = i := idxOf_some hall hlt hb11
      refine W_seqK fun K12 h12 => ?_
      refine W_reg ?_
      simp [go_sem, ty3]
      repeat refine tk ?_
      refine h12 _ ?_
      clear h12 K12
      refine W_ret ?_
      rw [hid] at hK
      simp [go_sem]
      exact ⟨_, _, ⟨rfl, rfl⟩, hK⟩
    · have hp : pr xs[i] = false := hb11
      clear hb11
      refine W_skip ?_
      repeat refine tk ?_
      refine h8 _ ?_
      clear h8 K8
      refine W_reg ?_
      simp [go_sem, ty3]
      refine ⟨i + 1, ?_, ?_, ?_⟩
      · exact Sub.of_to [0, 1, 7, 8] σ.nxt (by decide) (by simp [go_sem, wrap_succ (show i < 9223372036854775807 by omega)])
      · exact ⟨hlt, fun j hj hji => by rcases Nat.lt_succ_iff_lt_or_eq.1 hji with h | rfl; exact hall j hj h; exact hp⟩
      · omega
  · obtain rfl : i = xs.length := by simp at hb7; omega
    have hid : idxOf pr xs = -1 := idxOf_none fun j hj => hall j hj hj
    clear hb7
    refine W_exit ?_
    simp [go_sem]
    repeat refine tk ?_
    refine h2 _ ?_
    clear h6 K6 h2 K2
    refine W_seqK fun K13 h13 => ?_
    refine W_reg ?_
    simp [go_sem, ty3]
    repeat refine tk ?_
    refine h13 _ ?_
    clear h13 K13
    refine W_ret ?_
    rw [hid] at hK
    simp [go_sem]
    exact ⟨_, _, ⟨rfl, rfl⟩, hK⟩

set_option maxRecDepth 100000 in
set_option maxHeartbeats 4000000 in
theorem q_ContainsFunc_Frame {σ : St} {r F : Nat} {bs : List Nat} {caps : List (List T)} {pm : Pm} {xs : List GFrame} {pr : GFrame → Bool} (hrow : get σ.row r = some ⟨pm, 3, enc eFrame xs⟩) (hx : xs.length ≤ 9223372036854775806) (hcap : capsDen σ bs caps) (hfr : σ.row.all (fun x => decide (x.1 < σ.nxt)) = true) (hF : ∀ x ∈ xs, PCb Tryz.prog F [(true, eFrame x)] caps [(false, [.bool (pr x)])]) : Quiet Tryz.prog 160 [.l (.ref r [] 3 0 xs.length), .l (.fn F bs)] (.bool (xs.any pr)) σ := by
  intro K hK
  refine CallW_inline (n := 9) Tryz.func160 rfl rfl rfl rfl (by simp) fun a => ?_
  refine W_seqK fun K1 h1 => ?_
  refine W_reg ?_
  simp [go_sem, ty4]
  repeat refine tk ?_
  refine h1 _ ?_
  clear h1 K1
  refine W_seqK fun K2 h2 => ?_
  refine W_reg ?_
  simp [go_sem, ty3, ty40, ty65]
  refine callG_quiet (fun hG => q_IndexFunc_Frame (pr := pr) hrow hx (by refine capsDen_same (σ := σ) ?_ ?_ hcap <;> rfl) hfr hF) (by simp) ?_
  simp [go_sem, ty3, ty4]
  repeat refine tk ?_
  refine h2 _ ?_
  clear h2 K2
  refine W_ret ?_
  rw [← idxOf_any] at hK
  simp [go_sem]
  exact ⟨_, _, ⟨rfl, rfl⟩, hK⟩
end Go.Tw
