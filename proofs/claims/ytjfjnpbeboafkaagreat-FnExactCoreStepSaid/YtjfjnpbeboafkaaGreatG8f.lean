/- Walks of functions: impl.At, spec.At, impl.CacheFind, spec.CacheFind, slices.IndexFunc[[]impl.Block,impl.Block], impl.Purge$1, impl.Purge, spec.Purge -/
import Derived.Test.YtjfjnpbeboafkaaGreatG8k
import Derived.Test.YtjfjnpbeboafkaaGreatBaseG
set_option linter.unusedSimpArgs false
set_option linter.unusedVariables false
set_option linter.unnecessarySimpa false
namespace Go.Tw
open Go.Proofs

set_option maxRecDepth 100000 in
set_option maxHeartbeats 4000000 in
theorem pc_impl_At (b : GBlock) (pc : Int) (hx : b.list.length ≤ 1048576) : PC Tryz.prog 112 [(true, eBlock b), (false, [.int .i64 pc])] [(true, eIns (atI b pc)), (false, [.bool (inBlk b pc)])] := by
  have hws : blockOk b = true → IntKind.wrap .i64 (IntKind.wrap .i64 (b.start + b.list.length) - 1) = b.start + b.list.length - 1 := fun h => by have hd := blockHd_of h; rw [wrap_ok (n := b.start + b.list.length) (by omega) (by omega)]; exact wrap_ok (by omega) (by omega)
  refine PC_of (n := 32) Tryz.func112 rfl rfl rfl rfl (by simp) ?_
  refine W_seqK fun K1 h1 => ?_
  refine W_reg ?_
  simp [go_sem, ty4, ty68, ty74]
  repeat refine tk ?_
  refine h1 _ ?_
  clear h1 K1
  refine W_seqK fun K2 h2 => ?_
  refine W_seqK fun K3 h3 => ?_
  refine W_reg ?_
  simp [go_sem, ty4, ty74]
  refine callA (fun hG => pc_impl_BlockOk b (by omega)) (fun hG => by simp [go_sem]) rfl rfl ?_
  simp [go_sem, ty3, ty4, ty68, ty72, ty74]
  refine callA (fun hG => pc_impl_from pc b.start (IntKind.wrap .i64 ((IntKind.wrap .i64 (b.start + (b.list.length : Int))) - 1))) (fun hG => by simp [go_sem]) rfl rfl ?_
  simp [go_sem, ty4]
  repeat refine tk ?_
  refine h3 _ ?_
  clear h3 K3
  refine W_cond rfl (fun hb4 => ?_) fun hb4 => ?_
  · have q : inBlk b pc = false := by unfold inBlk; cases hb : blockOk b with | false => rfl | true => (simp [hb, hws hb, inR] at hb4 ⊢; omega)
    have q2 : atI b pc = zIns := if_neg (by simp [q])
    clear hb4
    refine W_seqK fun K5 h5 => ?_
    refine W_reg ?_
    simp [go_sem, ty4, ty68, fw68]
    repeat refine tk ?_
    refine h5 _ ?_
    clear h5 K5
    refine W_ret ?_
    simp [go_sem, ty68, q, q2, zIns]
  · obtain ⟨qo, qa, qb⟩ : blockOk b = true ∧ b.start ≤ pc ∧ pc < b.start + b.list.length := by simp [inR] at hb4; have hb := hb4.1; rw [hws hb] at hb4; exact ⟨hb, by omega, by omega⟩
    have q : inBlk b pc = true := by unfold inBlk; simp [qo, qa, qb]
    have hd := blockHd_of qo
    have hwp : IntKind.wrap .i64 (pc - b.start) = pc - b.start := wrap_ok (by omega) (by omega)
    have hp0 : 0 ≤ pc - b.start := by omega
    have hp1 : pc - b.start < b.list.length := by omega
    have hp2 : (pc - b.start).toNat < b.list.length := by omega
    have q2 : atI b pc = b.list[(pc - b.start).toNat] := by unfold atI; rw [if_pos q, List.getD_eq_getElem?_getD, List.getElem?_eq_getElem hp2]; rfl
    clear hb4
    refine W_skip ?_
    repeat refine tk ?_
    refine h2 _ ?_
    clear h2 K2
    refine W_seqK fun K6 h6 => ?_
    refine W_reg ?_
    simp [go_sem, ty3, ty4, ty68, ty72, ty74, hwp, hp0, hp1, hp2]
    repeat refine tk ?_
    refine h6 _ ?_
    clear h6 K6
    refine W_ret ?_
    simp [go_sem, ty68, q, q2]

set_option maxRecDepth 100000 in
set_option maxHeartbeats 4000000 in
theorem pc_spec_At (b : GBlock) (pc : Int) (hx : b.list.length ≤ 1048576) : PC Tryz.prog 84 [(true, eBlock b), (false, [.int .i64 pc])] [(true, eIns (atI b pc)), (false, [.bool (inBlk b pc)])] := by
  have hws : blockOk b = true → IntKind.wrap .i64 (b.start + b.list.length) = b.start + b.list.length := fun h => by have hd := blockHd_of h; exact wrap_ok (by omega) (by omega)
  refine PC_of (n := 34) Tryz.func84 rfl rfl rfl rfl (by simp) ?_
  refine W_seqK fun K1 h1 => ?_
  refine W_reg ?_
  simp [go_sem, ty4, ty68, ty74]
  repeat refine tk ?_
  refine h1 _ ?_
  clear h1 K1
  refine W_seqK fun K2 h2 => ?_
  refine W_seqK fun K3 h3 => ?_
  refine W_reg ?_
  simp [go_sem, ty4, ty74]
  refine callA (fun hG => pc_spec_BlockOk b (by omega)) (fun hG => by simp [go_sem]) rfl rfl ?_
  simp [go_sem, ty3, ty4, ty68, ty72, ty74]
  repeat refine tk ?_
  refine h3 _ ?_
  clear h3 K3
  refine W_cond rfl (fun hb4 => ?_) fun hb4 => ?_
  · have q : inBlk b pc = false := by unfold inBlk; cases hb : blockOk b with | false => rfl | true => (simp [hb, hws hb] at hb4 ⊢; omega)
    have q2 : atI b pc = zIns := if_neg (by simp [q])
    clear hb4
    refine W_seqK fun K5 h5 => ?_
    refine W_reg ?_
    simp [go_sem, ty4, ty68, fw68]
    repeat refine tk ?_
    refine h5 _ ?_
    clear h5 K5
    refine W_ret ?_
    simp [go_sem, ty68, q, q2, zIns]
  · obtain ⟨qo, qa, qb⟩ : blockOk b = true ∧ b.start ≤ pc ∧ pc < b.start + b.list.length := by simp at hb4; have hb := hb4.1.1; rw [hws hb] at hb4; exact ⟨hb, by omega, by omega⟩
    have q : inBlk b pc = true := by unfold inBlk; simp [qo, qa, qb]
    have hd := blockHd_of qo
    have hwp : IntKind.wrap .i64 (pc - b.start) = pc - b.start := wrap_ok (by omega) (by omega)
    have hp0 : 0 ≤ pc - b.start := by omega
    have hp1 : pc - b.start < b.list.length := by omega
    have hp2 : (pc - b.start).toNat < b.list.length := by omega
    have q2 : atI b pc = b.list[(pc - b.start).toNat] := by unfold atI; rw [if_pos q, List.getD_eq_getElem?_getD, List.getElem?_eq_getElem hp2]; rfl
    clear hb4
    refine W_skip ?_
    repeat refine tk ?_
    refine h2 _ ?_
    clear h2 K2
    refine W_seqK fun K6 h6 => ?_
    refine W_reg ?_
    simp [go_sem, ty3, ty4, ty68, ty72, ty74, hwp, hp0, hp1, hp2]
    repeat refine tk ?_
    refine h6 _ ?_
    clear h6 K6
    refine W_ret ?_
    simp [go_sem, ty68, q, q2]

set_option maxRecDepth 100000 in
set_option maxHeartbeats 4000000 in
theorem pc_impl_CacheFind (xs : List GBlock) (pc : Int) (hx : xs.length ≤ 1048576) (hq : ∀ a ∈ xs, a.small) : PC Tryz.prog 45 [(false, [.sl 2 (enc eBlock xs)]), (false, [.int .i64 pc])] [(true, eIns (cfI xs pc)), (false, [.bool (cfB xs pc)])] := by
  refine PC_of (n := 26) Tryz.func45 rfl rfl rfl rfl (by simp) ?_
  refine W_seqK fun K1 h1 => ?_
  refine W_reg ?_
  simp [go_sem, ty4, ty68]
  repeat refine tk ?_
  refine h1 _ ?_
  clear h1 K1
  refine W_seqK fun K2 h2 => ?_
  refine W_seqK fun K3 h3 => ?_
  refine W_reg ?_
  simp [go_sem, ty3, ty37, ty74]
  repeat refine tk ?_
  refine h3 _ ?_
  clear h3 K3
  refine W_block ?_
  refine W_loopI (α := Nat) (fun i => ({ env := [(1, true, .l (.t (.int .i64 (pc)))), (4, true, .l (.ptr 2 0)), (10, true, .l (.ref 0 [] 2 0 (xs).length)), (11, true, .l (.t (.int .i64 ((xs.length : Int))))), (12, true, .l (.t (.int .i64 (i))))], box := [(2, [.t (.int .i64 0), .t (.int .i64 0), .t (.int .i64 0), .t (.int .i64 0), .t (.int .i64 0)])], row := [(0, ⟨.ro, 2, enc eBlock xs⟩)], nxt := 60, sav := [] } : St)) (fun i => i ≤ xs.length ∧ ∀ j, (hj : j < xs.length) → j < i → inBlk xs[j] pc = false) (fun i => xs.length - i) 0 ?_ ?_ ?_
  · exact Sub.of_neat [1, 4, 10, 11, 12] [0] [2] 60 (by decide) (by simp [go_sem])
  · exact ⟨Nat.zero_le _, fun j _ h => absurd h (Nat.not_lt_zero _)⟩
  rintro i hinv
  obtain ⟨hi, hall⟩ := hinv
  refine W_seqK fun K5 h5 => ?_
  refine W_reg ?_
  simp [go_sem, ty3]
  repeat refine tk ?_
  refine h5 _ ?_
  clear h5 K5
  refine W_seqK fun K6 h6 => ?_
  refine W_cond rfl (fun hb7 => ?_) fun hb7 => ?_
  · have hlt : i < xs.length := by simpa using hb7
    have hsm := hq _ (List.getElem_mem hlt)
    have hsm2 : xs[i].list.length ≤ 1048576 := by unfold GBlock.small at hsm; exact hsm
    clear hb7
    refine W_skip ?_
    repeat refine tk ?_
    refine h6 _ ?_
    clear h6 K6
    refine W_seqK fun K8 h8 => ?_
    refine W_block ?_
    refine W_seqK fun K9 h9 => ?_
    refine W_reg ?_
    simp [go_sem, ty37, ty74, hlt]
    repeat refine tk ?_
    refine h9 _ ?_
    clear h9 K9
    refine W_seqK fun K10 h10 => ?_
    refine W_reg ?_
    simp [go_sem, ty3, ty74, hlt]
    refine callA (fun hG => pc_impl_At xs[i] pc (by omega)) (fun hG => by simp [go_sem, hlt]) rfl rfl ?_
    simp [go_sem, ty4, ty68, hlt]
    repeat refine tk ?_
    refine h10 _ ?_
    clear h10 K10
    refine W_seqK fun K11 h11 => ?_
    refine W_reg ?_
    simp [go_sem, ty4]
    repeat refine tk ?_
    refine h11 _ ?_
    clear h11 K11
    refine W_cond rfl (fun hb12 => ?_) fun hb12 => ?_
    · obtain ⟨q1, q2⟩ := cf_at hlt hall (show inBlk xs[i] pc = true from hb12)
      clear hb12
      refine W_seqK fun K13 h13 => ?_
      refine W_reg ?_
      simp [go_sem, ty4, ty68]
      repeat refine tk ?_
      refine h13 _ ?_
      clear h13 K13
      refine W_ret ?_
      simp [go_sem, ty68, q1, q2]
    · have hn : inBlk xs[i] pc = false := hb12
      clear hb12
      refine W_skip ?_
      repeat refine tk ?_
      refine h8 _ ?_
      clear h8 K8
      refine W_reg ?_
      simp [go_sem, ty3]
      refine ⟨i + 1, ?_, ?_, ?_⟩
      · exact Sub.of_neat [1, 4, 10, 11, 12] [0] [2] 60 (by decide) (by simp [go_sem, wrap_succ (show i < 9223372036854775807 by omega)])
      · exact ⟨hlt, fun j hj hji => by rcases Nat.lt_succ_iff_lt_or_eq.1 hji with h | rfl; exact hall j hj h; exact hn⟩
      · omega
  · obtain rfl : i = xs.length := by simp at hb7; omega
    obtain ⟨q1, q2⟩ := cf_none (pc := pc) fun j hj => hall j hj hj
    clear hb7
    refine W_exit ?_
    simp [go_sem]
    repeat refine tk ?_
    refine h2 _ ?_
    clear h6 K6 h2 K2
    refine W_seqK fun K14 h14 => ?_
    refine W_reg ?_
    simp [go_sem, ty4, ty68, fw68]
    repeat refine tk ?_
    refine h14 _ ?_
    clear h14 K14
    refine W_ret ?_
    simp [go_sem, ty68, q1, q2, zIns]

set_option maxRecDepth 100000 in
set_option maxHeartbeats 4000000 in
theorem pc_spec_CacheFind (xs : List GBlock) (pc : Int) (hx : xs.length ≤ 1048576) (hq : ∀ a ∈ xs, a.small) : PC Tryz.prog 26 [(false, [.sl 2 (enc eBlock xs)]), (false, [.int .i64 pc])] [(true, eIns (cfI xs pc)), (false, [.bool (cfB xs pc)])] := by
  refine PC_of (n := 27) Tryz.func26 rfl rfl rfl rfl (by simp) ?_
  refine W_seqK fun K1 h1 => ?_
  refine W_reg ?_
  simp [go_sem, ty4, ty68]
  repeat refine tk ?_
  refine h1 _ ?_
  clear h1 K1
  refine W_seqK fun K2 h2 => ?_
  refine W_seqK fun K3 h3 => ?_
  refine W_reg ?_
  simp [go_sem, ty3]
  repeat refine tk ?_
  refine h3 _ ?_
  clear h3 K3
  refine W_block ?_
  refine W_loopI (α := Nat) (fun i => ({ env := [(0, true, .l (.ref 0 [] 2 0 (xs).length)), (1, true, .l (.t (.int .i64 (pc)))), (4, true, .l (.ptr 2 0)), (6, true, .l (.t (.int .i64 (i))))], box := [(2, [.t (.int .i64 0), .t (.int .i64 0), .t (.int .i64 0), .t (.int .i64 0), .t (.int .i64 0)])], row := [(0, ⟨.ro, 2, enc eBlock xs⟩)], nxt := 60, sav := [] } : St)) (fun i => i ≤ xs.length ∧ ∀ j, (hj : j < xs.length) → j < i → inBlk xs[j] pc = false) (fun i => xs.length - i) 0 ?_ ?_ ?_
  · exact Sub.of_neat [0, 1, 4, 6] [0] [2] 60 (by decide) (by simp [go_sem])
  · exact ⟨Nat.zero_le _, fun j _ h => absurd h (Nat.not_lt_zero _)⟩
  rintro i hinv
  obtain ⟨hi, hall⟩ := hinv
  refine W_seqK fun K5 h5 => ?_
  refine W_seqK fun K6 h6 => ?_
  refine W_reg ?_
  simp [go_sem, ty3, ty4, ty37, ty74]
  repeat refine tk ?_
  refine h6 _ ?_
  clear h6 K6
  refine W_cond rfl (fun hb7 => ?_) fun hb7 => ?_
  · have hlt : i < xs.length := by simpa using hb7
    have hsm := hq _ (List.getElem_mem hlt)
    have hsm2 : xs[i].list.length ≤ 1048576 := by unfold GBlock.small at hsm; exact hsm
    clear hb7
    refine W_skip ?_
    repeat refine tk ?_
    refine h5 _ ?_
    clear h5 K5
    refine W_seqK fun K8 h8 => ?_
    refine W_block ?_
    refine W_seqK fun K9 h9 => ?_
    refine W_reg ?_
    simp [go_sem, ty3, ty37, ty74, hlt]
    refine callA (fun hG => pc_spec_At xs[i] pc (by omega)) (fun hG => by simp [go_sem, hlt]) rfl rfl ?_
    simp [go_sem, ty4, ty68, hlt]
    repeat refine tk ?_
    refine h9 _ ?_
    clear h9 K9
    refine W_seqK fun K10 h10 => ?_
    refine W_reg ?_
    simp [go_sem, ty4]
    repeat refine tk ?_
    refine h10 _ ?_
    clear h10 K10
    refine W_cond rfl (fun hb11 => ?_) fun hb11 => ?_
    · obtain ⟨q1, q2⟩ := cf_at hlt hall (show inBlk xs[i] pc = true from hb11)
      clear hb11
      refine W_seqK fun K12 h12 => ?_
      refine W_reg ?_
      simp [go_sem, ty4, ty68]
      repeat refine tk ?_
      refine h12 _ ?_
      clear h12 K12
      refine W_ret ?_
      simp [go_sem, ty68, q1, q2]
    · have hn : inBlk xs[i] pc = false := hb11
      clear hb11
      refine W_skip ?_
      repeat refine tk ?_
      refine h8 _ ?_
      clear h8 K8
      refine W_reg ?_
      simp [go_sem, ty3, hlt]
      refine ⟨i + 1, ?_, ?_, ?_⟩
      · exact Sub.of_neat [0, 1, 4, 6] [0] [2] 60 (by decide) (by simp [go_sem, wrap_succ (show i < 9223372036854775807 by omega)])
      · exact ⟨hlt, fun j hj hji => by rcases Nat.lt_succ_iff_lt_or_eq.1 hji with h | rfl; exact hall j hj h; exact hn⟩
      · omega
  · obtain rfl : i = xs.length := by simp at hb7; omega
    obtain ⟨q1, q2⟩ := cf_none (pc := pc) fun j hj => hall j hj hj
    clear hb7
    refine W_exit ?_
    simp [go_sem]
    repeat refine tk ?_
    refine h2 _ ?_
    clear h5 K5 h2 K2
    refine W_seqK fun K13 h13 => ?_
    refine W_reg ?_
    simp [go_sem, ty4, ty68, fw68]
    repeat refine tk ?_
    refine h13 _ ?_
    clear h13 K13
    refine W_ret ?_
    simp [go_sem, ty68, q1, q2, zIns]

set_option maxRecDepth 100000 in
set_option maxHeartbeats 4000000 in
theorem q_IndexFunc_Block {σ : St} {r F : Nat} {bs : List Nat} {caps : List (List T)} {pm : Pm} {xs : List GBlock} {pr : GBlock → Bool} (hrow : get σ.row r = some ⟨pm, 2, enc eBlock xs⟩) (hx : xs.length ≤ 9223372036854775806) (hcap : capsDen σ bs caps) (hfr : σ.row.all (fun x => decide (x.1 < σ.nxt)) = true) (hF : ∀ x ∈ xs, PCb Tryz.prog F [(true, eBlock x)] caps [(false, [.bool (pr x)])]) : Quiet Tryz.prog 183 [.l (.ref r [] 2 0 xs.length), .l (.fn F bs)] (.int .i64 (idxOf pr xs)) σ := by
  intro K hK
  refine CallW_inline (n := 19) Tryz.func183 rfl rfl rfl rfl (by simp) fun a => ?_
  refine W_seqK fun K1 h1 => ?_
  refine W_reg ?_
  simp [go_sem, ty3]
  repeat refine tk ?_
  refine h1 _ ?_
  clear h1 K1
  refine W_seqK fun K2 h2 => ?_
  refine W_seqK fun K3 h3 => ?_
  refine W_reg ?_
  simp [go_sem, ty3, ty37, ty74]
  repeat refine tk ?_
  refine h3 _ ?_
  clear h3 K3
  refine W_block ?_
  refine W_loopI (α := Nat) (fun i => { env := [(0, true, .l (.ref r [] 2 0 xs.length)), (1, true, .l (.fn F bs)), (7, true, .l (.t (.int .i64 xs.length))), (8, true, .l (.t (.int .i64 i)))], box := σ.box, row := σ.row, nxt := σ.nxt, sav := (σ.env, a) :: σ.sav }) (fun i => i ≤ xs.length ∧ ∀ j, (hj : j < xs.length) → j < i → pr xs[j] = false) (fun i => xs.length - i) 0 ?_ ?_ ?_
  · exact Sub.of_to [0, 1, 7, 8] σ.nxt (by decide) (by simp [go_sem])
  · simp
  rintro i hinv
  obtain ⟨hi, hall⟩ := hinv
  refine W_seqK fun K5 h5 => ?_
  refine W_reg ?_
  simp [go_sem, ty3]
  repeat refine tk ?_
  refine h5 _ ?_
  clear h5 K5
  refine W_seqK fun K6 h6 => ?_
  refine W_cond rfl (fun hb7 => ?_) fun hb7 => ?_
  · have hlt : i < xs.length := by simpa using hb7
    clear hb7
    refine W_skip ?_
    repeat refine tk ?_
    refine h6 _ ?_
    clear h6 K6
    refine W_seqK fun K8 h8 => ?_
    refine W_block ?_
    refine W_seqK fun K9 h9 => ?_
    refine W_reg ?_
    simp [go_sem, ty3]
    repeat refine tk ?_
    refine h9 _ ?_
    clear h9 K9
    refine W_seqK fun K10 h10 => ?_
    refine W_reg ?_
    simp [go_sem, ty3, ty4, ty37, ty74, hlt, hrow]
    refine callG_quiet (fun hG => quiet_pcb (vs := [_]) (hF xs[i] (List.getElem_mem hlt)) (by simp [go_sem, hlt, hrow]) (by refine capsDen_same (σ := σ) ?_ ?_ hcap <;> rfl) hfr rfl) (by simp) ?_
    simp [go_sem, hlt, hrow]
    repeat refine tk ?_
    refine h10 _ ?_
    clear h10 K10
    refine W_cond rfl (fun hb11 => ?_) fun hb11 => ?_
    · have hid : idxOf pr xs = i := idxOf_some hall hlt hb11
      refine W_seqK fun K12 h12 => ?_
      refine W_reg ?_
      simp [go_sem, ty3]
      repeat refine tk ?_
      refine h12 _ ?_
      clear h12 K12
      refine W_ret ?_
      rw [hid] at hK
      simp [go_sem]
      exact ⟨_, _, ⟨rfl, rfl⟩, hK⟩
    · have hp : pr xs[i] = false := hb11
      clear hb11
      refine W_skip ?_
      repeat refine tk ?_
      refine h8 _ ?_
      clear h8 K8
      refine W_reg ?_
      simp [go_sem, ty3]
      refine ⟨i + 1, ?_, ?_, ?_⟩
      · exact Sub.of_to [0, 1, 7, 8] σ.nxt (by decide) (by simp [go_sem, wrap_succ (show i < 9223372036854775807 by omega)])
      · exact ⟨hlt, fun j hj hji => by rcases Nat.lt_succ_iff_lt_or_eq.1 hji with h | rfl; exact hall j hj h; exact hp⟩
      · omega
  · obtain rfl : i = xs.length := by simp at hb7; omega
    have hid : idxOf pr xs = -1 := idxOf_none fun j hj => hall j hj hj
    clear hb7
    refine W_exit ?_
    simp [go_sem]
    repeat refine tk ?_
    refine h2 _ ?_
    clear h6 K6 h2 K2
    refine W_seqK fun K13 h13 => ?_
    refine W_reg ?_
    simp [go_sem, ty3]
    repeat refine tk ?_
    refine h13 _ ?_
    clear h13 K13
    refine W_ret ?_
    rw [hid] at hK
    simp [go_sem]
    exact ⟨_, _, ⟨rfl, rfl⟩, hK⟩

set_option maxRecDepth 100000 in
set_option maxHeartbeats 4000000 in
theorem pcb_impl_Purge_1 (b : GBlock) (page : Int) (hx : b.list.length ≤ 1048576) : PCb Tryz.prog 124 [(true, eBlock b)] [[.int .i64 page]] [(false, [.bool (decide (pageOf b = page))])] := by
  refine PCb_of (n := 8) Tryz.func124 rfl rfl rfl rfl (by simp) ?_
  refine W_seqK fun K1 h1 => ?_
  refine W_reg ?_
  simp [go_sem, ty4, ty74]
  repeat refine tk ?_
  refine h1 _ ?_
  clear h1 K1
  refine W_seqK fun K2 h2 => ?_
  refine W_drawO true [0, 2, 1, 3, 4] mixed (by decide +kernel) ?_
  simp [go_sem, ty3, ty74]
  refine callA (fun hG => pc_impl_PageOf b (by omega)) (fun hG => by simp [go_sem]) rfl rfl ?_
  simp [go_sem, ty3, ty4]
  repeat refine tk ?_
  refine h2 _ ?_
  clear h2 K2
  refine W_ret ?_
  simp [go_sem]
  first | done | rfl | (rw [Bool.eq_iff_iff]; simp)

set_option maxRecDepth 100000 in
set_option maxHeartbeats 4000000 in
theorem pc_impl_Purge (xs : List GBlock) (page : Int) (hx : xs.length ≤ 1048576) (hq : ∀ a ∈ xs, a.small) : PC Tryz.prog 51 [(false, [.sl 2 (enc eBlock xs)]), (false, [.int .i64 page])] [(false, [.sl 2 (enc eBlock (purge xs page))])] := by
  refine PC_of (n := 9) Tryz.func51 rfl rfl rfl rfl (by simp) ?_
  refine W_seqK fun K1 h1 => ?_
  refine W_reg ?_
  simp [go_sem, ty3, ty37, ty74]
  repeat refine tk ?_
  refine h1 _ ?_
  clear h1 K1
  refine W_seqK fun K2 h2 => ?_
  refine W_reg ?_
  simp [go_sem, ty37, ty74]
  refine callA (fun hG => pc_impl_copyBlocks xs hx hq) (fun hG => by simp [go_sem]) rfl rfl ?_
  simp [go_sem, ty37, ty74]
  refine callG_true (by simp) (CallW_only [] (by decide) (CallW_inline (n := 42) Tryz.func123 rfl rfl rfl rfl (by simp) fun a_ => ?_))
  refine W_seqK fun K3 h3 => ?_
  refine W_reg ?_
  simp [go_sem, ty37, ty74]
  repeat refine tk ?_
  refine h3 _ ?_
  clear h3 K3
  refine W_seqK fun K4 h4 => ?_
  refine W_reg ?_
  simp [go_sem, ty3, ty37, ty74]
  refine callG_quiet (fun hG => q_IndexFunc_Block (bs := [2]) (caps := [[.int .i64 page]]) (pr := (fun b => decide (pageOf b = page))) rfl (by omega) (by exact ⟨⟨_, rfl, by simp [go_sem]⟩, trivial⟩) rfl (fun x hx => pcb_impl_Purge_1 x page (by have h9 := hq x hx; unfold GBlock.small at h9; exact h9))) (by simp) ?_
  simp [go_sem, ty3]
  repeat refine tk ?_
  refine h4 _ ?_
  clear h4 K4
  refine W_seqK fun K5 h5 => ?_
  refine W_seqK fun K6 h6 => ?_
  refine W_reg ?_
  simp [go_sem, ty3, ty4]
  repeat refine tk ?_
  refine h6 _ ?_
  clear h6 K6
  refine W_cond rfl (fun hb7 => ?_) fun hb7 => ?_
  · have q : purge xs page = xs := purge_none (by simpa using hb7)
    clear hb7
    refine W_seqK fun K8 h8 => ?_
    refine W_reg ?_
    simp [go_sem, ty37, ty74]
    repeat refine tk ?_
    refine h8 _ ?_
    clear h8 K8
    refine W_ret ?_
    simp [go_sem]
    refine ⟨_, _, ⟨rfl, rfl⟩, ?_⟩
    simp [go_sem, ty37, ty74]
    repeat refine tk ?_
    refine h2 _ ?_
    clear h5 K5 h2 K2
    refine W_ret ?_
    first | (simp [go_sem, q]; done) | (rw [f2] at f1; simp [go_sem, f2, take_app (show (purge xs page).length ≤ p.2.length by omega), f1]; done)
  · obtain ⟨i0, qi, hi0, hpi, hal⟩ := idx_some (show ¬ idxOf (fun b => decide (pageOf b = page)) xs = -1 by simpa using hb7)
    obtain ⟨hst0, hk0⟩ := Del.start (page := page) hi0 (by simpa using hpi) (fun k hk hki => by simpa using hal k hk hki)
    clear hb7
    refine W_skip ?_
    repeat refine tk ?_
    refine h5 _ ?_
    clear h5 K5
    refine W_seqK fun K9 h9 => ?_
    refine W_seqK fun K10 h10 => ?_
    refine W_reg ?_
    simp [go_sem, ty3, qi]
    repeat refine tk ?_
    refine h10 _ ?_
    clear h10 K10
    refine W_block ?_
    refine W_loopI (α := Nat × Els) (fun p => { env := [(0, true, .l (.ref 3 [] 2 0 xs.length)), (1, true, .l (.fn 124 [2])), (5, true, .l (.t (.int .i64 (kept xs page p.1)))), (6, true, .l (.t (.int .i64 p.1)))], box := [(2, [.t (.int .i64 page)])], row := [(3, ⟨.own, 2, p.2⟩)], nxt := 100, sav := [([], a_)] }) (fun p => p.1 ≤ xs.length ∧ Del xs page p.1 p.2) (fun p => xs.length - p.1) (i0 + 1, (enc eBlock xs).set i0 [.int .i64 xs[i0].start, .hole]) ?_ ?_ ?_
    · exact (Sub.unpack (r := 3) (q := [(i0, 1)]) (nm := 91) (z := 5) (es := enc eIns xs[i0].list) (row := ⟨.own, 2, enc eBlock xs⟩) (by rfl) rfl (by simp [go_sem, hi0]) (by simp) (by rfl)).trans (Sub.of_neat [0, 1, 5, 6] [3] [2] 100 (by decide) (by simp [go_sem, qi, hi0, hk0, wrap_succ (show i0 < 9223372036854775807 by omega)]))
    · exact ⟨hi0, hst0⟩
    rintro p hinv
    obtain ⟨hi, hd⟩ := hinv
    have hle := hd.len hi
    have hkl := hd.lt
    refine W_seqK fun K12 h12 => ?_
    refine W_seqK fun K13 h13 => ?_
    refine W_reg ?_
    simp [go_sem, ty3, ty4, ty37, ty74, qi]
    repeat refine tk ?_
    refine h13 _ ?_
    clear h13 K13
    refine W_cond rfl (fun hb14 => ?_) fun hb14 => ?_
    · have hlt : p.1 < xs.length := by simp at hb14; omega
      have hg := hd.at hlt
      have hlt2 : p.1 < p.2.length := by omega
      have hg2 : p.2[p.1] = [.int .i64 xs[p.1].start, .sl 5 (enc eIns xs[p.1].list)] := by have h9 := hg; rw [List.getElem?_eq_getElem hlt2] at h9; simpa using h9
      have hb9 : xs[p.1].list.length ≤ 1048576 := by have h9 := hq _ (List.getElem_mem hlt); unfold GBlock.small at h9; exact h9
      clear hb14
      refine W_skip ?_
      repeat refine tk ?_
      refine h12 _ ?_
      clear h12 K12
      refine W_seqK fun K15 h15 => ?_
      refine W_block ?_
      refine W_seqK fun K16 h16 => ?_
      refine W_reg ?_
      simp [go_sem, ty3, ty37, ty74, qi, hlt, hlt2, hg, hg2, hle]
      repeat refine tk ?_
      refine h16 _ ?_
      clear h16 K16
      refine W_seqK fun K17 h17 => ?_
      refine W_reg ?_
      simp [go_sem, ty4, ty74, qi, hlt, hlt2, hg, hg2, hle]
      refine callG_quiet (fun hG => quiet_pcb (vs := [_]) (bs := [2]) (caps := [[.int .i64 page]]) (pcb_impl_Purge_1 xs[p.1] page hb9) (by simp [go_sem, hlt2, hg, hg2]) (by exact ⟨⟨_, rfl, by simp [go_sem]⟩, trivial⟩) rfl rfl) (by simp) ?_
      simp [go_sem, ty4, qi, hlt, hlt2, hg, hg2, hle]
      repeat refine tk ?_
      refine h17 _ ?_
      clear h17 K17
      refine W_cond rfl (fun hb18 => ?_) fun hb18 => ?_
      · have hkeep : ¬ pageOf xs[p.1] = page := by simpa using hb18
        obtain ⟨hnx, hks⟩ := hd.keep hlt hkeep
        clear hb18
        refine W_seqK fun K19 h19 => ?_
        refine W_sub (Sub.unpack (r := 3) (q := [(p.1, 1)]) (nm := 91) (z := 5) (es := enc eIns xs[p.1].list) (row := ⟨.own, 2, p.2⟩) (by rfl) rfl (by simp [go_sem, hg, hg2, hle, hlt]) (by simp) (by rfl)) ?_
        obtain ⟨s0, hgap0⟩ := hd.gap
        have hk1 : kept xs page p.1 < p.2.length := by omega
        have hk2 : ¬ p.1 = kept xs page p.1 := by omega
        have hgap : p.2[kept xs page p.1]? = some [.int .i64 s0, .hole] := hgap0
        refine W_reg ?_
        simp [go_sem, ty3, ty37, ty74, hk1, hk2, hgap, List.getElem?_set, qi, hlt, hlt2, hg, hg2, hle]
        repeat refine tk ?_
        refine h19 _ ?_
        clear h19 K19
        refine W_reg ?_
        simp [go_sem, ty3, qi, hlt, hlt2, hg, hg2, hle]
        repeat refine tk ?_
        refine h15 _ ?_
        clear h15 K15
        refine W_reg ?_
        simp [go_sem, ty3, qi, hlt, hlt2, hg, hg2, hle]
        refine ⟨p.1 + 1, (p.2.set p.1 [.int .i64 xs[p.1].start, .hole]).set (kept xs page p.1) [.int .i64 xs[p.1].start, .sl 5 (enc eIns xs[p.1].list)], ?_, ?_, ?_⟩
        · exact Sub.of_neat [0, 1, 5, 6] [3] [2] 100 (by decide) (by simp [go_sem, hgap, wrap_succ (show p.1 < 9223372036854775807 by omega), hks, wrap_succ (show kept xs page p.1 < 9223372036854775807 by omega)])
        · exact ⟨hlt, hnx⟩
        · first | omega | (simp; omega)
      · have hskip : pageOf xs[p.1] = page := by simpa using hb18
        obtain ⟨hnx, hks⟩ := hd.skip hlt hskip
        clear hb18
        refine W_skip ?_
        repeat refine tk ?_
        refine h15 _ ?_
        clear h15 K15
        refine W_reg ?_
        simp [go_sem, ty3, qi, hlt, hlt2, hg, hg2, hle]
        refine ⟨p.1 + 1, p.2.set p.1 [.int .i64 xs[p.1].start, .hole], ?_, ?_, ?_⟩
        · exact (Sub.unpack (r := 3) (q := [(p.1, 1)]) (nm := 91) (z := 5) (es := enc eIns xs[p.1].list) (row := ⟨.own, 2, p.2⟩) (by rfl) rfl (by simp [go_sem, hg, hg2, hle, hlt]) (by simp) (by rfl)).trans (Sub.of_neat [0, 1, 5, 6] [3] [2] 100 (by decide) (by simp [go_sem, hg, hg2, hle, hlt, wrap_succ (show p.1 < 9223372036854775807 by omega), hks]))
        · exact ⟨hlt, hnx⟩
        · first | omega | (simp; omega)
    · have hpn : p.1 = xs.length := by simp at hb14; omega
      rw [hpn] at hd
      obtain ⟨f1, f2, f3⟩ := hd.fin
      clear hb14
      refine W_exit ?_
      simp [go_sem]
      repeat refine tk ?_
      refine h9 _ ?_
      clear h12 K12 h9 K9
      refine W_seqK fun K20 h20 => ?_
      refine W_reg ?_
      simp [go_sem, ty3, ty37, ty74, f1, f2, qi, hpn]
      repeat refine tk ?_
      refine h20 _ ?_
      clear h20 K20
      refine W_seqK fun K21 h21 => ?_
      refine W_reg ?_
      simp [go_sem, ty3, ty37, ty74, f1, f2, qi, hpn]
      repeat refine tk ?_
      refine h21 _ ?_
      clear h21 K21
      refine W_ret ?_
      simp [go_sem]
      refine ⟨_, _, ⟨rfl, rfl⟩, ?_⟩
      simp [go_sem, ty37, ty74]
      repeat refine tk ?_
      refine h2 _ ?_
      clear h2 K2
      refine W_ret ?_
      first | (simp [go_sem, q]; done) | (rw [f2] at f1; simp [go_sem, f2, take_app (show (purge xs page).length ≤ p.2.length by omega), f1]; done)

set_option maxRecDepth 100000 in
set_option maxHeartbeats 4000000 in
theorem pc_spec_Purge (xs : List GBlock) (page : Int) (hx : xs.length ≤ 1048576) (hq : ∀ a ∈ xs, a.small) : PC Tryz.prog 34 [(false, [.sl 2 (enc eBlock xs)]), (false, [.int .i64 page])] [(false, [.sl 2 (enc eBlock (purge xs page))])] := by
  refine PC_of (n := 30) Tryz.func34 rfl rfl rfl rfl (by simp) ?_
  refine W_seqK fun K1 h1 => ?_
  refine W_reg ?_
  simp [go_sem, ty37, ty74]
  repeat refine tk ?_
  refine h1 _ ?_
  clear h1 K1
  refine W_seqK fun K2 h2 => ?_
  refine W_reg ?_
  simp [go_sem, ty37, ty74]
  repeat refine tk ?_
  refine h2 _ ?_
  clear h2 K2
  refine W_seqK fun K3 h3 => ?_
  refine W_seqK fun K4 h4 => ?_
  refine W_reg ?_
  simp [go_sem, ty3]
  repeat refine tk ?_
  refine h4 _ ?_
  clear h4 K4
  refine W_block ?_
  refine W_loopI (α := Nat) (fun i => ({ env := [(0, true, .l (.ref 0 [] 2 0 (xs.length))), (1, true, .l (.t (.int .i64 (page)))), (5, true, .l (.ref 40 [] 2 0 ((kept xs page i)))), (6, true, .l (.t (.int .i64 (i))))], box := [], row := [(40, ⟨.own, 2, enc eBlock (purge (xs.take i) page)⟩), (0, ⟨.ro, 2, enc eBlock xs⟩)], nxt := 60, sav := [] } : St)) (fun i => i ≤ xs.length) (fun i => xs.length - i) 0 ?_ ?_ ?_
  · exact (Sub.nilRow (t := 5) (nm := 40) (z := 2) (by rfl) (by rfl)).trans (Sub.of_neat [0, 1, 5, 6] [40, 0] [] 60 (by decide) (by simp [go_sem, purge_zero, purge_nil, enc_nil, kept]))
  · exact Nat.zero_le _
  rintro i hinv
  have hkl : (purge (xs.take i) page).length ≤ i := by have h9 := purge_len (xs.take i) page; simp at h9; omega
  refine W_seqK fun K6 h6 => ?_
  refine W_seqK fun K7 h7 => ?_
  refine W_reg ?_
  simp [go_sem, ty3, ty4, ty37, ty74]
  repeat refine tk ?_
  refine h7 _ ?_
  clear h7 K7
  refine W_cond rfl (fun hb8 => ?_) fun hb8 => ?_
  · have hlt : i < xs.length := by simpa using hb8
    have hb9 : xs[i].list.length ≤ 1048576 := by have h9 := hq _ (List.getElem_mem hlt); unfold GBlock.small at h9; exact h9
    have hst0 := purge_step (page := page) hlt
    clear hb8
    refine W_skip ?_
    repeat refine tk ?_
    refine h6 _ ?_
    clear h6 K6
    refine W_seqK fun K9 h9 => ?_
    refine W_block ?_
    refine W_seqK fun K10 h10 => ?_
    refine W_reg ?_
    simp [go_sem, ty3, ty37, ty74, hlt, kept]
    refine callA (fun hG => pc_spec_PageOf xs[i] hb9) (fun hG => by simp [go_sem, hlt, hlt, kept]) rfl rfl ?_
    simp [go_sem, ty3, ty4, hlt, kept]
    repeat refine tk ?_
    refine h10 _ ?_
    clear h10 K10
    refine W_cond rfl (fun hb11 => ?_) fun hb11 => ?_
    · have hp : ¬ pageOf xs[i] = page := by simpa [hlt] using hb11
      have hst : purge (xs.take (i + 1)) page = purge (xs.take i) page ++ [xs[i]] := by rw [hst0, if_neg hp]
      clear hb11
      refine W_reg ?_
      simp [go_sem, ty3, ty37, ty74, hlt, kept]
      refine callA (fun hG => pc_spec_l10Copy xs[i] hb9) (fun hG => by simp [go_sem, hlt, hlt, kept]) rfl rfl ?_
      simp [go_sem, ty37, ty74, hlt, kept]
      repeat refine tk ?_
      refine h9 _ ?_
      clear h9 K9
      refine W_reg ?_
      simp [go_sem, ty3, hlt, kept]
      refine ⟨i + 1, ?_, ?_, ?_⟩
      · exact (Sub.swp_row 64 40 rfl).trans (Sub.of_neat [0, 1, 5, 6] [40, 0] [] 60 (by decide) (by simp [go_sem, wrap_succ (show i < 9223372036854775807 by omega), hst, kept]))
      · exact hlt
      · omega
    · have hp : pageOf xs[i] = page := by simpa [hlt] using hb11
      have hst : purge (xs.take (i + 1)) page = purge (xs.take i) page := by rw [hst0, if_pos hp, List.append_nil]
      clear hb11
      refine W_skip ?_
      repeat refine tk ?_
      refine h9 _ ?_
      clear h9 K9
      refine W_reg ?_
      simp [go_sem, ty3, hlt, kept]
      refine ⟨i + 1, ?_, ?_, ?_⟩
      · exact Sub.of_neat [0, 1, 5, 6] [40, 0] [] 60 (by decide) (by simp [go_sem, wrap_succ (show i < 9223372036854775807 by omega), hst, kept])
      · exact hlt
      · omega
  · obtain rfl : i = xs.length := by simp at hb8; omega
    clear hb8
    have hfu : purge (xs.take xs.length) page = purge xs page := purge_full xs page
    have hku : kept xs page xs.length = (purge xs page).length := by unfold kept; rw [List.take_length]
    refine W_exit ?_
    simp [go_sem]
    repeat refine tk ?_
    refine h3 _ ?_
    clear h6 K6 h3 K3
    refine W_seqK fun K12 h12 => ?_
    refine W_reg ?_
    simp [go_sem, ty37, ty74]
    repeat refine tk ?_
    refine h12 _ ?_
    clear h12 K12
    refine W_ret ?_
    simp [go_sem, hfu, hku]
end Go.Tw
