/- Walks of functions: slices.IndexFunc[[]impl.Block,impl.Block], impl.Purge$1, impl.Purge, spec.Purge -/
import Derived.Test.YtfjoibkopjdomaaE6M
import Derived.Test.YtfjoibkopjdomaaBaseE
set_option linter.unusedSimpArgs false
set_option linter.unusedVariables false
set_option linter.unnecessarySimpa false
namespace Go.Tw
open Go.Proofs

set_option maxRecDepth 100000 in
set_option maxHeartbeats 4000000 in
theorem q_IndexFunc_Block {σ : St} {r F : Nat} {bs : List Nat} {caps : List (List T)} {pm : Pm} {xs : List GBlock} {pr : GBlock → Bool} (hrow : get σ.row r = some ⟨pm, 2, enc eBlock xs⟩) (hx : xs.length ≤ 9223372036854775806) (hcap : capsDen σ bs caps) (hfr : σ.row.all (fun x => decide (x.1 < σ.nxt)) = true) (hF : ∀ x ∈ xs, PCb Try.prog F [(true, eBlock x)] caps [(false, [.bool (pr x)])]) : Quiet Try.prog 161 [.l (.ref r [] 2 0 xs.length), .l (.fn F bs)] (.int .i64 (idxOf pr xs)) σ := by
  intro K hK
  refine CallW_inline (n := 19) Try.func161 rfl rfl rfl rfl (by simp) fun a => ?_
  refine W_seqK fun K1 h1 => ?_
  refine W_reg ?_
  simp [go_sem, ty3]
  first | refine h1 _ ?_ | refine ⟨by omega, h1 _ ?_⟩ | refine ⟨by omega, by omega, h1 _ ?_⟩ | (repeat (refine ⟨by first | omega | grind, ?_⟩)); refine h1 _ ?_
  clear h1 K1
  refine W_seqK fun K2 h2 => ?_
  refine W_seqK fun K3 h3 => ?_
  refine W_reg ?_
  simp [go_sem, ty3, ty56, ty62]
  first | refine h3 _ ?_ | refine ⟨by omega, h3 _ ?_⟩ | refine ⟨by omega, by omega, h3 _ ?_⟩ | (repeat (refine ⟨by first | omega | grind, ?_⟩)); refine h3 _ ?_
  clear h3 K3
  refine W_block ?_
  refine W_loopI (α := Nat) (fun i => { env := [(0, true, .l (.ref r [] 2 0 xs.length)), (1, true, .l (.fn F bs)), (7, true, .l (.t (.int .i64 xs.length))), (8, true, .l (.t (.int .i64 i)))], box := σ.box, row := σ.row, nxt := σ.nxt, sav := (σ.env, a) :: σ.sav }) (fun i => i ≤ xs.length ∧ ∀ j, (hj : j < xs.length) → j < i → pr xs[j] = false) (fun i => xs.length - i) 0 ?_ ?_ ?_
  · exact Sub.of_to [0, 1, 7, 8] σ.nxt (by decide) (by simp [go_sem])
  · simp
  rintro i hinv
  obtain ⟨hi, hall⟩ := hinv
  refine W_seqK fun K5 h5 => ?_
  refine W_reg ?_
  simp [go_sem, ty3]
  first | refine h5 _ ?_ | refine ⟨by omega, h5 _ ?_⟩ | refine ⟨by omega, by omega, h5 _ ?_⟩ | (repeat (refine ⟨by first | omega | grind, ?_⟩)); refine h5 _ ?_
  clear h5 K5
  refine W_seqK fun K6 h6 => ?_
  refine W_cond rfl (fun hb7 => ?_) fun hb7 => ?_
  · have hlt : i < xs.length := by simpa using hb7
    clear hb7
    refine W_skip ?_
    first | refine h6 _ ?_ | refine ⟨by omega, h6 _ ?_⟩ | refine ⟨by omega, by omega, h6 _ ?_⟩ | (repeat (refine ⟨by first | omega | grind, ?_⟩)); refine h6 _ ?_
    clear h6 K6
    refine W_seqK fun K8 h8 => ?_
    refine W_block ?_
    refine W_seqK fun K9 h9 => ?_
    refine W_reg ?_
    simp [go_sem, ty3]
    first | refine h9 _ ?_ | refine ⟨by omega, h9 _ ?_⟩ | refine ⟨by omega, by omega, h9 _ ?_⟩ | (repeat (refine ⟨by first | omega | grind, ?_⟩)); refine h9 _ ?_
    clear h9 K9
    refine W_seqK fun K10 h10 => ?_
    refine W_reg ?_
    simp [go_sem, ty3, ty4, ty56, ty62, hlt, hrow]
    refine callG_quiet (fun hG => quiet_pcb (vs := [_]) (hF xs[i] (List.getElem_mem hlt)) (by simp [go_sem, hlt, hrow]) (by refine capsDen_same (σ := σ) ?_ ?_ hcap <;> rfl) hfr rfl) (by simp) ?_
    simp [go_sem, hlt, hrow]
    first | refine h10 _ ?_ | refine ⟨by omega, h10 _ ?_⟩ | refine ⟨by omega, by omega, h10 _ ?_⟩ | (repeat (refine ⟨by first | omega | grind, ?_⟩)); refine h10 _ ?_
    clear h10 K10
    refine W_cond rfl (fun hb11 => ?_) fun hb11 => ?_
    · have hid : idxOf pr xs = i := idxOf_some hall hlt hb11
      refine W_seqK fun K12 h12 => ?_
      refine W_reg ?_
      simp [go_sem, ty3]
      first | refine h12 _ ?_ | refine ⟨by omega, h12 _ ?_⟩ | refine ⟨by omega, by omega, h12 _ ?_⟩ | (repeat (refine ⟨by first | omega | grind, ?_⟩)); refine h12 _ ?_
      clear h12 K12
      refine W_ret ?_
      rw [hid] at hK
      simp [go_sem]
      exact ⟨_, _, ⟨rfl, rfl⟩, hK⟩
    · have hp : pr xs[i] = false := hb11
      clear hb11
      refine W_skip ?_
      first | refine h8 _ ?_ | refine ⟨by omega, h8 _ ?_⟩ | refine ⟨by omega, by omega, h8 _ ?_⟩ | (repeat (refine ⟨by first | omega | grind, ?_⟩)); refine h8 _ ?_
      clear h8 K8
      refine W_reg ?_
      simp [go_sem, ty3]
      refine ⟨i + 1, ?_, ?_, ?_⟩
      · exact Sub.of_to [0, 1, 7, 8] σ.nxt (by decide) (by simp [go_sem, wrap_succ (show i < 9223372036854775807 by omega)])
      · exact ⟨hlt, fun j hj hji => by rcases Nat.lt_succ_iff_lt_or_eq.1 hji with h | rfl; exact hall j hj h; exact hp⟩
      · omega
  · obtain rfl : i = xs.length := by simp at hb7; omega
    have hid : idxOf pr xs = -1 := idxOf_none fun j hj => hall j hj hj
    clear hb7
    refine W_exit ?_
    simp [go_sem]
    first | refine h2 _ ?_ | refine ⟨by omega, h2 _ ?_⟩ | refine ⟨by omega, by omega, h2 _ ?_⟩ | (repeat (refine ⟨by first | omega | grind, ?_⟩)); refine h2 _ ?_
    clear h6 K6 h2 K2
    refine W_seqK fun K13 h13 => ?_
    refine W_reg ?_
    simp [go_sem, ty3]
    first | refine h13 _ ?_ | refine ⟨by omega, h13 _ ?_⟩ | refine ⟨by omega, by omega, h13 _ ?_⟩ | (repeat (refine ⟨by first | omega | grind, ?_⟩)); refine h13 _ ?_
    clear h13 K13
    refine W_ret ?_
    rw [hid] at hK
    simp [go_sem]
    exact ⟨_, _, ⟨rfl, rfl⟩, hK⟩

set_option maxRecDepth 100000 in
set_option maxHeartbeats 4000000 in
theorem pcb_impl_Purge_1 (b : GBlock) (page : Int) (hx : b.list.length ≤ 1048576) : PCb Try.prog 109 [(true, eBlock b)] [[.int .i64 page]] [(false, [.bool (decide (pageOf b = page))])] := by
  refine PCb_of (n := 8) Try.func109 rfl rfl rfl rfl (by simp) ?_
  refine W_seqK fun K1 h1 => ?_
  refine W_reg ?_
  simp [go_sem, ty4, ty62]
  first | refine h1 _ ?_ | refine ⟨by omega, h1 _ ?_⟩ | refine ⟨by omega, by omega, h1 _ ?_⟩ | (repeat (refine ⟨by first | omega | grind, ?_⟩)); refine h1 _ ?_
  clear h1 K1
  refine W_seqK fun K2 h2 => ?_
  refine W_drawO true [0, 2, 1, 3, 4] mixed (by decide +kernel) ?_
  simp [go_sem, ty3, ty62]
  refine callG_pc (fun hG => pc_impl_PageOf b (by omega)) (by first | (simp; done) | (simp [inR_iff]; done) | (simp [inR_iff]; grind) | grind) (fun hG => by simp [go_sem]) rfl rfl (by first | exact Or.inl rfl | exact Or.inr rfl) ?_
  simp [go_sem, ty3, ty4]
  first | refine h2 _ ?_ | refine ⟨by omega, h2 _ ?_⟩ | refine ⟨by omega, by omega, h2 _ ?_⟩ | (repeat (refine ⟨by first | omega | grind, ?_⟩)); refine h2 _ ?_
  clear h2 K2
  refine W_ret ?_
  simp [go_sem]
  first | done | rfl | (rw [Bool.eq_iff_iff]; simp)

set_option maxRecDepth 100000 in
set_option maxHeartbeats 4000000 in
theorem pc_impl_Purge (xs : List GBlock) (page : Int) (hx : xs.length ≤ 1048576) (hq : ∀ a ∈ xs, a.small) : PC Try.prog 43 [(false, [.sl 2 (enc eBlock xs)]), (false, [.int .i64 page])] [(false, [.sl 2 (enc eBlock (purge xs page))])] := by
  refine PC_of (n := 9) Try.func43 rfl rfl rfl rfl (by simp) ?_
  refine W_seqK fun K1 h1 => ?_
  refine W_reg ?_
  simp [go_sem, ty3, ty56, ty62]
  first | refine h1 _ ?_ | refine ⟨by omega, h1 _ ?_⟩ | refine ⟨by omega, by omega, h1 _ ?_⟩ | (repeat (refine ⟨by first | omega | grind, ?_⟩)); refine h1 _ ?_
  clear h1 K1
  refine W_seqK fun K2 h2 => ?_
  refine W_reg ?_
  simp [go_sem, ty56, ty62]
  refine callG_pc (fun hG => pc_impl_copyBlocks xs hx hq) (by first | (simp; done) | (simp [inR_iff]; done) | (simp [inR_iff]; grind) | grind) (fun hG => by simp [go_sem]) rfl rfl (by first | exact Or.inl rfl | exact Or.inr rfl) ?_
  simp [go_sem, ty56, ty62]
  refine callG_true (by simp) (CallW_only [] (by decide) (CallW_inline (n := 42) Try.func107 rfl rfl rfl rfl (by simp) fun a_ => ?_))
  refine W_seqK fun K3 h3 => ?_
  refine W_reg ?_
  simp [go_sem, ty56, ty62]
  first | refine h3 _ ?_ | refine ⟨by omega, h3 _ ?_⟩ | refine ⟨by omega, by omega, h3 _ ?_⟩ | (repeat (refine ⟨by first | omega | grind, ?_⟩)); refine h3 _ ?_
  clear h3 K3
  refine W_seqK fun K4 h4 => ?_
  refine W_reg ?_
  simp [go_sem, ty3, ty56, ty62]
  refine callG_quiet (fun hG => q_IndexFunc_Block (bs := [2]) (caps := [[.int .i64 page]]) (pr := (fun b => decide (pageOf b = page))) rfl (by omega) (by exact ⟨⟨_, rfl, by simp [go_sem]⟩, trivial⟩) rfl (fun x hx => pcb_impl_Purge_1 x page (by have h9 := hq x hx; unfold GBlock.small at h9; exact h9))) (by simp) ?_
  simp [go_sem, ty3]
  first | refine h4 _ ?_ | refine ⟨by omega, h4 _ ?_⟩ | refine ⟨by omega, by omega, h4 _ ?_⟩ | (repeat (refine ⟨by first | omega | grind, ?_⟩)); refine h4 _ ?_
  clear h4 K4
  refine W_seqK fun K5 h5 => ?_
  refine W_seqK fun K6 h6 => ?_
  refine W_reg ?_
  simp [go_sem, ty3, ty4]
  first | refine h6 _ ?_ | refine ⟨by omega, h6 _ ?_⟩ | refine ⟨by omega, by omega, h6 _ ?_⟩ | (repeat (refine ⟨by first | omega | grind, ?_⟩)); refine h6 _ ?_
  clear h6 K6
  refine W_cond rfl (fun hb7 => ?_) fun hb7 => ?_
  · have q : purge xs page = xs := purge_none (by simpa using hb7)
    clear hb7
    refine W_seqK fun K8 h8 => ?_
    refine W_reg ?_
    simp [go_sem, ty56, ty62]
    first | refine h8 _ ?_ | refine ⟨by omega, h8 _ ?_⟩ | refine ⟨by omega, by omega, h8 _ ?_⟩ | (repeat (refine ⟨by first | omega | grind, ?_⟩)); refine h8 _ ?_
    clear h8 K8
    refine W_ret ?_
    simp [go_sem]
    refine ⟨_, _, ⟨rfl, rfl⟩, ?_⟩
    simp [go_sem, ty56, ty62]
    first | refine h2 _ ?_ | refine ⟨by omega, h2 _ ?_⟩ | refine ⟨by omega, by omega, h2 _ ?_⟩ | (repeat (refine ⟨by first | omega | grind, ?_⟩)); refine h2 _ ?_
    clear h5 K5 h2 K2
    refine W_ret ?_
    first | (simp [go_sem, q]; done) | (rw [f2] at f1; simp [go_sem, f2, take_app (show (purge xs page).length ≤ p.2.length by omega), f1]; done)
  · obtain ⟨i0, qi, hi0, hpi, hal⟩ := idx_some (show ¬ idxOf (fun b => decide (pageOf b = page)) xs = -1 by simpa using hb7)
    obtain ⟨hst0, hk0⟩ := Del.start (page := page) hi0 (by simpa using hpi) (fun k hk hki => by simpa using hal k hk hki)
    clear hb7
    refine W_skip ?_
    first | refine h5 _ ?_ | refine ⟨by omega, h5 _ ?_⟩ | refine ⟨by omega, by omega, h5 _ ?_⟩ | (repeat (refine ⟨by first | omega | grind, ?_⟩)); refine h5 _ ?_
    clear h5 K5
    refine W_seqK fun K9 h9 => ?_
    refine W_seqK fun K10 h10 => ?_
    refine W_reg ?_
    simp [go_sem, ty3, qi]
    first | refine h10 _ ?_ | refine ⟨by omega, h10 _ ?_⟩ | refine ⟨by omega, by omega, h10 _ ?_⟩ | (repeat (refine ⟨by first | omega | grind, ?_⟩)); refine h10 _ ?_
    clear h10 K10
    refine W_block ?_
    refine W_loopI (α := Nat × Els) (fun p => { env := [(0, true, .l (.ref 3 [] 2 0 xs.length)), (1, true, .l (.fn 109 [2])), (5, true, .l (.t (.int .i64 (kept xs page p.1)))), (6, true, .l (.t (.int .i64 p.1)))], box := [(2, [.t (.int .i64 page)])], row := [(3, ⟨.own, 2, p.2⟩)], nxt := 100, sav := [([], a_)] }) (fun p => p.1 ≤ xs.length ∧ Del xs page p.1 p.2) (fun p => xs.length - p.1) (i0 + 1, (enc eBlock xs).set i0 [.int .i64 xs[i0].start, .hole]) ?_ ?_ ?_
    · exact (Sub.unpack (r := 3) (q := [(i0, 1)]) (nm := 91) (z := 5) (es := enc eIns xs[i0].list) (row := ⟨.own, 2, enc eBlock xs⟩) (by rfl) rfl (by simp [go_sem, hi0]) (by simp) (by rfl)).trans (Sub.of_neat [0, 1, 5, 6] [3] [2] 100 (by decide) (by simp [go_sem, qi, hi0, hk0, wrap_succ (show i0 < 9223372036854775807 by omega)]))
    · exact ⟨hi0, hst0⟩
    rintro p hinv
    obtain ⟨hi, hd⟩ := hinv
    have hle := hd.len hi
    have hkl := hd.lt
    refine W_seqK fun K12 h12 => ?_
    refine W_seqK fun K13 h13 => ?_
    refine W_reg ?_
    simp [go_sem, ty3, ty4, ty56, ty62, qi]
    first | refine h13 _ ?_ | refine ⟨by omega, h13 _ ?_⟩ | refine ⟨by omega, by omega, h13 _ ?_⟩ | (repeat (refine ⟨by first | omega | grind, ?_⟩)); refine h13 _ ?_
    clear h13 K13
    refine W_cond rfl (fun hb14 => ?_) fun hb14 => ?_
    · have hlt : p.1 < xs.length := by simp at hb14; omega
      have hg := hd.at hlt
      have hlt2 : p.1 < p.2.length := by omega
      have hg2 : p.2[p.1] = [.int .i64 xs[p.1].start, .sl 5 (enc eIns xs[p.1].list)] := by have h9 := hg; rw [List.getElem?_eq_getElem hlt2] at h9; simpa using h9
      have hb9 : xs[p.1].list.length ≤ 1048576 := by have h9 := hq _ (List.getElem_mem hlt); unfold GBlock.small at h9; exact h9
      clear hb14
      refine W_skip ?_
      first | refine h12 _ ?_ | refine ⟨by omega, h12 _ ?_⟩ | refine ⟨by omega, by omega, h12 _ ?_⟩ | (repeat (refine ⟨by first | omega | grind, ?_⟩)); refine h12 _ ?_
      clear h12 K12
      refine W_seqK fun K15 h15 => ?_
      refine W_block ?_
      refine W_seqK fun K16 h16 => ?_
      refine W_reg ?_
      simp [go_sem, ty3, ty56, ty62, qi, hlt, hlt2, hg, hg2, hle]
      first | refine h16 _ ?_ | refine ⟨by omega, h16 _ ?_⟩ | refine ⟨by omega, by omega, h16 _ ?_⟩ | (repeat (refine ⟨by first | omega | grind, ?_⟩)); refine h16 _ ?_
      clear h16 K16
      refine W_seqK fun K17 h17 => ?_
      refine W_reg ?_
      simp [go_sem, ty4, ty62, qi, hlt, hlt2, hg, hg2, hle]
      refine callG_quiet (fun hG => quiet_pcb (vs := [_]) (bs := [2]) (caps := [[.int .i64 page]]) (pcb_impl_Purge_1 xs[p.1] page hb9) (by simp [go_sem, hlt2, hg, hg2]) (by exact ⟨⟨_, rfl, by simp [go_sem]⟩, trivial⟩) rfl rfl) (by simp) ?_
      simp [go_sem, ty4, qi, hlt, hlt2, hg, hg2, hle]
      first | refine h17 _ ?_ | refine ⟨by omega, h17 _ ?_⟩ | refine ⟨by omega, by omega, h17 _ ?_⟩ | (repeat (refine ⟨by first | omega | grind, ?_⟩)); refine h17 _ ?_
      clear h17 K17
      refine W_cond rfl (fun hb18 => ?_) fun hb18 => ?_
      · have hkeep : ¬ pageOf xs[p.1] = page := by simpa using hb18
        obtain ⟨hnx, hks⟩ := hd.keep hlt hkeep
        clear hb18
        refine W_seqK fun K19 h19 => ?_
        refine W_sub (Sub.unpack (r := 3) (q := [(p.1, 1)]) (nm := 91) (z := 5) (es := enc eIns xs[p.1].list) (row := ⟨.own, 2, p.2⟩) (by rfl) rfl (by simp [go_sem, hg, hg2, hle, hlt]) (by simp) (by rfl)) ?_
        obtain ⟨s0, hgap0⟩ := hd.gap
        have hk1 : kept xs page p.1 < p.2.length := by omega
        have hk2 : ¬ p.1 = kept xs page p.1 := by omega
        have hgap : p.2[kept xs page p.1]? = some [.int .i64 s0, .hole] := hgap0
        refine W_reg ?_
        simp [go_sem, ty3, ty56, ty62, hk1, hk2, hgap, List.getElem?_set, qi, hlt, hlt2, hg, hg2, hle]
        first | refine h19 _ ?_ | refine ⟨by omega, h19 _ ?_⟩ | refine ⟨by omega, by omega, h19 _ ?_⟩ | (repeat (refine ⟨by first | omega | grind, ?_⟩)); refine h19 _ ?_
        clear h19 K19
        refine W_reg ?_
        simp [go_sem, ty3, qi, hlt, hlt2, hg, hg2, hle]
        first | refine h15 _ ?_ | refine ⟨by omega, h15 _ ?_⟩ | refine ⟨by omega, by omega, h15 _ ?_⟩ | (repeat (refine ⟨by first | omega | grind, ?_⟩)); refine h15 _ ?_
        clear h15 K15
        refine W_reg ?_
        simp [go_sem, ty3, qi, hlt, hlt2, hg, hg2, hle]
        refine ⟨p.1 + 1, (p.2.set p.1 [.int .i64 xs[p.1].start, .hole]).set (kept xs page p.1) [.int .i64 xs[p.1].start, .sl 5 (enc eIns xs[p.1].list)], ?_, ?_, ?_⟩
        · exact Sub.of_neat [0, 1, 5, 6] [3] [2] 100 (by decide) (by simp [go_sem, hgap, wrap_succ (show p.1 < 9223372036854775807 by omega), hks, wrap_succ (show kept xs page p.1 < 9223372036854775807 by omega)])
        · exact ⟨hlt, hnx⟩
        · first | omega | (simp; omega)
      · have hskip : pageOf xs[p.1] = page := by simpa using hb18
        obtain ⟨hnx, hks⟩ := hd.skip hlt hskip
        clear hb18
        refine W_skip ?_
        first | refine h15 _ ?_ | refine ⟨by omega, h15 _ ?_⟩ | refine ⟨by omega, by omega, h15 _ ?_⟩ | (repeat (refine ⟨by first | omega | grind, ?_⟩)); refine h15 _ ?_
        clear h15 K15
        refine W_reg ?_
        simp [go_sem, ty3, qi, hlt, hlt2, hg, hg2, hle]
        refine ⟨p.1 + 1, p.2.set p.1 [.int .i64 xs[p.1].start, .hole], ?_, ?_, ?_⟩
        · exact (Sub.unpack (r := 3) (q := [(p.1, 1)]) (nm := 91) (z := 5) (es := enc eIns xs[p.1].list) (row := ⟨.own, 2, p.2⟩) (by rfl) rfl (by simp [go_sem, hg, hg2, hle, hlt]) (by simp) (by rfl)).trans (Sub.of_neat [0, 1, 5, 6] [3] [2] 100 (by decide) (by simp [go_sem, hg, hg2, hle, hlt, wrap_succ (show p.1 < 9223372036854775807 by omega), hks]))
        · exact ⟨hlt, hnx⟩
        · first | omega | (simp; omega)
    · have hpn : p.1 = xs.length := by simp at hb14; omega
      rw [hpn] at hd
      obtain ⟨f1, f2, f3⟩ := hd.fin
      clear hb14
      refine W_exit ?_
      simp [go_sem]
      first | refine h9 _ ?_ | refine ⟨by omega, h9 _ ?_⟩ | refine ⟨by omega, by omega, h9 _ ?_⟩ | (repeat (refine ⟨by first | omega | grind, ?_⟩)); refine h9 _ ?_
      clear h12 K12 h9 K9
      refine W_seqK fun K20 h20 => ?_
      refine W_reg ?_
      simp [go_sem, ty3, ty56, ty62, f1, f2, qi, hpn]
      first | refine h20 _ ?_ | refine ⟨by omega, h20 _ ?_⟩ | refine ⟨by omega, by omega, h20 _ ?_⟩ | (repeat (refine ⟨by first | omega | grind, ?_⟩)); refine h20 _ ?_
      clear h20 K20
      refine W_seqK fun K21 h21 => ?_
      refine W_reg ?_
      simp [go_sem, ty3, ty56, ty62, f1, f2, qi, hpn]
      first | refine h21 _ ?_ | refine ⟨by omega, h21 _ ?_⟩ | refine ⟨by omega, by omega, h21 _ ?_⟩ | (repeat (refine ⟨by first | omega | grind, ?_⟩)); refine h21 _ ?_
      clear h21 K21
      refine W_ret ?_
      simp [go_sem]
      refine ⟨_, _, ⟨rfl, rfl⟩, ?_⟩
      simp [go_sem, ty56, ty62]
      first | refine h2 _ ?_ | refine ⟨by omega, h2 _ ?_⟩ | refine ⟨by omega, by omega, h2 _ ?_⟩ | (repeat (refine ⟨by first | omega | grind, ?_⟩)); refine h2 _ ?_
      clear h2 K2
      refine W_ret ?_
      first | (simp [go_sem, q]; done) | (rw [f2] at f1; simp [go_sem, f2, take_app (show (purge xs page).length ≤ p.2.length by omega), f1]; done)

set_option maxRecDepth 100000 in
set_option maxHeartbeats 4000000 in
theorem pc_spec_Purge (xs : List GBlock) (page : Int) (hx : xs.length ≤ 1048576) (hq : ∀ a ∈ xs, a.small) : PC Try.prog 47 [(false, [.sl 2 (enc eBlock xs)]), (false, [.int .i64 page])] [(false, [.sl 2 (enc eBlock (purge xs page))])] := by
  refine PC_of (n := 30) Try.func47 rfl rfl rfl rfl (by simp) ?_
  refine W_seqK fun K1 h1 => ?_
  refine W_reg ?_
  simp [go_sem, ty56, ty62]
  first | refine h1 _ ?_ | refine ⟨by omega, h1 _ ?_⟩ | refine ⟨by omega, by omega, h1 _ ?_⟩ | (repeat (refine ⟨by first | omega | grind, ?_⟩)); refine h1 _ ?_
  clear h1 K1
  refine W_seqK fun K2 h2 => ?_
  refine W_reg ?_
  simp [go_sem, ty56, ty62]
  first | refine h2 _ ?_ | refine ⟨by omega, h2 _ ?_⟩ | refine ⟨by omega, by omega, h2 _ ?_⟩ | (repeat (refine ⟨by first | omega | grind, ?_⟩)); refine h2 _ ?_
  clear h2 K2
  refine W_seqK fun K3 h3 => ?_
  refine W_seqK fun K4 h4 => ?_
  refine W_reg ?_
  simp [go_sem, ty3]
  first | refine h4 _ ?_ | refine ⟨by omega, h4 _ ?_⟩ | refine ⟨by omega, by omega, h4 _ ?_⟩ | (repeat (refine ⟨by first | omega | grind, ?_⟩)); refine h4 _ ?_
  clear h4 K4
  refine W_block ?_
  refine W_loopI (α := Nat) (fun i => ({ env := [(0, true, .l (.ref 0 [] 2 0 (xs.length))), (1, true, .l (.t (.int .i64 (page)))), (5, true, .l (.ref 40 [] 2 0 ((kept xs page i)))), (6, true, .l (.t (.int .i64 (i))))], box := [], row := [(40, ⟨.own, 2, enc eBlock (purge (xs.take i) page)⟩), (0, ⟨.ro, 2, enc eBlock xs⟩)], nxt := 60, sav := [] } : St)) (fun i => i ≤ xs.length) (fun i => xs.length - i) 0 ?_ ?_ ?_
  · exact (Sub.nilRow (t := 5) (nm := 40) (z := 2) (by rfl) (by rfl)).trans (Sub.of_neat [0, 1, 5, 6] [40, 0] [] 60 (by decide) (by simp [go_sem, purge_zero, purge_nil, enc_nil, kept]))
  · exact Nat.zero_le _
  rintro i hinv
  have hkl : (purge (xs.take i) page).length ≤ i := by have h9 := purge_len (xs.take i) page; simp at h9; omega
  refine W_seqK fun K6 h6 => ?_
  refine W_seqK fun K7 h7 => ?_
  refine W_reg ?_
  simp [go_sem, ty3, ty4, ty56, ty62]
  first | refine h7 _ ?_ | refine ⟨by omega, h7 _ ?_⟩ | refine ⟨by omega, by omega, h7 _ ?_⟩ | (repeat (refine ⟨by first | omega | grind, ?_⟩)); refine h7 _ ?_
  clear h7 K7
  refine W_cond rfl (fun hb8 => ?_) fun hb8 => ?_
  · have hlt : i < xs.length := by simpa using hb8
    have hb9 : xs[i].list.length ≤ 1048576 := by have h9 := hq _ (List.getElem_mem hlt); unfold GBlock.small at h9; exact h9
    have hst0 := purge_step (page := page) hlt
    clear hb8
    refine W_skip ?_
    first | refine h6 _ ?_ | refine ⟨by omega, h6 _ ?_⟩ | refine ⟨by omega, by omega, h6 _ ?_⟩ | (repeat (refine ⟨by first | omega | grind, ?_⟩)); refine h6 _ ?_
    clear h6 K6
    refine W_seqK fun K9 h9 => ?_
    refine W_block ?_
    refine W_seqK fun K10 h10 => ?_
    refine W_reg ?_
    simp [go_sem, ty3, ty56, ty62, hlt, kept]
    refine callG_pc (fun hG => pc_spec_PageOf xs[i] hb9) (by first | (simp; done) | (simp [inR_iff]; done) | (simp [inR_iff]; grind) | grind) (fun hG => by simp [go_sem, hlt, hlt, kept]) rfl rfl (by first | exact Or.inl rfl | exact Or.inr rfl) ?_
    simp [go_sem, ty3, ty4, hlt, kept]
    first | refine h10 _ ?_ | refine ⟨by omega, h10 _ ?_⟩ | refine ⟨by omega, by omega, h10 _ ?_⟩ | (repeat (refine ⟨by first | omega | grind, ?_⟩)); refine h10 _ ?_
    clear h10 K10
    refine W_cond rfl (fun hb11 => ?_) fun hb11 => ?_
    · have hp : ¬ pageOf xs[i] = page := by simpa [hlt] using hb11
      have hst : purge (xs.take (i + 1)) page = purge (xs.take i) page ++ [xs[i]] := by rw [hst0, if_neg hp]
      clear hb11
      refine W_reg ?_
      simp [go_sem, ty3, ty56, ty62, hlt, kept]
      refine callG_pc (fun hG => pc_spec_l10Copy xs[i] hb9) (by first | (simp; done) | (simp [inR_iff]; done) | (simp [inR_iff]; grind) | grind) (fun hG => by simp [go_sem, hlt, hlt, kept]) rfl rfl (by first | exact Or.inl rfl | exact Or.inr rfl) ?_
      simp [go_sem, ty56, ty62, hlt, kept]
      first | refine h9 _ ?_ | refine ⟨by omega, h9 _ ?_⟩ | refine ⟨by omega, by omega, h9 _ ?_⟩ | (repeat (refine ⟨by first | omega | grind, ?_⟩)); refine h9 _ ?_
      clear h9 K9
      refine W_reg ?_
      simp [go_sem, ty3, hlt, kept]
      refine ⟨i + 1, ?_, ?_, ?_⟩
      · exact (Sub.swp_row 64 40 rfl).trans (Sub.of_neat [0, 1, 5, 6] [40, 0] [] 60 (by decide) (by simp [go_sem, wrap_succ (show i < 9223372036854775807 by omega), hst, kept]))
      · exact hlt
      · omega
    · have hp : pageOf xs[i] = page := by simpa [hlt] using hb11
      have hst : purge (xs.take (i + 1)) page = purge (xs.take i) page := by rw [hst0, if_pos hp, List.append_nil]
      clear hb11
      refine W_skip ?_
      first | refine h9 _ ?_ | refine ⟨by omega, h9 _ ?_⟩ | refine ⟨by omega, by omega, h9 _ ?_⟩ | (repeat (refine ⟨by first | omega | grind, ?_⟩)); refine h9 _ ?_
      clear h9 K9
      refine W_reg ?_
      simp [go_sem, ty3, hlt, kept]
      refine ⟨i + 1, ?_, ?_, ?_⟩
      · exact Sub.of_neat [0, 1, 5, 6] [40, 0] [] 60 (by decide) (by simp [go_sem, wrap_succ (show i < 9223372036854775807 by omega), hst, kept])
      · exact hlt
      · omega
  · obtain rfl : i = xs.length := by simp at hb8; omega
    clear hb8
    have hfu : purge (xs.take xs.length) page = purge xs page := purge_full xs page
    have hku : kept xs page xs.length = (purge xs page).length := by unfold kept; rw [List.take_length]
    refine W_exit ?_
    simp [go_sem]
    first | refine h3 _ ?_ | refine ⟨by omega, h3 _ ?_⟩ | refine ⟨by omega, by omega, h3 _ ?_⟩ | (repeat (refine ⟨by first | omega | grind, ?_⟩)); refine h3 _ ?_
    clear h6 K6 h3 K3
    refine W_seqK fun K12 h12 => ?_
    refine W_reg ?_
    simp [go_sem, ty56, ty62]
    first | refine h12 _ ?_ | refine ⟨by omega, h12 _ ?_⟩ | refine ⟨by omega, by omega, h12 _ ?_⟩ | (repeat (refine ⟨by first | omega | grind, ?_⟩)); refine h12 _ ?_
    clear h12 K12
    refine W_ret ?_
    simp [go_sem, hfu, hku]
end Go.Tw
