/- Walks of functions: spec.l7Coming, impl.coming, spec.l7Last, slices.Reverse[[]impl.Msg,impl.Msg] -/
import Derived.Test.YtafocmjoejchbaaGreatZu
set_option linter.unusedSimpArgs false
set_option linter.unusedVariables false
set_option linter.unnecessarySimpa false
namespace Go.Tw
open Go.Proofs

set_option maxRecDepth 100000 in
set_option maxHeartbeats 4000000 in
theorem pc_spec_l7Coming (w : GWorld) (a b : Nat) (hw : worldOk w = true) (hs : w.small) (ha : a < w.nodes.length) (hb : b < w.nodes.length) : PC Tryz.prog 148 [(true, eWorld w), (false, [.int .i64 (a : Int)]), (false, [.int .i64 (b : Int)])] [(false, [.sl 4 (enc eMsg (comingOf w a b))])] := by
  obtain ⟨hd, hn⟩ := worldOk_facts hw
  obtain ⟨⟨n1, n2⟩, n3, -⟩ := worldHd_facts hd
  obtain ⟨x, hx⟩ : ∃ x, w.nodes[a] = x := ⟨_, rfl⟩
  obtain ⟨y, hy⟩ : ∃ y, w.nodes[b] = y := ⟨_, rfl⟩
  have hxa := (world_node hw ha).1
  have hyb := (world_node hw hb).1
  rw [hx] at hxa
  rw [hy] at hyb
  obtain ⟨-, -, xo, -, -, -, xs9, -⟩ := nodeOk_facts hxa
  obtain ⟨-, -, -, yi, -, -, -, yg⟩ := nodeOk_facts hyb
  have hbo : b < x.out.length := by omega
  have hai : a < y.in_.length := by omega
  obtain ⟨s, hse⟩ : ∃ s, x.out[b] = s := ⟨_, rfl⟩
  have hso := xs9 b hbo
  rw [hse] at hso
  obtain ⟨sb, sq, sm⟩ := senderOk_facts hso
  obtain ⟨r, hre⟩ : ∃ r, y.in_[a] = r := ⟨_, rfl⟩
  have hgo := yg a hai
  rw [hre] at hgo
  unfold gotOk at hgo
  have q : comingOf w a b = comN s.queue s.base r.got s.queue.length := comingOf_at (x := x) (y := y) (s := s) (r := r) (by simp [ha, hx]) (by simp [hb, hy]) (by simp [hbo, hse]) (by simp [hai, hre])
  refine PC_of (n := 54) Tryz.func148 rfl rfl rfl rfl (by simp) ?_
  refine W_seqK fun K1 h1 => ?_
  refine W_reg ?_
  simp [go_sem, ty61, ty125, ty165, ha, hb, hx, hy, hbo, hai, hse, hre]
  first | refine h1 _ ?_ | refine ⟨by omega, h1 _ ?_⟩ | refine ⟨by omega, by omega, h1 _ ?_⟩ | (repeat (refine ⟨by first | omega | grind, ?_⟩)); refine h1 _ ?_
  clear h1 K1
  refine W_seqK fun K2 h2 => ?_
  refine W_reg ?_
  simp [go_sem, ty125, ty165, ha, hb, hx, hy, hbo, hai, hse, hre]
  first | refine h2 _ ?_ | refine ⟨by omega, h2 _ ?_⟩ | refine ⟨by omega, by omega, h2 _ ?_⟩ | (repeat (refine ⟨by first | omega | grind, ?_⟩)); refine h2 _ ?_
  clear h2 K2
  refine W_seqK fun K3 h3 => ?_
  refine W_reg ?_
  simp [go_sem, ty3, ty44, ty47, ty58, ty61, ty127, ha, hb, hx, hy, hbo, hai, hse, hre]
  first | refine h3 _ ?_ | refine ⟨by omega, h3 _ ?_⟩ | refine ⟨by omega, by omega, h3 _ ?_⟩ | (repeat (refine ⟨by first | omega | grind, ?_⟩)); refine h3 _ ?_
  clear h3 K3
  refine W_seqK fun K4 h4 => ?_
  refine W_reg ?_
  simp [go_sem, ty3, ty45, ty47, ty58, ty61, ty129, ha, hb, hx, hy, hbo, hai, hse, hre]
  first | refine h4 _ ?_ | refine ⟨by omega, h4 _ ?_⟩ | refine ⟨by omega, by omega, h4 _ ?_⟩ | (repeat (refine ⟨by first | omega | grind, ?_⟩)); refine h4 _ ?_
  clear h4 K4
  refine W_seqK fun K5 h5 => ?_
  refine W_seqK fun K6 h6 => ?_
  refine W_reg ?_
  simp [go_sem, ty3, ha, hb, hx, hy, hbo, hai, hse, hre]
  first | refine h6 _ ?_ | refine ⟨by omega, h6 _ ?_⟩ | refine ⟨by omega, by omega, h6 _ ?_⟩ | (repeat (refine ⟨by first | omega | grind, ?_⟩)); refine h6 _ ?_
  clear h6 K6
  refine W_block ?_
  refine W_loopI (α := Nat) (fun i => ({ env := [(7, true, .l (.ref 40 [] 4 0 ((comN s.queue s.base r.got i).length))), (8, true, .l (.ptr 7 0)), (9, true, .l (.t (.int .i64 (r.got)))), (10, true, .l (.t (.int .i64 (i))))], box := [(7, [.t (.int .i64 s.base), .ref 1 [(a, 3), (b, 1)] 4 0 s.queue.length])], row := [(40, ⟨.own, 4, enc eMsg (comN s.queue s.base r.got i)⟩), (1, ⟨.ro, 5, enc eNode w.nodes⟩)], nxt := 60, sav := [] } : St)) (fun i => i ≤ s.queue.length) (fun i => s.queue.length - i) 0 ?_ ?_ ?_
  · exact (Sub.nilRow (t := 7) (nm := 40) (z := 4) (by rfl) (by rfl)).trans (Sub.of_neat [7, 8, 9, 10] [40, 1] [7] 60 (by decide) (by simp [go_sem, comN, enc_nil, ha, hb, hx, hy, hbo, hai, hse, hre]))
  · exact Nat.zero_le _
  rintro i hinv
  have hcl := comN_len s.queue s.base r.got i
  refine W_seqK fun K8 h8 => ?_
  refine W_seqK fun K9 h9 => ?_
  refine W_reg ?_
  simp [go_sem, ty3, ty4, ty125, ty127, ty165, ha, hb, hx, hy, hbo, hai, hse, hre]
  first | refine h9 _ ?_ | refine ⟨by omega, h9 _ ?_⟩ | refine ⟨by omega, by omega, h9 _ ?_⟩ | (repeat (refine ⟨by first | omega | grind, ?_⟩)); refine h9 _ ?_
  clear h9 K9
  refine W_cond rfl (fun hb10 => ?_) fun hb10 => ?_
  · have hlt : i < s.queue.length := by simpa using hb10
    have hml := msgOk_len (sm i hlt)
    have hwb : IntKind.wrap .i64 (s.base + (i : Int)) = s.base + (i : Int) := wrap_ok (by omega) (by omega)
    clear hb10
    refine W_skip ?_
    first | refine h8 _ ?_ | refine ⟨by omega, h8 _ ?_⟩ | refine ⟨by omega, by omega, h8 _ ?_⟩ | (repeat (refine ⟨by first | omega | grind, ?_⟩)); refine h8 _ ?_
    clear h8 K8
    refine W_seqK fun K11 h11 => ?_
    refine W_block ?_
    refine W_seqK fun K12 h12 => ?_
    refine W_reg ?_
    simp [go_sem, ty3, ty4, ty127, ha, hb, hx, hy, hbo, hai, hse, hre, hlt, hwb]
    first | refine h12 _ ?_ | refine ⟨by omega, h12 _ ?_⟩ | refine ⟨by omega, by omega, h12 _ ?_⟩ | (repeat (refine ⟨by first | omega | grind, ?_⟩)); refine h12 _ ?_
    clear h12 K12
    refine W_cond rfl (fun hb13 => ?_) fun hb13 => ?_
    · have hst := comN_yes hlt (by simpa using hb13)
      clear hb13
      refine W_reg ?_
      simp [go_sem, ty3, ty125, ty127, ty165, ha, hb, hx, hy, hbo, hai, hse, hre, hlt, hwb]
      refine callG_pc (fun hG => pc_spec_l1Msg s.queue[i] (by omega)) (by first | (simp; done) | (simp [inR_iff]; done) | (simp [inR_iff]; grind) | grind) (fun hG => by simp [go_sem, hlt, ha, hb, hx, hy, hbo, hai, hse, hre, hlt, hwb]) rfl rfl (by first | exact Or.inl rfl | exact Or.inr rfl) ?_
      simp [go_sem, ty125, ty165, ha, hb, hx, hy, hbo, hai, hse, hre, hlt, hwb]
      first | refine h11 _ ?_ | refine ⟨by omega, h11 _ ?_⟩ | refine ⟨by omega, by omega, h11 _ ?_⟩ | (repeat (refine ⟨by first | omega | grind, ?_⟩)); refine h11 _ ?_
      clear h11 K11
      refine W_reg ?_
      simp [go_sem, ty3, ha, hb, hx, hy, hbo, hai, hse, hre, hlt, hwb]
      refine ⟨i + 1, ?_, ?_, ?_⟩
      · exact (Sub.swp_row 65 40 rfl).trans (Sub.of_neat [7, 8, 9, 10] [40, 1] [7] 60 (by decide) (by simp [go_sem, hst, wrap_succ (show i < 9223372036854775807 by omega), ha, hb, hx, hy, hbo, hai, hse, hre]))
      · exact hlt
      · omega
    · have hst := comN_no hlt (by simpa using hb13)
      clear hb13
      refine W_skip ?_
      first | refine h11 _ ?_ | refine ⟨by omega, h11 _ ?_⟩ | refine ⟨by omega, by omega, h11 _ ?_⟩ | (repeat (refine ⟨by first | omega | grind, ?_⟩)); refine h11 _ ?_
      clear h11 K11
      refine W_reg ?_
      simp [go_sem, ty3, ha, hb, hx, hy, hbo, hai, hse, hre, hlt, hwb]
      refine ⟨i + 1, ?_, ?_, ?_⟩
      · exact Sub.of_neat [7, 8, 9, 10] [40, 1] [7] 60 (by decide) (by simp [go_sem, hst, wrap_succ (show i < 9223372036854775807 by omega), ha, hb, hx, hy, hbo, hai, hse, hre])
      · exact hlt
      · omega
  · obtain rfl : i = s.queue.length := by simp at hb10; omega
    clear hb10
    refine W_exit ?_
    simp [go_sem]
    first | refine h5 _ ?_ | refine ⟨by omega, h5 _ ?_⟩ | refine ⟨by omega, by omega, h5 _ ?_⟩ | (repeat (refine ⟨by first | omega | grind, ?_⟩)); refine h5 _ ?_
    clear h8 K8 h5 K5
    refine W_seqK fun K14 h14 => ?_
    refine W_reg ?_
    simp [go_sem, ty125, ty165, ha, hb, hx, hy, hbo, hai, hse, hre]
    first | refine h14 _ ?_ | refine ⟨by omega, h14 _ ?_⟩ | refine ⟨by omega, by omega, h14 _ ?_⟩ | (repeat (refine ⟨by first | omega | grind, ?_⟩)); refine h14 _ ?_
    clear h14 K14
    refine W_ret ?_
    simp [go_sem, q]

set_option maxRecDepth 100000 in
set_option maxHeartbeats 4000000 in
theorem pc_impl_coming (w : GWorld) (a b : Nat) (hw : worldOk w = true) (hs : w.small) (ha : a < w.nodes.length) (hb : b < w.nodes.length) : PC Tryz.prog 154 [(true, eWorld w), (false, [.int .i64 (a : Int)]), (false, [.int .i64 (b : Int)])] [(false, [.sl 4 (enc eMsg (comingOf w a b))])] := by
  obtain ⟨hd, hn⟩ := worldOk_facts hw
  obtain ⟨⟨n1, n2⟩, n3, -⟩ := worldHd_facts hd
  obtain ⟨x, hx⟩ : ∃ x, w.nodes[a] = x := ⟨_, rfl⟩
  obtain ⟨y, hy⟩ : ∃ y, w.nodes[b] = y := ⟨_, rfl⟩
  have hxa := (world_node hw ha).1
  have hyb := (world_node hw hb).1
  rw [hx] at hxa
  rw [hy] at hyb
  obtain ⟨-, -, xo, -, -, -, xs9, -⟩ := nodeOk_facts hxa
  obtain ⟨-, -, -, yi, -, -, -, yg⟩ := nodeOk_facts hyb
  have hbo : b < x.out.length := by omega
  have hai : a < y.in_.length := by omega
  obtain ⟨s, hse⟩ : ∃ s, x.out[b] = s := ⟨_, rfl⟩
  have hso := xs9 b hbo
  rw [hse] at hso
  obtain ⟨sb, sq, sm⟩ := senderOk_facts hso
  obtain ⟨r, hre⟩ : ∃ r, y.in_[a] = r := ⟨_, rfl⟩
  have hgo := yg a hai
  rw [hre] at hgo
  unfold gotOk at hgo
  have q : comingOf w a b = comN s.queue s.base r.got s.queue.length := comingOf_at (x := x) (y := y) (s := s) (r := r) (by simp [ha, hx]) (by simp [hb, hy]) (by simp [hbo, hse]) (by simp [hai, hre])
  refine PC_of (n := 51) Tryz.func154 rfl rfl rfl rfl (by simp) ?_
  refine W_seqK fun K1 h1 => ?_
  refine W_reg ?_
  simp [go_sem, ty61, ty125, ty165, ha, hb, hx, hy, hbo, hai, hse, hre]
  first | refine h1 _ ?_ | refine ⟨by omega, h1 _ ?_⟩ | refine ⟨by omega, by omega, h1 _ ?_⟩ | (repeat (refine ⟨by first | omega | grind, ?_⟩)); refine h1 _ ?_
  clear h1 K1
  refine W_seqK fun K2 h2 => ?_
  refine W_reg ?_
  simp [go_sem, ty3, ty44, ty47, ty58, ty61, ty127, ha, hb, hx, hy, hbo, hai, hse, hre]
  first | refine h2 _ ?_ | refine ⟨by omega, h2 _ ?_⟩ | refine ⟨by omega, by omega, h2 _ ?_⟩ | (repeat (refine ⟨by first | omega | grind, ?_⟩)); refine h2 _ ?_
  clear h2 K2
  refine W_seqK fun K3 h3 => ?_
  refine W_reg ?_
  simp [go_sem, ty125, ty165, ha, hb, hx, hy, hbo, hai, hse, hre]
  first | refine h3 _ ?_ | refine ⟨by omega, h3 _ ?_⟩ | refine ⟨by omega, by omega, h3 _ ?_⟩ | (repeat (refine ⟨by first | omega | grind, ?_⟩)); refine h3 _ ?_
  clear h3 K3
  refine W_seqK fun K4 h4 => ?_
  refine W_seqK fun K5 h5 => ?_
  refine W_reg ?_
  simp [go_sem, ty3, ty125, ty127, ty165, ha, hb, hx, hy, hbo, hai, hse, hre]
  first | refine h5 _ ?_ | refine ⟨by omega, h5 _ ?_⟩ | refine ⟨by omega, by omega, h5 _ ?_⟩ | (repeat (refine ⟨by first | omega | grind, ?_⟩)); refine h5 _ ?_
  clear h5 K5
  refine W_block ?_
  refine W_loopI (α := Nat) (fun i => ({ env := [(2, true, .l (.t (.int .i64 ((b : Int))))), (1, true, .l (.t (.int .i64 ((a : Int))))), (3, true, .l (.ptr 5 0)), (7, true, .l (.ptr 6 0)), (8, true, .l (.ref 40 [] 4 0 ((comN s.queue s.base r.got i).length))), (22, true, .l (.ref 1 [(a, 3), (b, 1)] 4 0 s.queue.length)), (23, true, .l (.t (.int .i64 (s.queue.length)))), (24, true, .l (.t (.int .i64 (i))))], box := [(6, [.t (.int .i64 s.base), .ref 1 [(a, 3), (b, 1)] 4 0 s.queue.length]), (5, [.t (.int .i64 w.size), .ref 1 [] 5 0 w.nodes.length, .undef])], row := [(40, ⟨.own, 4, enc eMsg (comN s.queue s.base r.got i)⟩), (1, ⟨.ro, 5, enc eNode w.nodes⟩)], nxt := 60, sav := [] } : St)) (fun i => i ≤ s.queue.length) (fun i => s.queue.length - i) 0 ?_ ?_ ?_
  · exact (Sub.nilRow (t := 8) (nm := 40) (z := 4) (by rfl) (by rfl)).trans (Sub.of_neat [2, 1, 3, 7, 8, 22, 23, 24] [40, 1] [6, 5] 60 (by decide) (by simp [go_sem, comN, enc_nil, ha, hb, hx, hy, hbo, hai, hse, hre]))
  · exact Nat.zero_le _
  rintro i hinv
  have hcl := comN_len s.queue s.base r.got i
  refine W_seqK fun K7 h7 => ?_
  refine W_reg ?_
  simp [go_sem, ty3, ha, hb, hx, hy, hbo, hai, hse, hre]
  first | refine h7 _ ?_ | refine ⟨by omega, h7 _ ?_⟩ | refine ⟨by omega, by omega, h7 _ ?_⟩ | (repeat (refine ⟨by first | omega | grind, ?_⟩)); refine h7 _ ?_
  clear h7 K7
  refine W_seqK fun K8 h8 => ?_
  refine W_cond rfl (fun hb9 => ?_) fun hb9 => ?_
  · have hlt : i < s.queue.length := by simpa using hb9
    have hml := msgOk_len (sm i hlt)
    have hwb : IntKind.wrap .i64 (s.base + (i : Int)) = s.base + (i : Int) := wrap_ok (by omega) (by omega)
    clear hb9
    refine W_skip ?_
    first | refine h8 _ ?_ | refine ⟨by omega, h8 _ ?_⟩ | refine ⟨by omega, by omega, h8 _ ?_⟩ | (repeat (refine ⟨by first | omega | grind, ?_⟩)); refine h8 _ ?_
    clear h8 K8
    refine W_seqK fun K10 h10 => ?_
    refine W_block ?_
    refine W_seqK fun K11 h11 => ?_
    refine W_reg ?_
    simp [go_sem, ty3, ty125, ty165, ha, hb, hx, hy, hbo, hai, hse, hre, hlt, hwb]
    first | refine h11 _ ?_ | refine ⟨by omega, h11 _ ?_⟩ | refine ⟨by omega, by omega, h11 _ ?_⟩ | (repeat (refine ⟨by first | omega | grind, ?_⟩)); refine h11 _ ?_
    clear h11 K11
    refine W_seqK fun K12 h12 => ?_
    refine W_drawT true mixed (by decide +kernel) ?_
    simp [go_sem, ty3, ty4, ty45, ty47, ty58, ty61, ty127, ty129, ha, hb, hx, hy, hbo, hai, hse, hre, hlt, hwb]
    first | refine h12 _ ?_ | refine ⟨by omega, h12 _ ?_⟩ | refine ⟨by omega, by omega, h12 _ ?_⟩ | (repeat (refine ⟨by first | omega | grind, ?_⟩)); refine h12 _ ?_
    clear h12 K12
    refine W_cond rfl (fun hb13 => ?_) fun hb13 => ?_
    · have hst := comN_yes hlt (by simpa using hb13)
      clear hb13
      refine W_reg ?_
      simp [go_sem, ty125, ty165, ha, hb, hx, hy, hbo, hai, hse, hre, hlt, hwb]
      refine callG_pc (fun hG => pc_impl_copyMsg s.queue[i] (by omega)) (by first | (simp; done) | (simp [inR_iff]; done) | (simp [inR_iff]; grind) | grind) (fun hG => by simp [go_sem, hlt, ha, hb, hx, hy, hbo, hai, hse, hre, hlt, hwb]) rfl rfl (by first | exact Or.inl rfl | exact Or.inr rfl) ?_
      simp [go_sem, ty125, ty165, ha, hb, hx, hy, hbo, hai, hse, hre, hlt, hwb]
      first | refine h10 _ ?_ | refine ⟨by omega, h10 _ ?_⟩ | refine ⟨by omega, by omega, h10 _ ?_⟩ | (repeat (refine ⟨by first | omega | grind, ?_⟩)); refine h10 _ ?_
      clear h10 K10
      refine W_reg ?_
      simp [go_sem, ty3, ha, hb, hx, hy, hbo, hai, hse, hre, hlt, hwb]
      refine ⟨i + 1, ?_, ?_, ?_⟩
      · exact (Sub.swp_row 67 40 rfl).trans (Sub.of_neat [2, 1, 3, 7, 8, 22, 23, 24] [40, 1] [6, 5] 60 (by decide) (by simp [go_sem, hst, wrap_succ (show i < 9223372036854775807 by omega), ha, hb, hx, hy, hbo, hai, hse, hre]))
      · exact hlt
      · omega
    · have hst := comN_no hlt (by simpa using hb13)
      clear hb13
      refine W_skip ?_
      first | refine h10 _ ?_ | refine ⟨by omega, h10 _ ?_⟩ | refine ⟨by omega, by omega, h10 _ ?_⟩ | (repeat (refine ⟨by first | omega | grind, ?_⟩)); refine h10 _ ?_
      clear h10 K10
      refine W_reg ?_
      simp [go_sem, ty3, ha, hb, hx, hy, hbo, hai, hse, hre, hlt, hwb]
      refine ⟨i + 1, ?_, ?_, ?_⟩
      · exact Sub.of_neat [2, 1, 3, 7, 8, 22, 23, 24] [40, 1] [6, 5] 60 (by decide) (by simp [go_sem, hst, wrap_succ (show i < 9223372036854775807 by omega), ha, hb, hx, hy, hbo, hai, hse, hre])
      · exact hlt
      · omega
  · obtain rfl : i = s.queue.length := by simp at hb9; omega
    clear hb9
    refine W_exit ?_
    simp [go_sem]
    first | refine h4 _ ?_ | refine ⟨by omega, h4 _ ?_⟩ | refine ⟨by omega, by omega, h4 _ ?_⟩ | (repeat (refine ⟨by first | omega | grind, ?_⟩)); refine h4 _ ?_
    clear h8 K8 h4 K4
    refine W_seqK fun K14 h14 => ?_
    refine W_reg ?_
    simp [go_sem, ty125, ty165, ha, hb, hx, hy, hbo, hai, hse, hre]
    first | refine h14 _ ?_ | refine ⟨by omega, h14 _ ?_⟩ | refine ⟨by omega, by omega, h14 _ ?_⟩ | (repeat (refine ⟨by first | omega | grind, ?_⟩)); refine h14 _ ?_
    clear h14 K14
    refine W_ret ?_
    simp [go_sem, q]

set_option maxRecDepth 100000 in
set_option maxHeartbeats 4000000 in
theorem pc_spec_l7Last (list : List GMsg) (kind : Int) (page : Int) (hx : list.length ≤ 1048576) (hq : ∀ m ∈ list, m.list.length ≤ 1048576) : PC Tryz.prog 147 [(false, [.sl 4 (enc eMsg list)]), (false, [.int .i64 kind]), (false, [.int .i64 page])] [(false, [.sl 1 (enc eI (lastL (lastP kind page) list))])] := by
  refine PC_of (n := 44) Tryz.func147 rfl rfl rfl rfl (by simp) ?_
  refine W_seqK fun K1 h1 => ?_
  refine W_reg ?_
  simp [go_sem, ty3, ty22]
  first | refine h1 _ ?_ | refine ⟨by omega, h1 _ ?_⟩ | refine ⟨by omega, by omega, h1 _ ?_⟩ | (repeat (refine ⟨by first | omega | grind, ?_⟩)); refine h1 _ ?_
  clear h1 K1
  refine W_seqK fun K2 h2 => ?_
  refine W_reg ?_
  simp [go_sem, ty3, ty22]
  first | refine h2 _ ?_ | refine ⟨by omega, h2 _ ?_⟩ | refine ⟨by omega, by omega, h2 _ ?_⟩ | (repeat (refine ⟨by first | omega | grind, ?_⟩)); refine h2 _ ?_
  clear h2 K2
  refine W_seqK fun K3 h3 => ?_
  refine W_seqK fun K4 h4 => ?_
  refine W_reg ?_
  simp [go_sem, ty3]
  first | refine h4 _ ?_ | refine ⟨by omega, h4 _ ?_⟩ | refine ⟨by omega, by omega, h4 _ ?_⟩ | (repeat (refine ⟨by first | omega | grind, ?_⟩)); refine h4 _ ?_
  clear h4 K4
  refine W_block ?_
  refine W_loopI (α := Nat) (fun i => ({ env := [(0, true, .l (.ref 0 [] 4 0 (list.length))), (1, true, .l (.t (.int .i64 (kind)))), (2, true, .l (.t (.int .i64 (page)))), (7, true, .l (.ref 40 [] 1 0 ((lastL (lastP kind page) (list.take i)).length))), (8, true, .l (.t (.int .i64 (i))))], box := [], row := [(40, ⟨.own, 1, enc eI (lastL (lastP kind page) (list.take i))⟩), (0, ⟨.ro, 4, enc eMsg list⟩)], nxt := 60, sav := [] } : St)) (fun i => i ≤ list.length) (fun i => list.length - i) 0 ?_ ?_ ?_
  · exact (Sub.nilRow (t := 7) (nm := 40) (z := 1) (by rfl) (by rfl)).trans (Sub.of_neat [0, 1, 2, 7, 8] [40, 0] [] 60 (by decide) (by simp [go_sem, lastL_nil, enc_nil]))
  · exact Nat.zero_le _
  rintro i hinv
  refine W_seqK fun K6 h6 => ?_
  refine W_seqK fun K7 h7 => ?_
  refine W_reg ?_
  simp [go_sem, ty3, ty4, ty125, ty165]
  first | refine h7 _ ?_ | refine ⟨by omega, h7 _ ?_⟩ | refine ⟨by omega, by omega, h7 _ ?_⟩ | (repeat (refine ⟨by first | omega | grind, ?_⟩)); refine h7 _ ?_
  clear h7 K7
  refine W_cond rfl (fun hb8 => ?_) fun hb8 => ?_
  · have hlt : i < list.length := by simpa using hb8
    have hml := hq _ (List.getElem_mem hlt)
    clear hb8
    refine W_skip ?_
    first | refine h6 _ ?_ | refine ⟨by omega, h6 _ ?_⟩ | refine ⟨by omega, by omega, h6 _ ?_⟩ | (repeat (refine ⟨by first | omega | grind, ?_⟩)); refine h6 _ ?_
    clear h6 K6
    refine W_seqK fun K9 h9 => ?_
    refine W_block ?_
    refine W_seqK fun K10 h10 => ?_
    refine W_reg ?_
    simp [go_sem, ty3, ty125, ty165, hlt]
    first | refine h10 _ ?_ | refine ⟨by omega, h10 _ ?_⟩ | refine ⟨by omega, by omega, h10 _ ?_⟩ | (repeat (refine ⟨by first | omega | grind, ?_⟩)); refine h10 _ ?_
    clear h10 K10
    refine W_seqK fun K11 h11 => ?_
    refine W_reg ?_
    simp [go_sem, ty3, ty4, ty165, hlt]
    first | refine h11 _ ?_ | refine ⟨by omega, h11 _ ?_⟩ | refine ⟨by omega, by omega, h11 _ ?_⟩ | (repeat (refine ⟨by first | omega | grind, ?_⟩)); refine h11 _ ?_
    clear h11 K11
    refine W_cond rfl (fun hb12 => ?_) fun hb12 => ?_
    · have hst := lastL_yes (p := lastP kind page) hlt (by unfold lastP; simp [hlt] at hb12 ⊢; grind)
      clear hb12
      refine W_reg ?_
      simp [go_sem, ty3, ty22, ty165, hlt]
      first | refine h9 _ ?_ | refine ⟨by omega, h9 _ ?_⟩ | refine ⟨by omega, by omega, h9 _ ?_⟩ | (repeat (refine ⟨by first | omega | grind, ?_⟩)); refine h9 _ ?_
      clear h9 K9
      refine W_reg ?_
      simp [go_sem, ty3, hlt]
      refine ⟨i + 1, ?_, ?_, ?_⟩
      · exact (Sub.swp_row 63 40 rfl).trans (Sub.of_neat [0, 1, 2, 7, 8] [40, 0] [] 60 (by decide) (by simp [go_sem, hst, wrap_succ (show i < 9223372036854775807 by omega)]))
      · exact hlt
      · omega
    · have hst := lastL_no (p := lastP kind page) hlt (by unfold lastP; simp [hlt] at hb12 ⊢; grind)
      clear hb12
      refine W_skip ?_
      first | refine h9 _ ?_ | refine ⟨by omega, h9 _ ?_⟩ | refine ⟨by omega, by omega, h9 _ ?_⟩ | (repeat (refine ⟨by first | omega | grind, ?_⟩)); refine h9 _ ?_
      clear h9 K9
      refine W_reg ?_
      simp [go_sem, ty3, hlt]
      refine ⟨i + 1, ?_, ?_, ?_⟩
      · exact Sub.of_neat [0, 1, 2, 7, 8] [40, 0] [] 60 (by decide) (by simp [go_sem, hst, wrap_succ (show i < 9223372036854775807 by omega)])
      · exact hlt
      · omega
  · obtain rfl : i = list.length := by simp at hb8; omega
    clear hb8
    have hfu : list.take list.length = list := List.take_length
    refine W_exit ?_
    simp [go_sem]
    first | refine h3 _ ?_ | refine ⟨by omega, h3 _ ?_⟩ | refine ⟨by omega, by omega, h3 _ ?_⟩ | (repeat (refine ⟨by first | omega | grind, ?_⟩)); refine h3 _ ?_
    clear h6 K6 h3 K3
    refine W_seqK fun K13 h13 => ?_
    refine W_reg ?_
    simp [go_sem, ty3, ty22]
    first | refine h13 _ ?_ | refine ⟨by omega, h13 _ ?_⟩ | refine ⟨by omega, by omega, h13 _ ?_⟩ | (repeat (refine ⟨by first | omega | grind, ?_⟩)); refine h13 _ ?_
    clear h13 K13
    refine W_ret ?_
    simp [go_sem, hfu]

set_option maxRecDepth 100000 in
set_option maxHeartbeats 4000000 in
theorem mc_slices_Reverse_impl_Msg_impl_Msg (xs : List GMsg) (hx : xs.length ≤ 1048576) : MC1 Tryz.prog 155 4 (enc eMsg xs) (enc eMsg xs.reverse) [] [] := by
  have hw0 : IntKind.wrap .i64 ((xs.length : Int) - 1) = (xs.length : Int) - 1 := wrap_ok (by omega) (by omega)
  refine MC1_of (n := 28) Tryz.func155 rfl rfl rfl rfl (by simp) fun a0 => ?_
  refine W_seqK fun K1 h1 => ?_
  refine W_reg ?_
  simp [go_sem, ty3, ty125, ty165, hw0]
  first | refine h1 _ ?_ | refine ⟨by omega, h1 _ ?_⟩ | refine ⟨by omega, by omega, h1 _ ?_⟩ | (repeat (refine ⟨by first | omega | grind, ?_⟩)); refine h1 _ ?_
  clear h1 K1
  refine W_block ?_
  refine W_loopI (α := Nat × List GMsg) (fun p => { env := [(0, true, .l (.ref 0 [] 4 0 xs.length)), (2, true, .l (.t (.int .i64 p.1))), (3, true, .l (.t (.int .i64 ((xs.length : Int) - 1 - p.1))))], box := [], row := [(0, ⟨.own, 4, enc eMsg p.2⟩)], nxt := 1, sav := [([(0, true, .l (.ref 0 [] 4 0 xs.length))], a0)] }) (fun p => p.1 ≤ xs.length ∧ RevTo xs p.2 p.1) (fun p => xs.length - p.1) (0, xs) ?_ ?_ ?_
  · exact Sub.of_to [0, 2, 3] 1 (by decide) (by simp [go_sem])
  · exact ⟨Nat.zero_le _, RevTo.start xs⟩
  rintro p hinv
  obtain ⟨hi, hr⟩ := hinv
  have hrl := hr.1
  refine W_seqK fun K3 h3 => ?_
  refine W_seqK fun K4 h4 => ?_
  refine W_reg ?_
  simp [go_sem, ty3, ty4, hw0]
  first | refine h4 _ ?_ | refine ⟨by omega, h4 _ ?_⟩ | refine ⟨by omega, by omega, h4 _ ?_⟩ | (repeat (refine ⟨by first | omega | grind, ?_⟩)); refine h4 _ ?_
  clear h4 K4
  refine W_cond rfl (fun hb5 => ?_) fun hb5 => ?_
  · have hlt : (p.1 : Int) < (xs.length : Int) - 1 - p.1 := by simpa using hb5
    have hl1 : p.1 < p.2.length := by have h9 := hr.1; omega
    have hl2 : xs.length - 1 - p.1 < p.2.length := by have h9 := hr.1; omega
    obtain ⟨j, hj⟩ : ∃ j, j = xs.length - 1 - p.1 := ⟨_, rfl⟩
    have hji : (xs.length : Int) - 1 - (p.1 : Int) = (j : Int) := by omega
    have hl3 : j < p.2.length := by omega
    have hne : ¬ p.1 = j := by omega
    have hne2 : ¬ j = p.1 := by omega
    have hl4 : p.1 < xs.length := by omega
    have hl5 : j < xs.length := by omega
    have hst := hr.step (by omega) hl1 hl2
    have hwj : IntKind.wrap .i64 ((j : Int) - 1) = (xs.length : Int) - 1 - ((p.1 : Int) + 1) := by rw [wrap_ok (by omega) (by omega)]; omega
    clear hb5
    refine W_skip ?_
    first | refine h3 _ ?_ | refine ⟨by omega, h3 _ ?_⟩ | refine ⟨by omega, by omega, h3 _ ?_⟩ | (repeat (refine ⟨by first | omega | grind, ?_⟩)); refine h3 _ ?_
    clear h3 K3
    refine W_seqK fun K6 h6 => ?_
    refine W_block ?_
    refine W_drawS true (.op 0 (.op 1 (.op 2 (.op 3 (.op 4 (.op 5 (.op 6 (.op 7 (.op 8 (.op 9 (.op 10 (.op 11 (.sub (.sub (.op 12 (.op 13 (.op 14 (.op 15 .nil)))))))))))))))))) mixed (by decide +kernel) rfl ?_
    simp [go_sem, ty3, ty125, ty165, hw0, hji, hl1, hl3, hl4, hl5, hne, hne2]
    refine ⟨_, Sub.unpack (r := 0) (q := [(j, 3)]) (nm := 91) (z := 1) (es := enc eI p.2[j].list) (row := ⟨.own, 4, enc eMsg p.2⟩) (by rfl) rfl (by simp [go_sem, hl1, hl3, hne, hne2]) (by simp) (by rfl), ?_⟩
    simp [go_sem, hw0, hji, hl1, hl3, hl4, hl5, hne, hne2]
    refine ⟨_, Sub.unpack (r := 0) (q := [(p.1, 3)]) (nm := 92) (z := 1) (es := enc eI p.2[p.1].list) (row := ⟨.own, 4, (enc eMsg p.2).set j [.int .i64 p.2[j].kind, .int .i64 p.2[j].page, .bool p.2[j].own, .hole]⟩) (by rfl) rfl (by simp [go_sem, hl1, hl3, hne, hne2]) (by simp) (by rfl), ?_⟩
    simp [go_sem, ty125, ty165, hw0, hji, hl1, hl3, hl4, hl5, hne, hne2]
    first | refine h6 _ ?_ | refine ⟨by omega, h6 _ ?_⟩ | refine ⟨by omega, by omega, h6 _ ?_⟩ | (repeat (refine ⟨by first | omega | grind, ?_⟩)); refine h6 _ ?_
    clear h6 K6
    refine W_reg ?_
    simp [go_sem, ty3, hw0, hji, hl1, hl3, hl4, hl5, hne, hne2]
    refine ⟨p.1 + 1, (p.2.set p.1 p.2[xs.length - 1 - p.1]).set (xs.length - 1 - p.1) p.2[p.1], ?_, ?_, ?_⟩
    · exact Sub.of_to [0, 2, 3] 1 (by decide) (by simp [go_sem, hji, hwj, ← hj, set3, wrap_succ (show p.1 < 9223372036854775807 by omega)])
    · exact ⟨hl4, hst⟩
    · first | omega | (simp; omega)
  · have hfin : p.2 = xs.reverse := hr.fin (by simp at hb5; omega) hi
    clear hb5
    refine W_exit ?_
    simp [go_sem]
    simp [go_sem, hfin]
end Go.Tw
