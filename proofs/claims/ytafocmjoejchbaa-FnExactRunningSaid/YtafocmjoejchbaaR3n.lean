/- Walks of functions: spec.l1Bit, spec.Running, impl.Running, laws.FnExactRunning -/
import Derived.Test.YtafocmjoejchbaaR3m
import Derived.Test.YtafocmjoejchbaaR3c
import Derived.Test.YtafocmjoejchbaaBaseD
set_option linter.unusedSimpArgs false
set_option linter.unusedVariables false
namespace Go.Tw
open Go.Proofs

set_option maxRecDepth 100000 in
set_option maxHeartbeats 4000000 in
theorem pc_spec_l1Bit (b : Bool)  : PC Try.prog 114 [(false, [.bool b])] [(false, [.int .i64 (if b = true then 1 else 0)])] := by
  refine PC_of (n := 4) Try.func114 rfl rfl rfl rfl (by simp) ?_
  refine W_seqK fun K1 h1 => ?_
  refine W_reg ?_
  simp [go_sem, ty3]
  first | refine h1 _ ?_ | refine ⟨by omega, h1 _ ?_⟩ | refine ⟨by omega, by omega, h1 _ ?_⟩ | (repeat (refine ⟨by first | omega | grind, ?_⟩)); refine h1 _ ?_
  clear h1 K1
  refine W_seqK fun K2 h2 => ?_
  refine W_seqK fun K3 h3 => ?_
  refine W_reg ?_
  simp [go_sem, ty4]
  first | refine h3 _ ?_ | refine ⟨by omega, h3 _ ?_⟩ | refine ⟨by omega, by omega, h3 _ ?_⟩ | (repeat (refine ⟨by first | omega | grind, ?_⟩)); refine h3 _ ?_
  clear h3 K3
  refine W_cond rfl (fun hb4 => ?_) fun hb4 => ?_
  · have q : b = true := by simpa using hb4
    refine W_seqK fun K5 h5 => ?_
    refine W_reg ?_
    simp [go_sem, ty3]
    first | refine h5 _ ?_ | refine ⟨by omega, h5 _ ?_⟩ | refine ⟨by omega, by omega, h5 _ ?_⟩ | (repeat (refine ⟨by first | omega | grind, ?_⟩)); refine h5 _ ?_
    clear h5 K5
    refine W_ret ?_
    subst q; simp [go_sem]
  · have q : b = false := by simpa using hb4
    refine W_skip ?_
    first | refine h2 _ ?_ | refine ⟨by omega, h2 _ ?_⟩ | refine ⟨by omega, by omega, h2 _ ?_⟩ | (repeat (refine ⟨by first | omega | grind, ?_⟩)); refine h2 _ ?_
    clear h2 K2
    refine W_seqK fun K6 h6 => ?_
    refine W_reg ?_
    simp [go_sem, ty3]
    first | refine h6 _ ?_ | refine ⟨by omega, h6 _ ?_⟩ | refine ⟨by omega, by omega, h6 _ ?_⟩ | (repeat (refine ⟨by first | omega | grind, ?_⟩)); refine h6 _ ?_
    clear h6 K6
    refine W_ret ?_
    subst q; simp [go_sem]

set_option maxRecDepth 100000 in
set_option maxHeartbeats 4000000 in
theorem pc_spec_Running (f : GFlock) (hx : f.cores.length ≤ 1048576) : PC Try.prog 59 [(true, eFlock f)] [(false, [.int .i64 (runs f.cores f.cores.length : Int)])] := by
  refine PC_of (n := 24) Try.func59 rfl rfl rfl rfl (by simp) ?_
  refine W_seqK fun K1 h1 => ?_
  refine W_reg ?_
  simp [go_sem, ty3, ty108]
  first | refine h1 _ ?_ | refine ⟨by omega, h1 _ ?_⟩ | refine ⟨by omega, by omega, h1 _ ?_⟩ | (repeat (refine ⟨by first | omega | grind, ?_⟩)); refine h1 _ ?_
  clear h1 K1
  refine W_seqK fun K2 h2 => ?_
  refine W_reg ?_
  simp [go_sem, ty3]
  first | refine h2 _ ?_ | refine ⟨by omega, h2 _ ?_⟩ | refine ⟨by omega, by omega, h2 _ ?_⟩ | (repeat (refine ⟨by first | omega | grind, ?_⟩)); refine h2 _ ?_
  clear h2 K2
  refine W_seqK fun K3 h3 => ?_
  refine W_seqK fun K4 h4 => ?_
  refine W_reg ?_
  simp [go_sem, ty3]
  first | refine h4 _ ?_ | refine ⟨by omega, h4 _ ?_⟩ | refine ⟨by omega, by omega, h4 _ ?_⟩ | (repeat (refine ⟨by first | omega | grind, ?_⟩)); refine h4 _ ?_
  clear h4 K4
  refine W_block ?_
  refine W_loopI (α := Nat) (fun i => ({ env := [(1, true, .l (.ptr 4 0)), (3, true, .l (.t (.int .i64 (runs f.cores i)))), (4, true, .l (.t (.int .i64 (i))))], box := [(4, [.t (.int .i64 f.world.size), .ref 1 [] 5 0 f.world.nodes.length, .ref 2 [] 8 0 f.world.net.length, .ref 3 [] 4 0 f.cores.length])], row := [(1, ⟨.ro, 5, enc eNode f.world.nodes⟩), (2, ⟨.ro, 8, enc ePacket f.world.net⟩), (3, ⟨.ro, 4, enc eCore f.cores⟩)], nxt := 9, sav := [] } : St)) (fun i => i ≤ f.cores.length) (fun i => f.cores.length - i) 0 ?_ ?_ ?_
  · exact Sub.of_tidy [1, 3, 4] [1, 2, 3] [4] 9 (by decide) (by simp [go_sem, runs_zero])
  · exact Nat.zero_le _
  rintro i hinv
  refine W_seqK fun K6 h6 => ?_
  refine W_seqK fun K7 h7 => ?_
  refine W_reg ?_
  simp [go_sem, ty3, ty4, ty83, ty106, ty108]
  first | refine h7 _ ?_ | refine ⟨by omega, h7 _ ?_⟩ | refine ⟨by omega, by omega, h7 _ ?_⟩ | (repeat (refine ⟨by first | omega | grind, ?_⟩)); refine h7 _ ?_
  clear h7 K7
  refine W_cond rfl (fun hb8 => ?_) fun hb8 => ?_
  · have hlt : i < f.cores.length := by simpa using hb8
    have hb := runs_bit hlt (by omega)
    clear hb8
    refine W_skip ?_
    first | refine h6 _ ?_ | refine ⟨by omega, h6 _ ?_⟩ | refine ⟨by omega, by omega, h6 _ ?_⟩ | (repeat (refine ⟨by first | omega | grind, ?_⟩)); refine h6 _ ?_
    clear h6 K6
    refine W_seqK fun K9 h9 => ?_
    refine W_block ?_
    refine W_reg ?_
    simp [go_sem, ty3, ty4, ty51, ty83, ty106, ty108, hlt, hb]
    refine callG_pc (fun hG => pc_spec_l1Bit (f.cores[i].hart.state == 0)) (by first | (simp; done) | (simp [inR_iff]; done) | (simp [inR_iff]; grind) | grind) (fun hG => by simp [go_sem]) rfl rfl (by first | exact Or.inl rfl | exact Or.inr rfl) ?_
    simp [go_sem, ty3, hlt, hb]
    first | refine h9 _ ?_ | refine ⟨by omega, h9 _ ?_⟩ | refine ⟨by omega, by omega, h9 _ ?_⟩ | (repeat (refine ⟨by first | omega | grind, ?_⟩)); refine h9 _ ?_
    clear h9 K9
    refine W_reg ?_
    simp [go_sem, ty3]
    refine ⟨i + 1, ?_, ?_, ?_⟩
    · exact Sub.of_tidy [1, 3, 4] [1, 2, 3] [4] 9 (by decide) (by simp [go_sem, wrap_succ (show i < 9223372036854775807 by omega)])
    · exact hlt
    · omega
  · obtain rfl : i = f.cores.length := by simp at hb8; omega
    clear hb8
    refine W_exit ?_
    simp [go_sem]
    first | refine h3 _ ?_ | refine ⟨by omega, h3 _ ?_⟩ | refine ⟨by omega, by omega, h3 _ ?_⟩ | (repeat (refine ⟨by first | omega | grind, ?_⟩)); refine h3 _ ?_
    clear h6 K6 h3 K3
    refine W_seqK fun K10 h10 => ?_
    refine W_reg ?_
    simp [go_sem, ty3]
    first | refine h10 _ ?_ | refine ⟨by omega, h10 _ ?_⟩ | refine ⟨by omega, by omega, h10 _ ?_⟩ | (repeat (refine ⟨by first | omega | grind, ?_⟩)); refine h10 _ ?_
    clear h10 K10
    refine W_ret ?_
    simp [go_sem]

set_option maxRecDepth 100000 in
set_option maxHeartbeats 4000000 in
theorem pc_impl_Running (f : GFlock) (hx : f.cores.length ≤ 1048576) : PC Try.prog 61 [(true, eFlock f)] [(false, [.int .i64 (runs f.cores f.cores.length : Int)])] := by
  refine PC_of (n := 21) Try.func61 rfl rfl rfl rfl (by simp) ?_
  refine W_seqK fun K1 h1 => ?_
  refine W_reg ?_
  simp [go_sem, ty3, ty108]
  first | refine h1 _ ?_ | refine ⟨by omega, h1 _ ?_⟩ | refine ⟨by omega, by omega, h1 _ ?_⟩ | (repeat (refine ⟨by first | omega | grind, ?_⟩)); refine h1 _ ?_
  clear h1 K1
  refine W_seqK fun K2 h2 => ?_
  refine W_reg ?_
  simp [go_sem, ty3]
  first | refine h2 _ ?_ | refine ⟨by omega, h2 _ ?_⟩ | refine ⟨by omega, by omega, h2 _ ?_⟩ | (repeat (refine ⟨by first | omega | grind, ?_⟩)); refine h2 _ ?_
  clear h2 K2
  refine W_seqK fun K3 h3 => ?_
  refine W_seqK fun K4 h4 => ?_
  refine W_reg ?_
  simp [go_sem, ty3, ty83, ty106, ty108]
  first | refine h4 _ ?_ | refine ⟨by omega, h4 _ ?_⟩ | refine ⟨by omega, by omega, h4 _ ?_⟩ | (repeat (refine ⟨by first | omega | grind, ?_⟩)); refine h4 _ ?_
  clear h4 K4
  refine W_block ?_
  refine W_loopI (α := Nat) (fun i => ({ env := [(3, true, .l (.t (.int .i64 (runs f.cores i)))), (7, true, .l (.ref 3 [] 4 0 (f.cores.length))), (8, true, .l (.t (.int .i64 (f.cores.length)))), (9, true, .l (.t (.int .i64 (i))))], box := [(4, [.t (.int .i64 f.world.size), .ref 1 [] 5 0 f.world.nodes.length, .ref 2 [] 8 0 f.world.net.length, .ref 3 [] 4 0 f.cores.length])], row := [(1, ⟨.ro, 5, enc eNode f.world.nodes⟩), (2, ⟨.ro, 8, enc ePacket f.world.net⟩), (3, ⟨.ro, 4, enc eCore f.cores⟩)], nxt := 9, sav := [] } : St)) (fun i => i ≤ f.cores.length) (fun i => f.cores.length - i) 0 ?_ ?_ ?_
  · exact Sub.of_tidy [3, 7, 8, 9] [1, 2, 3] [4] 9 (by decide) (by simp [go_sem, runs_zero])
  · exact Nat.zero_le _
  rintro i hinv
  refine W_seqK fun K6 h6 => ?_
  refine W_reg ?_
  simp [go_sem, ty3]
  first | refine h6 _ ?_ | refine ⟨by omega, h6 _ ?_⟩ | refine ⟨by omega, by omega, h6 _ ?_⟩ | (repeat (refine ⟨by first | omega | grind, ?_⟩)); refine h6 _ ?_
  clear h6 K6
  refine W_seqK fun K7 h7 => ?_
  refine W_cond rfl (fun hb8 => ?_) fun hb8 => ?_
  · have hlt : i < f.cores.length := by simpa using hb8
    have hl := runs_le f.cores i
    clear hb8
    refine W_skip ?_
    first | refine h7 _ ?_ | refine ⟨by omega, h7 _ ?_⟩ | refine ⟨by omega, by omega, h7 _ ?_⟩ | (repeat (refine ⟨by first | omega | grind, ?_⟩)); refine h7 _ ?_
    clear h7 K7
    refine W_seqK fun K9 h9 => ?_
    refine W_block ?_
    refine W_seqK fun K10 h10 => ?_
    refine W_reg ?_
    simp [go_sem, ty83, ty106, hlt]
    first | refine h10 _ ?_ | refine ⟨by omega, h10 _ ?_⟩ | refine ⟨by omega, by omega, h10 _ ?_⟩ | (repeat (refine ⟨by first | omega | grind, ?_⟩)); refine h10 _ ?_
    clear h10 K10
    refine W_seqK fun K11 h11 => ?_
    refine W_reg ?_
    simp [go_sem, ty3, ty4, ty51, ty83, hlt]
    first | refine h11 _ ?_ | refine ⟨by omega, h11 _ ?_⟩ | refine ⟨by omega, by omega, h11 _ ?_⟩ | (repeat (refine ⟨by first | omega | grind, ?_⟩)); refine h11 _ ?_
    clear h11 K11
    refine W_cond rfl (fun hb12 => ?_) fun hb12 => ?_
    · have hy := runs_yes hlt (by simpa [hlt] using hb12)
      refine W_reg ?_
      simp [go_sem, ty3]
      first | refine h9 _ ?_ | refine ⟨by omega, h9 _ ?_⟩ | refine ⟨by omega, by omega, h9 _ ?_⟩ | (repeat (refine ⟨by first | omega | grind, ?_⟩)); refine h9 _ ?_
      clear h9 K9
      refine W_reg ?_
      simp [go_sem, ty3]
      refine ⟨i + 1, ?_, ?_, ?_⟩
      · exact Sub.of_tidy [3, 7, 8, 9] [1, 2, 3] [4] 9 (by decide) (by simp [go_sem, hy, wrap_succ (show i < 9223372036854775807 by omega), wrap_succ (show runs f.cores i < 9223372036854775807 by omega)])
      · exact hlt
      · omega
    · have hy := runs_no hlt (by simpa [hlt] using hb12)
      refine W_skip ?_
      first | refine h9 _ ?_ | refine ⟨by omega, h9 _ ?_⟩ | refine ⟨by omega, by omega, h9 _ ?_⟩ | (repeat (refine ⟨by first | omega | grind, ?_⟩)); refine h9 _ ?_
      clear h9 K9
      refine W_reg ?_
      simp [go_sem, ty3]
      refine ⟨i + 1, ?_, ?_, ?_⟩
      · exact Sub.of_tidy [3, 7, 8, 9] [1, 2, 3] [4] 9 (by decide) (by simp [go_sem, hy, wrap_succ (show i < 9223372036854775807 by omega), wrap_succ (show runs f.cores i < 9223372036854775807 by omega)])
      · exact hlt
      · omega
  · obtain rfl : i = f.cores.length := by simp at hb8; omega
    clear hb8
    refine W_exit ?_
    simp [go_sem]
    first | refine h3 _ ?_ | refine ⟨by omega, h3 _ ?_⟩ | refine ⟨by omega, by omega, h3 _ ?_⟩ | (repeat (refine ⟨by first | omega | grind, ?_⟩)); refine h3 _ ?_
    clear h7 K7 h3 K3
    refine W_seqK fun K13 h13 => ?_
    refine W_reg ?_
    simp [go_sem, ty3]
    first | refine h13 _ ?_ | refine ⟨by omega, h13 _ ?_⟩ | refine ⟨by omega, by omega, h13 _ ?_⟩ | (repeat (refine ⟨by first | omega | grind, ?_⟩)); refine h13 _ ?_
    clear h13 K13
    refine W_ret ?_
    simp [go_sem]

set_option maxRecDepth 100000 in
set_option maxHeartbeats 4000000 in
theorem pc_laws_FnExactRunning (f : GFlock) (ha : f.ok) : PC Try.prog 9 [(true, eFlock f)] [(false, [.bool true])] := by
  refine PC_of (n := 27) Try.func9 rfl rfl rfl rfl (by simp) ?_
  refine W_seqK fun K1 h1 => ?_
  refine W_reg ?_
  simp [go_sem, ty4, ty99]
  first | refine h1 _ ?_ | refine ⟨by omega, h1 _ ?_⟩ | refine ⟨by omega, by omega, h1 _ ?_⟩ | (repeat (refine ⟨by first | omega | grind, ?_⟩)); refine h1 _ ?_
  clear h1 K1
  refine W_seqK fun K2 h2 => ?_
  refine W_reg ?_
  simp [go_sem, ty3]
  first | refine h2 _ ?_ | refine ⟨by omega, h2 _ ?_⟩ | refine ⟨by omega, by omega, h2 _ ?_⟩ | (repeat (refine ⟨by first | omega | grind, ?_⟩)); refine h2 _ ?_
  clear h2 K2
  refine W_seqK fun K3 h3 => ?_
  refine W_reg ?_
  simp [go_sem, ty3, ty99]
  refine callG_pc (fun hG => pc_laws_szFlock f 1048576 (by first | omega | assumption | (exact hq2.2.1)) (by first | omega | assumption | (exact hq2.2.1)) (by first | omega | assumption | (exact hq2.2.1))) (by first | (simp; done) | (simp [inR_iff]; done) | (simp [inR_iff]; grind) | grind) (fun hG => by simp [go_sem]) rfl rfl (by first | exact Or.inl rfl | exact Or.inr rfl) ?_
  simp [go_sem, ty3]
  first | refine h3 _ ?_ | refine ⟨by omega, h3 _ ?_⟩ | refine ⟨by omega, by omega, h3 _ ?_⟩ | (repeat (refine ⟨by first | omega | grind, ?_⟩)); refine h3 _ ?_
  clear h3 K3
  refine W_seqK fun K4 h4 => ?_
  refine W_seqK fun K5 h5 => ?_
  refine W_reg ?_
  simp [go_sem, ty3, ty4]
  first | refine h5 _ ?_ | refine ⟨by omega, h5 _ ?_⟩ | refine ⟨by omega, by omega, h5 _ ?_⟩ | (repeat (refine ⟨by first | omega | grind, ?_⟩)); refine h5 _ ?_
  clear h5 K5
  refine W_cond rfl (fun hb6 => ?_) fun hb6 => ?_
  · skip
    refine W_seqK fun K7 h7 => ?_
    refine W_reg ?_
    simp [go_sem, ty4]
    first | refine h7 _ ?_ | refine ⟨by omega, h7 _ ?_⟩ | refine ⟨by omega, by omega, h7 _ ?_⟩ | (repeat (refine ⟨by first | omega | grind, ?_⟩)); refine h7 _ ?_
    clear h7 K7
    refine W_ret ?_
    simp [go_sem]
  · have hs := szL_pos hb6
    have hq := f.small_of (by omega)
    have hq2 := hq
    unfold GFlock.small at hq2
    clear hb6
    refine W_skip ?_
    first | refine h4 _ ?_ | refine ⟨by omega, h4 _ ?_⟩ | refine ⟨by omega, by omega, h4 _ ?_⟩ | (repeat (refine ⟨by first | omega | grind, ?_⟩)); refine h4 _ ?_
    clear h4 K4
    refine W_seqK fun K8 h8 => ?_
    refine W_reg ?_
    simp [go_sem, ty99, ty108]
    refine callG_pc (fun hG => pc_laws_toFlock f (by first | omega | assumption | (exact hq2.2.1))) (by first | (simp; done) | (simp [inR_iff]; done) | (simp [inR_iff]; grind) | grind) (fun hG => by simp [go_sem]) rfl rfl (by first | exact Or.inl rfl | exact Or.inr rfl) ?_
    simp [go_sem, ty3, ty108]
    refine callG_pc (fun hG => pc_spec_Running f (by first | omega | assumption | (exact hq2.2.1))) (by first | (simp; done) | (simp [inR_iff]; done) | (simp [inR_iff]; grind) | grind) (fun hG => by simp [go_sem]) rfl rfl (by first | exact Or.inl rfl | exact Or.inr rfl) ?_
    simp [go_sem, ty3]
    first | refine h8 _ ?_ | refine ⟨by omega, h8 _ ?_⟩ | refine ⟨by omega, by omega, h8 _ ?_⟩ | (repeat (refine ⟨by first | omega | grind, ?_⟩)); refine h8 _ ?_
    clear h8 K8
    refine W_seqK fun K9 h9 => ?_
    refine W_reg ?_
    simp [go_sem, ty99, ty108]
    refine callG_pc (fun hG => pc_laws_toFlock f (by first | omega | assumption | (exact hq2.2.1))) (by first | (simp; done) | (simp [inR_iff]; done) | (simp [inR_iff]; grind) | grind) (fun hG => by simp [go_sem]) rfl rfl (by first | exact Or.inl rfl | exact Or.inr rfl) ?_
    simp [go_sem, ty108]
    first | refine h9 _ ?_ | refine ⟨by omega, h9 _ ?_⟩ | refine ⟨by omega, by omega, h9 _ ?_⟩ | (repeat (refine ⟨by first | omega | grind, ?_⟩)); refine h9 _ ?_
    clear h9 K9
    refine W_seqK fun K10 h10 => ?_
    refine W_reg ?_
    simp [go_sem, ty3, ty108]
    refine callG_pc (fun hG => pc_impl_Running f (by first | omega | assumption | (exact hq2.2.1))) (by first | (simp; done) | (simp [inR_iff]; done) | (simp [inR_iff]; grind) | grind) (fun hG => by simp [go_sem]) rfl rfl (by first | exact Or.inl rfl | exact Or.inr rfl) ?_
    simp [go_sem, ty3]
    first | refine h10 _ ?_ | refine ⟨by omega, h10 _ ?_⟩ | refine ⟨by omega, by omega, h10 _ ?_⟩ | (repeat (refine ⟨by first | omega | grind, ?_⟩)); refine h10 _ ?_
    clear h10 K10
    refine W_seqK fun K11 h11 => ?_
    refine W_seqK fun K12 h12 => ?_
    refine W_reg ?_
    simp [go_sem, ty3, ty4]
    first | refine h12 _ ?_ | refine ⟨by omega, h12 _ ?_⟩ | refine ⟨by omega, by omega, h12 _ ?_⟩ | (repeat (refine ⟨by first | omega | grind, ?_⟩)); refine h12 _ ?_
    clear h12 K12
    refine W_cond rfl (fun hb13 => by first | (simp at hb13; done) | (simp at hb13; omega)) fun hb13 => ?_
    clear hb13
    refine W_skip ?_
    first | refine h11 _ ?_ | refine ⟨by omega, h11 _ ?_⟩ | refine ⟨by omega, by omega, h11 _ ?_⟩ | (repeat (refine ⟨by first | omega | grind, ?_⟩)); refine h11 _ ?_
    clear h11 K11
    refine W_seqK fun K14 h14 => ?_
    refine W_seqK fun K15 h15 => ?_
    refine W_drawT true mixed (by decide +kernel) ?_
    simp [go_sem, ty99, ty108]
    refine callG_pc (fun hG => pc_laws_toFlock f (by first | omega | assumption | (exact hq2.2.1))) (by first | (simp; done) | (simp [inR_iff]; done) | (simp [inR_iff]; grind) | grind) (fun hG => by simp [go_sem]) rfl rfl (by first | exact Or.inl rfl | exact Or.inr rfl) ?_
    simp [go_sem, ty4, ty108]
    refine callG_pc (fun hG => pc_laws_eqFlock f f (by first | omega | assumption | (exact hq2.2.1))) (by first | (simp; done) | (simp [inR_iff]; done) | (simp [inR_iff]; grind) | grind) (fun hG => by simp [go_sem]) rfl rfl (by first | exact Or.inl rfl | exact Or.inr rfl) ?_
    simp [go_sem, ty4]
    first | refine h15 _ ?_ | refine ⟨by omega, h15 _ ?_⟩ | refine ⟨by omega, by omega, h15 _ ?_⟩ | (repeat (refine ⟨by first | omega | grind, ?_⟩)); refine h15 _ ?_
    clear h15 K15
    refine W_cond rfl (fun hb16 => by first | (simp at hb16; done) | (simp at hb16; omega)) fun hb16 => ?_
    clear hb16
    refine W_skip ?_
    first | refine h14 _ ?_ | refine ⟨by omega, h14 _ ?_⟩ | refine ⟨by omega, by omega, h14 _ ?_⟩ | (repeat (refine ⟨by first | omega | grind, ?_⟩)); refine h14 _ ?_
    clear h14 K14
    refine W_seqK fun K17 h17 => ?_
    refine W_reg ?_
    simp [go_sem, ty4]
    first | refine h17 _ ?_ | refine ⟨by omega, h17 _ ?_⟩ | refine ⟨by omega, by omega, h17 _ ?_⟩ | (repeat (refine ⟨by first | omega | grind, ?_⟩)); refine h17 _ ?_
    clear h17 K17
    refine W_ret ?_
    simp [go_sem]
end Go.Tw
