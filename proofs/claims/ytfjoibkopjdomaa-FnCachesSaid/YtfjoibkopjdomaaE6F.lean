/- Walks of functions: impl.CacheFind, spec.CacheFind -/
import Derived.Test.YtfjoibkopjdomaaE6E
set_option linter.unusedSimpArgs false
set_option linter.unusedVariables false
set_option linter.unnecessarySimpa false
namespace Go.Tw
open Go.Proofs

set_option maxRecDepth 100000 in
set_option maxHeartbeats 4000000 in
theorem pc_impl_CacheFind (xs : List GBlock) (pc : Int) (hx : xs.length ≤ 1048576) (hq : ∀ a ∈ xs, a.small) : PC Try.prog 50 [(false, [.sl 2 (enc eBlock xs)]), (false, [.int .i64 pc])] [(true, eIns (cfI xs pc)), (false, [.bool (cfB xs pc)])] := by
  refine PC_of (n := 26) Try.func50 rfl rfl rfl rfl (by simp) ?_
  refine W_seqK fun K1 h1 => ?_
  refine W_reg ?_
  simp [go_sem, ty4, ty69]
  first | refine h1 _ ?_ | refine ⟨by omega, h1 _ ?_⟩ | refine ⟨by omega, by omega, h1 _ ?_⟩ | (repeat (refine ⟨by first | omega | grind, ?_⟩)); refine h1 _ ?_
  clear h1 K1
  refine W_seqK fun K2 h2 => ?_
  refine W_seqK fun K3 h3 => ?_
  refine W_reg ?_
  simp [go_sem, ty3, ty56, ty62]
  first | refine h3 _ ?_ | refine ⟨by omega, h3 _ ?_⟩ | refine ⟨by omega, by omega, h3 _ ?_⟩ | (repeat (refine ⟨by first | omega | grind, ?_⟩)); refine h3 _ ?_
  clear h3 K3
  refine W_block ?_
  refine W_loopI (α := Nat) (fun i => ({ env := [(1, true, .l (.t (.int .i64 (pc)))), (4, true, .l (.ptr 2 0)), (10, true, .l (.ref 0 [] 2 0 (xs).length)), (11, true, .l (.t (.int .i64 ((xs.length : Int))))), (12, true, .l (.t (.int .i64 (i))))], box := [(2, [.t (.int .i64 0), .t (.int .i64 0), .t (.int .i64 0), .t (.int .i64 0), .t (.int .i64 0)])], row := [(0, ⟨.ro, 2, enc eBlock xs⟩)], nxt := 60, sav := [] } : St)) (fun i => i ≤ xs.length ∧ ∀ j, (hj : j < xs.length) → j < i → inBlk xs[j] pc = false) (fun i => xs.length - i) 0 ?_ ?_ ?_
  · exact Sub.of_neat [1, 4, 10, 11, 12] [0] [2] 60 (by decide) (by simp [go_sem])
  · exact ⟨Nat.zero_le _, fun j _ h => absurd h (Nat.not_lt_zero _)⟩
  rintro i hinv
  obtain ⟨hi, hall⟩ := hinv
  refine W_seqK fun K5 h5 => ?_
  refine W_reg ?_
  simp [go_sem, ty3]
  first | refine h5 _ ?_ | refine ⟨by omega, h5 _ ?_⟩ | refine ⟨by omega, by omega, h5 _ ?_⟩ | (repeat (refine ⟨by first | omega | grind, ?_⟩)); refine h5 _ ?_
  clear h5 K5
  refine W_seqK fun K6 h6 => ?_
  refine W_cond rfl (fun hb7 => ?_) fun hb7 => ?_
  · have hlt : i < xs.length := by simpa using hb7
    have hsm := hq _ (List.getElem_mem hlt)
    have hsm2 : xs[i].list.length ≤ 1048576 := by unfold GBlock.small at hsm; exact hsm
    clear hb7
    refine W_skip ?_
    first | refine h6 _ ?_ | refine ⟨by omega, h6 _ ?_⟩ | refine ⟨by omega, by omega, h6 _ ?_⟩ | (repeat (refine ⟨by first | omega | grind, ?_⟩)); refine h6 _ ?_
    clear h6 K6
    refine W_seqK fun K8 h8 => ?_
    refine W_block ?_
    refine W_seqK fun K9 h9 => ?_
    refine W_reg ?_
    simp [go_sem, ty56, ty62, hlt]
    first | refine h9 _ ?_ | refine ⟨by omega, h9 _ ?_⟩ | refine ⟨by omega, by omega, h9 _ ?_⟩ | (repeat (refine ⟨by first | omega | grind, ?_⟩)); refine h9 _ ?_
    clear h9 K9
    refine W_seqK fun K10 h10 => ?_
    refine W_reg ?_
    simp [go_sem, ty3, ty62, hlt]
    refine callG_pc (fun hG => pc_impl_At xs[i] pc (by omega)) (by first | (simp; done) | (simp [inR_iff]; done) | (simp [inR_iff]; grind) | grind) (fun hG => by simp [go_sem, hlt]) rfl rfl (by first | exact Or.inl rfl | exact Or.inr rfl) ?_
    simp [go_sem, ty4, ty69, hlt]
    first | refine h10 _ ?_ | refine ⟨by omega, h10 _ ?_⟩ | refine ⟨by omega, by omega, h10 _ ?_⟩ | (repeat (refine ⟨by first | omega | grind, ?_⟩)); refine h10 _ ?_
    clear h10 K10
    refine W_seqK fun K11 h11 => ?_
    refine W_reg ?_
    simp [go_sem, ty4]
    first | refine h11 _ ?_ | refine ⟨by omega, h11 _ ?_⟩ | refine ⟨by omega, by omega, h11 _ ?_⟩ | (repeat (refine ⟨by first | omega | grind, ?_⟩)); refine h11 _ ?_
    clear h11 K11
    refine W_cond rfl (fun hb12 => ?_) fun hb12 => ?_
    · obtain ⟨q1, q2⟩ := cf_at hlt hall (show inBlk xs[i] pc = true from hb12)
      clear hb12
      refine W_seqK fun K13 h13 => ?_
      refine W_reg ?_
      simp [go_sem, ty4, ty69]
      first | refine h13 _ ?_ | refine ⟨by omega, h13 _ ?_⟩ | refine ⟨by omega, by omega, h13 _ ?_⟩ | (repeat (refine ⟨by first | omega | grind, ?_⟩)); refine h13 _ ?_
      clear h13 K13
      refine W_ret ?_
      simp [go_sem, ty69, q1, q2]
    · have hn : inBlk xs[i] pc = false := hb12
      clear hb12
      refine W_skip ?_
      first | refine h8 _ ?_ | refine ⟨by omega, h8 _ ?_⟩ | refine ⟨by omega, by omega, h8 _ ?_⟩ | (repeat (refine ⟨by first | omega | grind, ?_⟩)); refine h8 _ ?_
      clear h8 K8
      refine W_reg ?_
      simp [go_sem, ty3]
      refine ⟨i + 1, ?_, ?_, ?_⟩
      · exact Sub.of_neat [1, 4, 10, 11, 12] [0] [2] 60 (by decide) (by simp [go_sem, wrap_succ (show i < 9223372036854775807 by omega)])
      · exact ⟨hlt, fun j hj hji => by rcases Nat.lt_succ_iff_lt_or_eq.1 hji with h | rfl; exact hall j hj h; exact hn⟩
      · omega
  · obtain rfl : i = xs.length := by simp at hb7; omega
    obtain ⟨q1, q2⟩ := cf_none (pc := pc) fun j hj => hall j hj hj
    clear hb7
    refine W_exit ?_
    simp [go_sem]
    first | refine h2 _ ?_ | refine ⟨by omega, h2 _ ?_⟩ | refine ⟨by omega, by omega, h2 _ ?_⟩ | (repeat (refine ⟨by first | omega | grind, ?_⟩)); refine h2 _ ?_
    clear h6 K6 h2 K2
    refine W_seqK fun K14 h14 => ?_
    refine W_reg ?_
    simp [go_sem, ty4, ty69, fw69]
    first | refine h14 _ ?_ | refine ⟨by omega, h14 _ ?_⟩ | refine ⟨by omega, by omega, h14 _ ?_⟩ | (repeat (refine ⟨by first | omega | grind, ?_⟩)); refine h14 _ ?_
    clear h14 K14
    refine W_ret ?_
    simp [go_sem, ty69, q1, q2, zIns]

set_option maxRecDepth 100000 in
set_option maxHeartbeats 4000000 in
theorem pc_spec_CacheFind (xs : List GBlock) (pc : Int) (hx : xs.length ≤ 1048576) (hq : ∀ a ∈ xs, a.small) : PC Try.prog 53 [(false, [.sl 2 (enc eBlock xs)]), (false, [.int .i64 pc])] [(true, eIns (cfI xs pc)), (false, [.bool (cfB xs pc)])] := by
  refine PC_of (n := 27) Try.func53 rfl rfl rfl rfl (by simp) ?_
  refine W_seqK fun K1 h1 => ?_
  refine W_reg ?_
  simp [go_sem, ty4, ty69]
  first | refine h1 _ ?_ | refine ⟨by omega, h1 _ ?_⟩ | refine ⟨by omega, by omega, h1 _ ?_⟩ | (repeat (refine ⟨by first | omega | grind, ?_⟩)); refine h1 _ ?_
  clear h1 K1
  refine W_seqK fun K2 h2 => ?_
  refine W_seqK fun K3 h3 => ?_
  refine W_reg ?_
  simp [go_sem, ty3]
  first | refine h3 _ ?_ | refine ⟨by omega, h3 _ ?_⟩ | refine ⟨by omega, by omega, h3 _ ?_⟩ | (repeat (refine ⟨by first | omega | grind, ?_⟩)); refine h3 _ ?_
  clear h3 K3
  refine W_block ?_
  refine W_loopI (α := Nat) (fun i => ({ env := [(0, true, .l (.ref 0 [] 2 0 (xs).length)), (1, true, .l (.t (.int .i64 (pc)))), (4, true, .l (.ptr 2 0)), (6, true, .l (.t (.int .i64 (i))))], box := [(2, [.t (.int .i64 0), .t (.int .i64 0), .t (.int .i64 0), .t (.int .i64 0), .t (.int .i64 0)])], row := [(0, ⟨.ro, 2, enc eBlock xs⟩)], nxt := 60, sav := [] } : St)) (fun i => i ≤ xs.length ∧ ∀ j, (hj : j < xs.length) → j < i → inBlk xs[j] pc = false) (fun i => xs.length - i) 0 ?_ ?_ ?_
  · exact Sub.of_neat [0, 1, 4, 6] [0] [2] 60 (by decide) (by simp [go_sem])
  · exact ⟨Nat.zero_le _, fun j _ h => absurd h (Nat.not_lt_zero _)⟩
  rintro i hinv
  obtain ⟨hi, hall⟩ := hinv
  refine W_seqK fun K5 h5 => ?_
  refine W_seqK fun K6 h6 => ?_
  refine W_reg ?_
  simp [go_sem, ty3, ty4, ty56, ty62]
  first | refine h6 _ ?_ | refine ⟨by omega, h6 _ ?_⟩ | refine ⟨by omega, by omega, h6 _ ?_⟩ | (repeat (refine ⟨by first | omega | grind, ?_⟩)); refine h6 _ ?_
  clear h6 K6
  refine W_cond rfl (fun hb7 => ?_) fun hb7 => ?_
  · have hlt : i < xs.length := by simpa using hb7
    have hsm := hq _ (List.getElem_mem hlt)
    have hsm2 : xs[i].list.length ≤ 1048576 := by unfold GBlock.small at hsm; exact hsm
    clear hb7
    refine W_skip ?_
    first | refine h5 _ ?_ | refine ⟨by omega, h5 _ ?_⟩ | refine ⟨by omega, by omega, h5 _ ?_⟩ | (repeat (refine ⟨by first | omega | grind, ?_⟩)); refine h5 _ ?_
    clear h5 K5
    refine W_seqK fun K8 h8 => ?_
    refine W_block ?_
    refine W_seqK fun K9 h9 => ?_
    refine W_reg ?_
    simp [go_sem, ty3, ty56, ty62, hlt]
    refine callG_pc (fun hG => pc_spec_At xs[i] pc (by omega)) (by first | (simp; done) | (simp [inR_iff]; done) | (simp [inR_iff]; grind) | grind) (fun hG => by simp [go_sem, hlt]) rfl rfl (by first | exact Or.inl rfl | exact Or.inr rfl) ?_
    simp [go_sem, ty4, ty69, hlt]
    first | refine h9 _ ?_ | refine ⟨by omega, h9 _ ?_⟩ | refine ⟨by omega, by omega, h9 _ ?_⟩ | (repeat (refine ⟨by first | omega | grind, ?_⟩)); refine h9 _ ?_
    clear h9 K9
    refine W_seqK fun K10 h10 => ?_
    refine W_reg ?_
    simp [go_sem, ty4]
    first | refine h10 _ ?_ | refine ⟨by omega, h10 _ ?_⟩ | refine ⟨by omega, by omega, h10 _ ?_⟩ | (repeat (refine ⟨by first | omega | grind, ?_⟩)); refine h10 _ ?_
    clear h10 K10
    refine W_cond rfl (fun hb11 => ?_) fun hb11 => ?_
    · obtain ⟨q1, q2⟩ := cf_at hlt hall (show inBlk xs[i] pc = true from hb11)
      clear hb11
      refine W_seqK fun K12 h12 => ?_
      refine W_reg ?_
      simp [go_sem, ty4, ty69]
      first | refine h12 _ ?_ | refine ⟨by omega, h12 _ ?_⟩ | refine ⟨by omega, by omega, h12 _ ?_⟩ | (repeat (refine ⟨by first | omega | grind, ?_⟩)); refine h12 _ ?_
      clear h12 K12
      refine W_ret ?_
      simp [go_sem, ty69, q1, q2]
    · have hn : inBlk xs[i] pc = false := hb11
      clear hb11
      refine W_skip ?_
      first | refine h8 _ ?_ | refine ⟨by omega, h8 _ ?_⟩ | refine ⟨by omega, by omega, h8 _ ?_⟩ | (repeat (refine ⟨by first | omega | grind, ?_⟩)); refine h8 _ ?_
      clear h8 K8
      refine W_reg ?_
      simp [go_sem, ty3, hlt]
      refine ⟨i + 1, ?_, ?_, ?_⟩
      · exact Sub.of_neat [0, 1, 4, 6] [0] [2] 60 (by decide) (by simp [go_sem, wrap_succ (show i < 9223372036854775807 by omega)])
      · exact ⟨hlt, fun j hj hji => by rcases Nat.lt_succ_iff_lt_or_eq.1 hji with h | rfl; exact hall j hj h; exact hn⟩
      · omega
  · obtain rfl : i = xs.length := by simp at hb7; omega
    obtain ⟨q1, q2⟩ := cf_none (pc := pc) fun j hj => hall j hj hj
    clear hb7
    refine W_exit ?_
    simp [go_sem]
    first | refine h2 _ ?_ | refine ⟨by omega, h2 _ ?_⟩ | refine ⟨by omega, by omega, h2 _ ?_⟩ | (repeat (refine ⟨by first | omega | grind, ?_⟩)); refine h2 _ ?_
    clear h5 K5 h2 K2
    refine W_seqK fun K13 h13 => ?_
    refine W_reg ?_
    simp [go_sem, ty4, ty69, fw69]
    first | refine h13 _ ?_ | refine ⟨by omega, h13 _ ?_⟩ | refine ⟨by omega, by omega, h13 _ ?_⟩ | (repeat (refine ⟨by first | omega | grind, ?_⟩)); refine h13 _ ?_
    clear h13 K13
    refine W_ret ?_
    simp [go_sem, ty69, q1, q2, zIns]
end Go.Tw
