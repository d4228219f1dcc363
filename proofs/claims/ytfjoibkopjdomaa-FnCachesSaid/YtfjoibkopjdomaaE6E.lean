/- Walks of functions: impl.BlockOk, spec.BlockOk, impl.At, spec.At, impl.PageOf, spec.PageOf -/
import Derived.Test.YtfjoibkopjdomaaE6D
import Derived.Test.YtfjoibkopjdomaaE6f
import Derived.Test.YtfjoibkopjdomaaE6g
set_option linter.unusedSimpArgs false
set_option linter.unusedVariables false
set_option linter.unnecessarySimpa false
namespace Go.Tw
open Go.Proofs

set_option maxRecDepth 100000 in
set_option maxHeartbeats 4000000 in
theorem pc_impl_BlockOk (b : GBlock) (hx : b.list.length ≤ 1048576) : PC Try.prog 49 [(true, eBlock b)] [(false, [.bool (blockOk b)])] := by
  refine PC_of (n := 50) Try.func49 rfl rfl rfl rfl (by simp) ?_
  refine W_seqK fun K1 h1 => ?_
  refine W_reg ?_
  simp [go_sem, ty4, ty62]
  first | refine h1 _ ?_ | refine ⟨by omega, h1 _ ?_⟩ | refine ⟨by omega, by omega, h1 _ ?_⟩ | (repeat (refine ⟨by first | omega | grind, ?_⟩)); refine h1 _ ?_
  clear h1 K1
  refine W_seqK fun K2 h2 => ?_
  refine W_seqK fun K3 h3 => ?_
  refine W_reg ?_
  simp [go_sem, ty3, ty4, ty62]
  refine callG_pc (fun hG => pc_impl_isCell b.start) (by first | (simp; done) | (simp [inR_iff]; done) | (simp [inR_iff]; grind) | grind) (fun hG => by simp [go_sem]) rfl rfl (by first | exact Or.inl rfl | exact Or.inr rfl) ?_
  simp [go_sem, ty3, ty4, ty60, ty62, ty69]
  refine callG_pc (fun hG => pc_impl_from (b.list.length : Int) 1 (4 - b.start % 4)) (by first | (simp; done) | (simp [inR_iff]; done) | (simp [inR_iff]; grind) | grind) (fun hG => by simp [go_sem]; have q0 : 0 ≤ b.start ∧ b.start ≤ 23 := (by simpa [inR] using hG); rw [tmod_pos q0.1, wrap_ok (by omega) (by omega)]; split <;> omega) rfl rfl (by first | exact Or.inl rfl | exact Or.inr rfl) ?_
  simp [go_sem, ty4]
  first | refine h3 _ ?_ | refine ⟨by omega, h3 _ ?_⟩ | refine ⟨by omega, by omega, h3 _ ?_⟩ | (repeat (refine ⟨by first | omega | grind, ?_⟩)); refine h3 _ ?_
  clear h3 K3
  refine W_cond rfl (fun hb4 => ?_) fun hb4 => ?_
  · have q : blockOk b = false := blockOk_hd (by unfold blockHd; simp at hb4 ⊢; grind)
    clear hb4
    refine W_seqK fun K5 h5 => ?_
    refine W_reg ?_
    simp [go_sem, ty4]
    first | refine h5 _ ?_ | refine ⟨by omega, h5 _ ?_⟩ | refine ⟨by omega, by omega, h5 _ ?_⟩ | (repeat (refine ⟨by first | omega | grind, ?_⟩)); refine h5 _ ?_
    clear h5 K5
    refine W_ret ?_
    simp [go_sem, q]
  · have qh : blockHd b = true := by unfold blockHd; simp at hb4 ⊢; grind
    clear hb4
    have qs : 0 ≤ b.start ∧ b.start ≤ 23 := by unfold blockHd at qh; rw [Bool.and_eq_true] at qh; exact (inR_iff _ _ _).1 qh.1
    have qn : b.list.length ≤ 4 := by unfold blockHd at qh; simp [inR] at qh; omega
    refine W_skip ?_
    first | refine h2 _ ?_ | refine ⟨by omega, h2 _ ?_⟩ | refine ⟨by omega, by omega, h2 _ ?_⟩ | (repeat (refine ⟨by first | omega | grind, ?_⟩)); refine h2 _ ?_
    clear h2 K2
    refine W_seqK fun K6 h6 => ?_
    refine W_seqK fun K7 h7 => ?_
    refine W_reg ?_
    simp [go_sem, ty3, ty60, ty62, ty69]
    first | refine h7 _ ?_ | refine ⟨by omega, h7 _ ?_⟩ | refine ⟨by omega, by omega, h7 _ ?_⟩ | (repeat (refine ⟨by first | omega | grind, ?_⟩)); refine h7 _ ?_
    clear h7 K7
    refine W_block ?_
    refine W_loopI (α := Nat) (fun i => ({ env := [(1, true, .l (.ptr 2 0)), (22, true, .l (.ref 1 [] 5 0 (b.list.length))), (23, true, .l (.t (.int .i64 (b.list.length)))), (24, true, .l (.t (.int .i64 (i))))], box := [(2, [.t (.int .i64 b.start), .ref 1 [] 5 0 b.list.length])], row := [(1, ⟨.ro, 5, enc eIns b.list⟩)], nxt := 9, sav := [] } : St)) (fun i => i ≤ b.list.length ∧ ∀ j, (hj : j < b.list.length) → j < i → badIns b.list.length j b.list[j] = false) (fun i => b.list.length - i) 0 ?_ ?_ ?_
    · exact Sub.of_neat [1, 22, 23, 24] [1] [2] 9 (by decide) (by simp [go_sem])
    · simp
    rintro i hinv
    obtain ⟨hi, hall⟩ := hinv
    refine W_seqK fun K9 h9 => ?_
    refine W_reg ?_
    simp [go_sem, ty3]
    first | refine h9 _ ?_ | refine ⟨by omega, h9 _ ?_⟩ | refine ⟨by omega, by omega, h9 _ ?_⟩ | (repeat (refine ⟨by first | omega | grind, ?_⟩)); refine h9 _ ?_
    clear h9 K9
    refine W_seqK fun K10 h10 => ?_
    refine W_cond rfl (fun hb11 => ?_) fun hb11 => ?_
    · have hlt : i < b.list.length := by simpa using hb11
      clear hb11
      refine W_skip ?_
      first | refine h10 _ ?_ | refine ⟨by omega, h10 _ ?_⟩ | refine ⟨by omega, by omega, h10 _ ?_⟩ | (repeat (refine ⟨by first | omega | grind, ?_⟩)); refine h10 _ ?_
      clear h10 K10
      refine W_seqK fun K12 h12 => ?_
      refine W_block ?_
      refine W_seqK fun K13 h13 => ?_
      refine W_reg ?_
      simp [go_sem, ty3, ty60, ty69, hlt]
      first | refine h13 _ ?_ | refine ⟨by omega, h13 _ ?_⟩ | refine ⟨by omega, by omega, h13 _ ?_⟩ | (repeat (refine ⟨by first | omega | grind, ?_⟩)); refine h13 _ ?_
      clear h13 K13
      refine W_seqK fun K14 h14 => ?_
      refine W_reg ?_
      simp [go_sem, ty4, ty69, fk69, fw69, wrap_succ (show i < 9223372036854775807 by omega), hlt]
      refine callG_pc (fun hG => pc_impl_InsOk b.list[i]) (by first | (simp; done) | (simp [inR_iff]; done) | (simp [inR_iff]; grind) | grind) (fun hG => by simp [go_sem, hlt]) rfl rfl (by first | exact Or.inl rfl | exact Or.inr rfl) ?_
      simp [go_sem, ty4, ty69, fk69, fw69, wrap_succ (show i < 9223372036854775807 by omega), hlt]
      refine callG_pc (fun hG => pc_impl_Ends b.list[i]) (by first | (simp; done) | (simp [inR_iff]; done) | (simp [inR_iff]; grind) | grind) (fun hG => by simp [go_sem, hlt]) rfl rfl (by first | exact Or.inl rfl | exact Or.inr rfl) ?_
      simp [go_sem, ty3, ty4, ty60, ty62, ty69, fk69, fw69, wrap_succ (show i < 9223372036854775807 by omega), hlt]
      first | refine h14 _ ?_ | refine ⟨by omega, h14 _ ?_⟩ | refine ⟨by omega, by omega, h14 _ ?_⟩ | (repeat (refine ⟨by first | omega | grind, ?_⟩)); refine h14 _ ?_
      clear h14 K14
      refine W_cond rfl (fun hb15 => ?_) fun hb15 => ?_
      · have q : blockOk b = false := blockOk_bad hlt (by unfold badIns; simp [GIns.ext_iff] at hb15 ⊢; grind)
        refine W_seqK fun K16 h16 => ?_
        refine W_reg ?_
        simp [go_sem, ty4, hlt]
        first | refine h16 _ ?_ | refine ⟨by omega, h16 _ ?_⟩ | refine ⟨by omega, by omega, h16 _ ?_⟩ | (repeat (refine ⟨by first | omega | grind, ?_⟩)); refine h16 _ ?_
        clear h16 K16
        refine W_ret ?_
        simp [go_sem, q]
      · have hok : badIns b.list.length i b.list[i] = false := by unfold badIns; simp [GIns.ext_iff] at hb15 ⊢; grind
        clear hb15
        refine W_skip ?_
        first | refine h12 _ ?_ | refine ⟨by omega, h12 _ ?_⟩ | refine ⟨by omega, by omega, h12 _ ?_⟩ | (repeat (refine ⟨by first | omega | grind, ?_⟩)); refine h12 _ ?_
        clear h12 K12
        refine W_reg ?_
        simp [go_sem, ty3, hlt]
        refine ⟨i + 1, ?_, ?_, ?_⟩
        · exact Sub.of_neat [1, 22, 23, 24] [1] [2] 9 (by decide) (by simp [go_sem, wrap_succ (show i < 9223372036854775807 by omega)])
        · exact ⟨hlt, fun j hj hji => by rcases Nat.lt_succ_iff_lt_or_eq.1 hji with h | rfl; exact hall j hj h; exact hok⟩
        · omega
    · obtain rfl : i = b.list.length := by simp at hb11; omega
      have q : blockOk b = true := blockOk_good qh fun j hj => hall j hj hj
      clear hb11
      refine W_exit ?_
      simp [go_sem]
      first | refine h6 _ ?_ | refine ⟨by omega, h6 _ ?_⟩ | refine ⟨by omega, by omega, h6 _ ?_⟩ | (repeat (refine ⟨by first | omega | grind, ?_⟩)); refine h6 _ ?_
      clear h10 K10 h6 K6
      refine W_seqK fun K17 h17 => ?_
      refine W_reg ?_
      simp [go_sem, ty4]
      first | refine h17 _ ?_ | refine ⟨by omega, h17 _ ?_⟩ | refine ⟨by omega, by omega, h17 _ ?_⟩ | (repeat (refine ⟨by first | omega | grind, ?_⟩)); refine h17 _ ?_
      clear h17 K17
      refine W_ret ?_
      simp [go_sem, q]

set_option maxRecDepth 100000 in
set_option maxHeartbeats 4000000 in
theorem pc_spec_BlockOk (b : GBlock) (hx : b.list.length ≤ 1048576) : PC Try.prog 117 [(true, eBlock b)] [(false, [.bool (blockOk b)])] := by
  refine PC_of (n := 52) Try.func117 rfl rfl rfl rfl (by simp) ?_
  refine W_seqK fun K1 h1 => ?_
  refine W_reg ?_
  simp [go_sem, ty4, ty62]
  first | refine h1 _ ?_ | refine ⟨by omega, h1 _ ?_⟩ | refine ⟨by omega, by omega, h1 _ ?_⟩ | (repeat (refine ⟨by first | omega | grind, ?_⟩)); refine h1 _ ?_
  clear h1 K1
  refine W_seqK fun K2 h2 => ?_
  refine W_seqK fun K3 h3 => ?_
  refine W_reg ?_
  simp [go_sem, ty3, ty4, ty62]
  refine callG_pc (fun hG => pc_spec_l1In b.start 0 23) (by first | (simp; done) | (simp [inR_iff]; done) | (simp [inR_iff]; grind) | grind) (fun hG => by simp [go_sem]) rfl rfl (by first | exact Or.inl rfl | exact Or.inr rfl) ?_
  simp [go_sem, ty3, ty4, ty60, ty62, ty69]
  refine callG_pc (fun hG => pc_spec_l1In (b.list.length : Int) 1 (4 - b.start % 4)) (by first | (simp; done) | (simp [inR_iff]; done) | (simp [inR_iff]; grind) | grind) (fun hG => by simp [go_sem]; have q0 : 0 ≤ b.start ∧ b.start ≤ 23 := (by simpa [inR] using hG); rw [tmod_pos q0.1, wrap_ok (by omega) (by omega)]) rfl rfl (by first | exact Or.inl rfl | exact Or.inr rfl) ?_
  simp [go_sem, ty4]
  first | refine h3 _ ?_ | refine ⟨by omega, h3 _ ?_⟩ | refine ⟨by omega, by omega, h3 _ ?_⟩ | (repeat (refine ⟨by first | omega | grind, ?_⟩)); refine h3 _ ?_
  clear h3 K3
  refine W_cond rfl (fun hb4 => ?_) fun hb4 => ?_
  · have q : blockOk b = false := blockOk_hd (by unfold blockHd; simp at hb4 ⊢; grind)
    clear hb4
    refine W_seqK fun K5 h5 => ?_
    refine W_reg ?_
    simp [go_sem, ty4]
    first | refine h5 _ ?_ | refine ⟨by omega, h5 _ ?_⟩ | refine ⟨by omega, by omega, h5 _ ?_⟩ | (repeat (refine ⟨by first | omega | grind, ?_⟩)); refine h5 _ ?_
    clear h5 K5
    refine W_ret ?_
    simp [go_sem, q]
  · have qh : blockHd b = true := by unfold blockHd; simp at hb4 ⊢; grind
    clear hb4
    have qs : 0 ≤ b.start ∧ b.start ≤ 23 := by unfold blockHd at qh; rw [Bool.and_eq_true] at qh; exact (inR_iff _ _ _).1 qh.1
    have qn : b.list.length ≤ 4 := by unfold blockHd at qh; simp [inR] at qh; omega
    have wl : IntKind.wrap .i64 ((b.list.length : Int) - 1) = b.list.length - 1 := wrap_ok (by omega) (by omega)
    refine W_skip ?_
    first | refine h2 _ ?_ | refine ⟨by omega, h2 _ ?_⟩ | refine ⟨by omega, by omega, h2 _ ?_⟩ | (repeat (refine ⟨by first | omega | grind, ?_⟩)); refine h2 _ ?_
    clear h2 K2
    refine W_seqK fun K6 h6 => ?_
    refine W_seqK fun K7 h7 => ?_
    refine W_reg ?_
    simp [go_sem, ty3]
    first | refine h7 _ ?_ | refine ⟨by omega, h7 _ ?_⟩ | refine ⟨by omega, by omega, h7 _ ?_⟩ | (repeat (refine ⟨by first | omega | grind, ?_⟩)); refine h7 _ ?_
    clear h7 K7
    refine W_block ?_
    refine W_loopI (α := Nat) (fun i => ({ env := [(1, true, .l (.ptr 2 0)), (3, true, .l (.t (.int .i64 (i))))], box := [(2, [.t (.int .i64 b.start), .ref 1 [] 5 0 b.list.length])], row := [(1, ⟨.ro, 5, enc eIns b.list⟩)], nxt := 9, sav := [] } : St)) (fun i => i ≤ b.list.length ∧ ∀ j, (hj : j < b.list.length) → j < i → badIns b.list.length j b.list[j] = false) (fun i => b.list.length - i) 0 ?_ ?_ ?_
    · exact Sub.of_neat [1, 3] [1] [2] 9 (by decide) (by simp [go_sem])
    · simp
    rintro i hinv
    obtain ⟨hi, hall⟩ := hinv
    refine W_seqK fun K9 h9 => ?_
    refine W_seqK fun K10 h10 => ?_
    refine W_reg ?_
    simp [go_sem, ty3, ty4, ty60, ty62, ty69]
    first | refine h10 _ ?_ | refine ⟨by omega, h10 _ ?_⟩ | refine ⟨by omega, by omega, h10 _ ?_⟩ | (repeat (refine ⟨by first | omega | grind, ?_⟩)); refine h10 _ ?_
    clear h10 K10
    refine W_cond rfl (fun hb11 => ?_) fun hb11 => ?_
    · have hlt : i < b.list.length := by simpa using hb11
      clear hb11
      refine W_skip ?_
      first | refine h9 _ ?_ | refine ⟨by omega, h9 _ ?_⟩ | refine ⟨by omega, by omega, h9 _ ?_⟩ | (repeat (refine ⟨by first | omega | grind, ?_⟩)); refine h9 _ ?_
      clear h9 K9
      refine W_seqK fun K12 h12 => ?_
      refine W_block ?_
      refine W_seqK fun K13 h13 => ?_
      refine W_reg ?_
      simp [go_sem, ty3, ty60, ty62, ty69, hlt]
      first | refine h13 _ ?_ | refine ⟨by omega, h13 _ ?_⟩ | refine ⟨by omega, by omega, h13 _ ?_⟩ | (repeat (refine ⟨by first | omega | grind, ?_⟩)); refine h13 _ ?_
      clear h13 K13
      refine W_seqK fun K14 h14 => ?_
      refine W_reg ?_
      simp [go_sem, ty4, ty69, wl, hlt]
      refine callG_pc (fun hG => pc_spec_InsOk b.list[i]) (by first | (simp; done) | (simp [inR_iff]; done) | (simp [inR_iff]; grind) | grind) (fun hG => by simp [go_sem, hlt]) rfl rfl (by first | exact Or.inl rfl | exact Or.inr rfl) ?_
      simp [go_sem, ty3, ty4, ty60, ty62, ty69, fk69, fw69, wl, hlt]
      refine callG_pc (fun hG => pc_spec_Ends b.list[i]) (by first | (simp; done) | (simp [inR_iff]; done) | (simp [inR_iff]; grind) | grind) (fun hG => by simp [go_sem, hlt]) rfl rfl (by first | exact Or.inl rfl | exact Or.inr rfl) ?_
      simp [go_sem, ty4, fk69, fw69, wl, hlt]
      first | refine h14 _ ?_ | refine ⟨by omega, h14 _ ?_⟩ | refine ⟨by omega, by omega, h14 _ ?_⟩ | (repeat (refine ⟨by first | omega | grind, ?_⟩)); refine h14 _ ?_
      clear h14 K14
      refine W_cond rfl (fun hb15 => ?_) fun hb15 => ?_
      · have q : blockOk b = false := blockOk_bad hlt (by unfold badIns; simp [GIns.ext_iff] at hb15 ⊢; grind)
        refine W_seqK fun K16 h16 => ?_
        refine W_reg ?_
        simp [go_sem, ty4, hlt]
        first | refine h16 _ ?_ | refine ⟨by omega, h16 _ ?_⟩ | refine ⟨by omega, by omega, h16 _ ?_⟩ | (repeat (refine ⟨by first | omega | grind, ?_⟩)); refine h16 _ ?_
        clear h16 K16
        refine W_ret ?_
        simp [go_sem, q]
      · have hok : badIns b.list.length i b.list[i] = false := by unfold badIns; simp [GIns.ext_iff] at hb15 ⊢; grind
        clear hb15
        refine W_skip ?_
        first | refine h12 _ ?_ | refine ⟨by omega, h12 _ ?_⟩ | refine ⟨by omega, by omega, h12 _ ?_⟩ | (repeat (refine ⟨by first | omega | grind, ?_⟩)); refine h12 _ ?_
        clear h12 K12
        refine W_reg ?_
        simp [go_sem, ty3, hlt]
        refine ⟨i + 1, ?_, ?_, ?_⟩
        · exact Sub.of_neat [1, 3] [1] [2] 9 (by decide) (by simp [go_sem, wrap_succ (show i < 9223372036854775807 by omega)])
        · exact ⟨hlt, fun j hj hji => by rcases Nat.lt_succ_iff_lt_or_eq.1 hji with h | rfl; exact hall j hj h; exact hok⟩
        · omega
    · obtain rfl : i = b.list.length := by simp at hb11; omega
      have q : blockOk b = true := blockOk_good qh fun j hj => hall j hj hj
      clear hb11
      refine W_exit ?_
      simp [go_sem]
      first | refine h6 _ ?_ | refine ⟨by omega, h6 _ ?_⟩ | refine ⟨by omega, by omega, h6 _ ?_⟩ | (repeat (refine ⟨by first | omega | grind, ?_⟩)); refine h6 _ ?_
      clear h9 K9 h6 K6
      refine W_seqK fun K17 h17 => ?_
      refine W_reg ?_
      simp [go_sem, ty4]
      first | refine h17 _ ?_ | refine ⟨by omega, h17 _ ?_⟩ | refine ⟨by omega, by omega, h17 _ ?_⟩ | (repeat (refine ⟨by first | omega | grind, ?_⟩)); refine h17 _ ?_
      clear h17 K17
      refine W_ret ?_
      simp [go_sem, q]

set_option maxRecDepth 100000 in
set_option maxHeartbeats 4000000 in
theorem pc_impl_At (b : GBlock) (pc : Int) (hx : b.list.length ≤ 1048576) : PC Try.prog 120 [(true, eBlock b), (false, [.int .i64 pc])] [(true, eIns (atI b pc)), (false, [.bool (inBlk b pc)])] := by
  have hws : blockOk b = true → IntKind.wrap .i64 (IntKind.wrap .i64 (b.start + b.list.length) - 1) = b.start + b.list.length - 1 := fun h => by have hd := blockHd_of h; rw [wrap_ok (n := b.start + b.list.length) (by omega) (by omega)]; exact wrap_ok (by omega) (by omega)
  refine PC_of (n := 32) Try.func120 rfl rfl rfl rfl (by simp) ?_
  refine W_seqK fun K1 h1 => ?_
  refine W_reg ?_
  simp [go_sem, ty4, ty62, ty69]
  first | refine h1 _ ?_ | refine ⟨by omega, h1 _ ?_⟩ | refine ⟨by omega, by omega, h1 _ ?_⟩ | (repeat (refine ⟨by first | omega | grind, ?_⟩)); refine h1 _ ?_
  clear h1 K1
  refine W_seqK fun K2 h2 => ?_
  refine W_seqK fun K3 h3 => ?_
  refine W_reg ?_
  simp [go_sem, ty4, ty62]
  refine callG_pc (fun hG => pc_impl_BlockOk b (by omega)) (by first | (simp; done) | (simp [inR_iff]; done) | (simp [inR_iff]; grind) | grind) (fun hG => by simp [go_sem]) rfl rfl (by first | exact Or.inl rfl | exact Or.inr rfl) ?_
  simp [go_sem, ty3, ty4, ty60, ty62, ty69]
  refine callG_pc (fun hG => pc_impl_from pc b.start (IntKind.wrap .i64 ((IntKind.wrap .i64 (b.start + (b.list.length : Int))) - 1))) (by first | (simp; done) | (simp [inR_iff]; done) | (simp [inR_iff]; grind) | grind) (fun hG => by simp [go_sem]) rfl rfl (by first | exact Or.inl rfl | exact Or.inr rfl) ?_
  simp [go_sem, ty4]
  first | refine h3 _ ?_ | refine ⟨by omega, h3 _ ?_⟩ | refine ⟨by omega, by omega, h3 _ ?_⟩ | (repeat (refine ⟨by first | omega | grind, ?_⟩)); refine h3 _ ?_
  clear h3 K3
  refine W_cond rfl (fun hb4 => ?_) fun hb4 => ?_
  · have q : inBlk b pc = false := by unfold inBlk; cases hb : blockOk b with | false => rfl | true => (simp [hb, hws hb, inR] at hb4 ⊢; omega)
    have q2 : atI b pc = zIns := if_neg (by simp [q])
    clear hb4
    refine W_seqK fun K5 h5 => ?_
    refine W_reg ?_
    simp [go_sem, ty4, ty69, fw69]
    first | refine h5 _ ?_ | refine ⟨by omega, h5 _ ?_⟩ | refine ⟨by omega, by omega, h5 _ ?_⟩ | (repeat (refine ⟨by first | omega | grind, ?_⟩)); refine h5 _ ?_
    clear h5 K5
    refine W_ret ?_
    simp [go_sem, ty69, q, q2, zIns]
  · obtain ⟨qo, qa, qb⟩ : blockOk b = true ∧ b.start ≤ pc ∧ pc < b.start + b.list.length := by simp [inR] at hb4; have hb := hb4.1; rw [hws hb] at hb4; exact ⟨hb, by omega, by omega⟩
    have q : inBlk b pc = true := by unfold inBlk; simp [qo, qa, qb]
    have hd := blockHd_of qo
    have hwp : IntKind.wrap .i64 (pc - b.start) = pc - b.start := wrap_ok (by omega) (by omega)
    have hp0 : 0 ≤ pc - b.start := by omega
    have hp1 : pc - b.start < b.list.length := by omega
    have hp2 : (pc - b.start).toNat < b.list.length := by omega
    have q2 : atI b pc = b.list[(pc - b.start).toNat] := by unfold atI; rw [if_pos q, List.getD_eq_getElem?_getD, List.getElem?_eq_getElem hp2]; rfl
    clear hb4
    refine W_skip ?_
    first | refine h2 _ ?_ | refine ⟨by omega, h2 _ ?_⟩ | refine ⟨by omega, by omega, h2 _ ?_⟩ | (repeat (refine ⟨by first | omega | grind, ?_⟩)); refine h2 _ ?_
    clear h2 K2
    refine W_seqK fun K6 h6 => ?_
    refine W_reg ?_
    simp [go_sem, ty3, ty4, ty60, ty62, ty69, hwp, hp0, hp1, hp2]
    first | refine h6 _ ?_ | refine ⟨by omega, h6 _ ?_⟩ | refine ⟨by omega, by omega, h6 _ ?_⟩ | (repeat (refine ⟨by first | omega | grind, ?_⟩)); refine h6 _ ?_
    clear h6 K6
    refine W_ret ?_
    simp [go_sem, ty69, q, q2]

set_option maxRecDepth 100000 in
set_option maxHeartbeats 4000000 in
theorem pc_spec_At (b : GBlock) (pc : Int) (hx : b.list.length ≤ 1048576) : PC Try.prog 121 [(true, eBlock b), (false, [.int .i64 pc])] [(true, eIns (atI b pc)), (false, [.bool (inBlk b pc)])] := by
  have hws : blockOk b = true → IntKind.wrap .i64 (b.start + b.list.length) = b.start + b.list.length := fun h => by have hd := blockHd_of h; exact wrap_ok (by omega) (by omega)
  refine PC_of (n := 34) Try.func121 rfl rfl rfl rfl (by simp) ?_
  refine W_seqK fun K1 h1 => ?_
  refine W_reg ?_
  simp [go_sem, ty4, ty62, ty69]
  first | refine h1 _ ?_ | refine ⟨by omega, h1 _ ?_⟩ | refine ⟨by omega, by omega, h1 _ ?_⟩ | (repeat (refine ⟨by first | omega | grind, ?_⟩)); refine h1 _ ?_
  clear h1 K1
  refine W_seqK fun K2 h2 => ?_
  refine W_seqK fun K3 h3 => ?_
  refine W_reg ?_
  simp [go_sem, ty4, ty62]
  refine callG_pc (fun hG => pc_spec_BlockOk b (by omega)) (by first | (simp; done) | (simp [inR_iff]; done) | (simp [inR_iff]; grind) | grind) (fun hG => by simp [go_sem]) rfl rfl (by first | exact Or.inl rfl | exact Or.inr rfl) ?_
  simp [go_sem, ty3, ty4, ty60, ty62, ty69]
  first | refine h3 _ ?_ | refine ⟨by omega, h3 _ ?_⟩ | refine ⟨by omega, by omega, h3 _ ?_⟩ | (repeat (refine ⟨by first | omega | grind, ?_⟩)); refine h3 _ ?_
  clear h3 K3
  refine W_cond rfl (fun hb4 => ?_) fun hb4 => ?_
  · have q : inBlk b pc = false := by unfold inBlk; cases hb : blockOk b with | false => rfl | true => (simp [hb, hws hb] at hb4 ⊢; omega)
    have q2 : atI b pc = zIns := if_neg (by simp [q])
    clear hb4
    refine W_seqK fun K5 h5 => ?_
    refine W_reg ?_
    simp [go_sem, ty4, ty69, fw69]
    first | refine h5 _ ?_ | refine ⟨by omega, h5 _ ?_⟩ | refine ⟨by omega, by omega, h5 _ ?_⟩ | (repeat (refine ⟨by first | omega | grind, ?_⟩)); refine h5 _ ?_
    clear h5 K5
    refine W_ret ?_
    simp [go_sem, ty69, q, q2, zIns]
  · obtain ⟨qo, qa, qb⟩ : blockOk b = true ∧ b.start ≤ pc ∧ pc < b.start + b.list.length := by simp at hb4; have hb := hb4.1.1; rw [hws hb] at hb4; exact ⟨hb, by omega, by omega⟩
    have q : inBlk b pc = true := by unfold inBlk; simp [qo, qa, qb]
    have hd := blockHd_of qo
    have hwp : IntKind.wrap .i64 (pc - b.start) = pc - b.start := wrap_ok (by omega) (by omega)
    have hp0 : 0 ≤ pc - b.start := by omega
    have hp1 : pc - b.start < b.list.length := by omega
    have hp2 : (pc - b.start).toNat < b.list.length := by omega
    have q2 : atI b pc = b.list[(pc - b.start).toNat] := by unfold atI; rw [if_pos q, List.getD_eq_getElem?_getD, List.getElem?_eq_getElem hp2]; rfl
    clear hb4
    refine W_skip ?_
    first | refine h2 _ ?_ | refine ⟨by omega, h2 _ ?_⟩ | refine ⟨by omega, by omega, h2 _ ?_⟩ | (repeat (refine ⟨by first | omega | grind, ?_⟩)); refine h2 _ ?_
    clear h2 K2
    refine W_seqK fun K6 h6 => ?_
    refine W_reg ?_
    simp [go_sem, ty3, ty4, ty60, ty62, ty69, hwp, hp0, hp1, hp2]
    first | refine h6 _ ?_ | refine ⟨by omega, h6 _ ?_⟩ | refine ⟨by omega, by omega, h6 _ ?_⟩ | (repeat (refine ⟨by first | omega | grind, ?_⟩)); refine h6 _ ?_
    clear h6 K6
    refine W_ret ?_
    simp [go_sem, ty69, q, q2]

set_option maxRecDepth 100000 in
set_option maxHeartbeats 4000000 in
theorem pc_impl_PageOf (b : GBlock) (hx : b.list.length ≤ 1048576) : PC Try.prog 110 [(true, eBlock b)] [(false, [.int .i64 (pageOf b)])] := by
  refine PC_of (n := 9) Try.func110 rfl rfl rfl rfl (by simp) ?_
  refine W_seqK fun K1 h1 => ?_
  refine W_reg ?_
  simp [go_sem, ty3, ty62]
  first | refine h1 _ ?_ | refine ⟨by omega, h1 _ ?_⟩ | refine ⟨by omega, by omega, h1 _ ?_⟩ | (repeat (refine ⟨by first | omega | grind, ?_⟩)); refine h1 _ ?_
  clear h1 K1
  refine W_seqK fun K2 h2 => ?_
  refine W_seqK fun K3 h3 => ?_
  refine W_reg ?_
  simp [go_sem, ty4, ty62]
  refine callG_pc (fun hG => pc_impl_BlockOk b (by omega)) (by first | (simp; done) | (simp [inR_iff]; done) | (simp [inR_iff]; grind) | grind) (fun hG => by simp [go_sem]) rfl rfl (by first | exact Or.inl rfl | exact Or.inr rfl) ?_
  simp [go_sem, ty4]
  first | refine h3 _ ?_ | refine ⟨by omega, h3 _ ?_⟩ | refine ⟨by omega, by omega, h3 _ ?_⟩ | (repeat (refine ⟨by first | omega | grind, ?_⟩)); refine h3 _ ?_
  clear h3 K3
  refine W_cond rfl (fun hb4 => ?_) fun hb4 => ?_
  · have q : pageOf b = -1 := by unfold pageOf; rw [if_neg (by simpa using hb4)]
    refine W_seqK fun K5 h5 => ?_
    refine W_reg ?_
    simp [go_sem, ty3]
    first | refine h5 _ ?_ | refine ⟨by omega, h5 _ ?_⟩ | refine ⟨by omega, by omega, h5 _ ?_⟩ | (repeat (refine ⟨by first | omega | grind, ?_⟩)); refine h5 _ ?_
    clear h5 K5
    refine W_ret ?_
    simp [go_sem, q]
  · have qb : blockOk b = true := by simpa using hb4
    have qs := blockOk_start qb
    have q : pageOf b = IntKind.wrap .i64 (b.start.tdiv 4) := by unfold pageOf; rw [if_pos qb, tdiv_pos qs.1, wrap_ok (by omega) (by omega)]
    refine W_skip ?_
    first | refine h2 _ ?_ | refine ⟨by omega, h2 _ ?_⟩ | refine ⟨by omega, by omega, h2 _ ?_⟩ | (repeat (refine ⟨by first | omega | grind, ?_⟩)); refine h2 _ ?_
    clear h2 K2
    refine W_seqK fun K6 h6 => ?_
    refine W_reg ?_
    simp [go_sem, ty3, ty62]
    first | refine h6 _ ?_ | refine ⟨by omega, h6 _ ?_⟩ | refine ⟨by omega, by omega, h6 _ ?_⟩ | (repeat (refine ⟨by first | omega | grind, ?_⟩)); refine h6 _ ?_
    clear h6 K6
    refine W_ret ?_
    simp [go_sem, q]

set_option maxRecDepth 100000 in
set_option maxHeartbeats 4000000 in
theorem pc_spec_PageOf (b : GBlock) (hx : b.list.length ≤ 1048576) : PC Try.prog 114 [(true, eBlock b)] [(false, [.int .i64 (pageOf b)])] := by
  refine PC_of (n := 9) Try.func114 rfl rfl rfl rfl (by simp) ?_
  refine W_seqK fun K1 h1 => ?_
  refine W_reg ?_
  simp [go_sem, ty3, ty62]
  first | refine h1 _ ?_ | refine ⟨by omega, h1 _ ?_⟩ | refine ⟨by omega, by omega, h1 _ ?_⟩ | (repeat (refine ⟨by first | omega | grind, ?_⟩)); refine h1 _ ?_
  clear h1 K1
  refine W_seqK fun K2 h2 => ?_
  refine W_seqK fun K3 h3 => ?_
  refine W_reg ?_
  simp [go_sem, ty4, ty62]
  refine callG_pc (fun hG => pc_spec_BlockOk b (by omega)) (by first | (simp; done) | (simp [inR_iff]; done) | (simp [inR_iff]; grind) | grind) (fun hG => by simp [go_sem]) rfl rfl (by first | exact Or.inl rfl | exact Or.inr rfl) ?_
  simp [go_sem, ty4]
  first | refine h3 _ ?_ | refine ⟨by omega, h3 _ ?_⟩ | refine ⟨by omega, by omega, h3 _ ?_⟩ | (repeat (refine ⟨by first | omega | grind, ?_⟩)); refine h3 _ ?_
  clear h3 K3
  refine W_cond rfl (fun hb4 => ?_) fun hb4 => ?_
  · have q : pageOf b = -1 := by unfold pageOf; rw [if_neg (by simpa using hb4)]
    refine W_seqK fun K5 h5 => ?_
    refine W_reg ?_
    simp [go_sem, ty3]
    first | refine h5 _ ?_ | refine ⟨by omega, h5 _ ?_⟩ | refine ⟨by omega, by omega, h5 _ ?_⟩ | (repeat (refine ⟨by first | omega | grind, ?_⟩)); refine h5 _ ?_
    clear h5 K5
    refine W_ret ?_
    simp [go_sem, q]
  · have qb : blockOk b = true := by simpa using hb4
    have qs := blockOk_start qb
    have q : pageOf b = IntKind.wrap .i64 (b.start.tdiv 4) := by unfold pageOf; rw [if_pos qb, tdiv_pos qs.1, wrap_ok (by omega) (by omega)]
    refine W_skip ?_
    first | refine h2 _ ?_ | refine ⟨by omega, h2 _ ?_⟩ | refine ⟨by omega, by omega, h2 _ ?_⟩ | (repeat (refine ⟨by first | omega | grind, ?_⟩)); refine h2 _ ?_
    clear h2 K2
    refine W_seqK fun K6 h6 => ?_
    refine W_reg ?_
    simp [go_sem, ty3, ty62]
    first | refine h6 _ ?_ | refine ⟨by omega, h6 _ ?_⟩ | refine ⟨by omega, by omega, h6 _ ?_⟩ | (repeat (refine ⟨by first | omega | grind, ?_⟩)); refine h6 _ ?_
    clear h6 K6
    refine W_ret ?_
    simp [go_sem, q]
end Go.Tw
