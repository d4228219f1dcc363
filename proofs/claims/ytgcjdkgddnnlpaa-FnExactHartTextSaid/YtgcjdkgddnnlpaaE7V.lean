/- Walks of functions: spec.HartText -/
import Derived.Test.YtgcjdkgddnnlpaaE7T
set_option linter.unusedSimpArgs false
set_option linter.unusedVariables false
set_option linter.unnecessarySimpa false
namespace Go.Tw
open Go.Proofs

set_option maxRecDepth 100000 in
set_option maxHeartbeats 4000000 in
theorem pc_spec_HartText (h : GHart) (hx : h.regs.length ≤ 1048576) : PC Try.prog 33 [(true, eHart h)] [(false, [.str (hartText h)])] := by
  refine PC_of (n := 32) Try.func33 rfl rfl rfl rfl (by simp) ?_
  refine W_seqK fun K1 h1 => ?_
  refine W_reg ?_
  simp [go_sem, ty9, ty61]
  repeat refine ⟨by first | omega | grind, ?_⟩
  refine h1 _ ?_
  clear h1 K1
  refine W_seqK fun K2 h2 => ?_
  refine W_seqK fun K3 h3 => ?_
  refine W_reg ?_
  simp [go_sem, ty4, ty61]
  refine callG_pc (fun hG => pc_spec_HartOk h (by first | assumption | omega)) (by first | (simp; done) | (simp [inR_iff]; done) | (simp [inR_iff]; grind) | grind) (fun hG => by simp [go_sem]) rfl rfl (by first | exact Or.inl rfl | exact Or.inr rfl) ?_
  simp [go_sem, ty4]
  repeat refine ⟨by first | omega | grind, ?_⟩
  refine h3 _ ?_
  clear h3 K3
  refine W_cond rfl (fun hb4 => ?_) fun hb4 => ?_
  · have q : hartText h = ⟨#[]⟩ := if_neg (by simpa using hb4)
    clear hb4
    refine W_seqK fun K5 h5 => ?_
    refine W_reg ?_
    simp [go_sem, ty9]
    repeat refine ⟨by first | omega | grind, ?_⟩
    refine h5 _ ?_
    clear h5 K5
    refine W_ret ?_
    simp [go_sem, q]
  · have q : hartOk h = true := by simpa using hb4
    obtain ⟨-, hrl, hpc, hst⟩ := hart_facts q
    have hst3 : h.state = 0 ∨ h.state = 1 ∨ h.state = 2 := by omega
    have hrw : ∀ x ∈ h.regs, 0 ≤ x ∧ x ≤ 9223372036854775807 := fun x hx => by (obtain ⟨i, hi, rfl⟩ := List.getElem_of_mem hx); have := reg_word q hi; omega
    have hr9 : h.regs.length ≤ 1000 := by omega
    have hp0 : 0 ≤ h.pc := by omega
    have hp1 : h.pc ≤ 9223372036854775807 := by omega
    have zp := dgB_small (n := h.pc.toNat) (by omega)
    have z32 : (⟨#[32]⟩ : ByteArray).size = 1 := rfl
    clear hb4
    have n0 : (⟨#[114, 117, 110]⟩ : ByteArray).size = 3 := rfl
    have n1 : (⟨#[104, 97, 108, 116]⟩ : ByteArray).size = 4 := rfl
    have n2 : (⟨#[102, 97, 117, 108, 116]⟩ : ByteArray).size = 5 := rfl
    refine W_skip ?_
    repeat refine ⟨by first | omega | grind, ?_⟩
    refine h2 _ ?_
    clear h2 K2
    refine W_seqK fun K6 h6 => ?_
    rcases hst3 with hs | hs | hs
    · refine W_drawS true (.op 1 (.op 2 (.op 6 (.op 7 (.fork 0 (.op 3 (.op 4 (.op 5 (.op 8 (.op 9 (.op 10 .nil)))))) 8 (.op 0 (.op 3 (.op 4 (.op 5 (.op 9 (.op 10 .nil))))))))))) mixed (by decide +kernel) rfl ?_
      have hn : stName h.state = ⟨#[114, 117, 110]⟩ := by rw [hs]; rfl
      simp (config := {maxSteps := 10000000}) [go_sem, ty3, ty61, hs, ba_size, n0, z32]
      refine ⟨?_, ?_⟩
      · try simp (config := {maxSteps := 10000000}) [go_sem, ty3, ty9, ty122, hs, ba_size, n0, z32]
        repeat (refine ⟨by omega, ?_⟩)
        refine callG_pc (fun hG => pc_spec_l16Digits h.pc (by first | assumption | omega)) (by first | (simp; done) | (simp [inR_iff]; done) | (simp [inR_iff]; grind) | grind) (fun hG => by simp [go_sem]) rfl rfl (by first | exact Or.inl rfl | exact Or.inr rfl) ?_
        simp (config := {maxSteps := 10000000}) [go_sem, ty9, hs, ba_size, n0, z32]
        refine ⟨by omega, ?_⟩
        repeat refine ⟨by first | omega | grind, ?_⟩
        refine h6 _ ?_
        clear h6 K6
        refine W_seqK fun K7 h7 => ?_
        refine W_seqK fun K8 h8 => ?_
        refine W_reg ?_
        simp [go_sem, ty3]
        repeat refine ⟨by first | omega | grind, ?_⟩
        refine h8 _ ?_
        clear h8 K8
        refine W_block ?_
        refine W_loopI (α := Nat) (fun i => ({ env := [(1, true, .l (.ptr 3 0)), (3, true, .l (.t (.str (hartN h i)))), (4, true, .l (.t (.int .i64 (i))))], box := [(3, [.ref 0 [] 1 0 (h.regs).length, .t (.int .i64 h.pc), .t (.int .i64 h.state)])], row := [(0, ⟨.ro, 1, enc eI h.regs⟩)], nxt := 60, sav := [] } : St)) (fun i => i ≤ 4) (fun i => 4 - i) 0 ?_ ?_ ?_
        · exact Sub.of_neat [1, 3, 4] [0] [3] 60 (by decide) (by simp [go_sem, hartN, hartB, spB, hs, stName])
        · exact Nat.zero_le _
        rintro i hinv
        refine W_seqK fun K10 h10 => ?_
        refine W_seqK fun K11 h11 => ?_
        refine W_reg ?_
        simp [go_sem, ty3, ty4]
        repeat refine ⟨by first | omega | grind, ?_⟩
        refine h11 _ ?_
        clear h11 K11
        refine W_cond rfl (fun hb12 => ?_) fun hb12 => ?_
        · have hlt : i < h.regs.length := by simp at hb12; omega
          have hi4 : i < 4 := by omega
          obtain ⟨r0, r1⟩ := reg_word q hlt
          have zr := dgB_small (n := h.regs[i].toNat) (by omega)
          have zn := hartN_size q i (by omega)
          have hst9 : hartN h i ++ ⟨#[32]⟩ ++ dgB h.regs[i].toNat = hartN h (i + 1) := by (show _ = hartN h i ++ spB ++ dgB (h.regs.getD i 0).toNat); simp [hlt, spB]
          clear hb12
          refine W_skip ?_
          repeat refine ⟨by first | omega | grind, ?_⟩
          refine h10 _ ?_
          clear h10 K10
          refine W_seqK fun K13 h13 => ?_
          refine W_block ?_
          refine W_reg ?_
          simp [go_sem, ty3, ty9, ty22, ty61, hlt, ba_size, z32, hlt]
          repeat (refine ⟨by omega, ?_⟩)
          refine callG_pc (fun hG => pc_spec_l16Digits h.regs[i] (by omega)) (by first | (simp; done) | (simp [inR_iff]; done) | (simp [inR_iff]; grind) | grind) (fun hG => by simp [go_sem, hlt, hlt]) rfl rfl (by first | exact Or.inl rfl | exact Or.inr rfl) ?_
          simp [go_sem, ty9, hlt, ba_size, z32, hlt]
          refine ⟨by omega, ?_⟩
          repeat refine ⟨by first | omega | grind, ?_⟩
          refine h13 _ ?_
          clear h13 K13
          refine W_reg ?_
          simp [go_sem, ty3, hlt]
          refine ⟨i + 1, ?_, ?_, ?_⟩
          · exact Sub.of_neat [1, 3, 4] [0] [3] 60 (by decide) (by simp [go_sem, wrap_succ (show i < 9223372036854775807 by omega), hst9])
          · exact hi4
          · omega
        · have hi4 : i = 4 := by simp at hb12; omega
          have qq : hartText h = hartN h 4 := if_pos q
          clear hb12
          refine W_exit ?_
          simp [go_sem]
          repeat refine ⟨by first | omega | grind, ?_⟩
          refine h7 _ ?_
          clear h10 K10 h7 K7
          refine W_seqK fun K14 h14 => ?_
          refine W_reg ?_
          simp [go_sem, ty9]
          repeat refine ⟨by first | omega | grind, ?_⟩
          refine h14 _ ?_
          clear h14 K14
          refine W_ret ?_
          simp [go_sem, qq, hi4]
      · try simp (config := {maxSteps := 10000000}) [go_sem, ty3, ty9, hs, ba_size, n0, z32]
        repeat (refine ⟨by omega, ?_⟩)
        refine callG_pc (fun hG => pc_spec_l16Digits h.pc (by first | assumption | omega)) (by first | (simp; done) | (simp [inR_iff]; done) | (simp [inR_iff]; grind) | grind) (fun hG => by simp [go_sem]) rfl rfl (by first | exact Or.inl rfl | exact Or.inr rfl) ?_
        simp (config := {maxSteps := 10000000}) [go_sem, ty9, ty122, hs, ba_size, n0, z32]
        refine ⟨by omega, ?_⟩
        repeat refine ⟨by first | omega | grind, ?_⟩
        refine h6 _ ?_
        clear h6 K6
        refine W_seqK fun K15 h15 => ?_
        refine W_seqK fun K16 h16 => ?_
        refine W_reg ?_
        simp [go_sem, ty3]
        repeat refine ⟨by first | omega | grind, ?_⟩
        refine h16 _ ?_
        clear h16 K16
        refine W_block ?_
        refine W_loopI (α := Nat) (fun i => ({ env := [(1, true, .l (.ptr 3 0)), (3, true, .l (.t (.str (hartN h i)))), (4, true, .l (.t (.int .i64 (i))))], box := [(3, [.ref 0 [] 1 0 (h.regs).length, .t (.int .i64 h.pc), .t (.int .i64 h.state)])], row := [(0, ⟨.ro, 1, enc eI h.regs⟩)], nxt := 60, sav := [] } : St)) (fun i => i ≤ 4) (fun i => 4 - i) 0 ?_ ?_ ?_
        · exact Sub.of_neat [1, 3, 4] [0] [3] 60 (by decide) (by simp [go_sem, hartN, hartB, spB, hs, stName])
        · exact Nat.zero_le _
        rintro i hinv
        refine W_seqK fun K18 h18 => ?_
        refine W_seqK fun K19 h19 => ?_
        refine W_reg ?_
        simp [go_sem, ty3, ty4]
        repeat refine ⟨by first | omega | grind, ?_⟩
        refine h19 _ ?_
        clear h19 K19
        refine W_cond rfl (fun hb20 => ?_) fun hb20 => ?_
        · have hlt : i < h.regs.length := by simp at hb20; omega
          have hi4 : i < 4 := by omega
          obtain ⟨r0, r1⟩ := reg_word q hlt
          have zr := dgB_small (n := h.regs[i].toNat) (by omega)
          have zn := hartN_size q i (by omega)
          have hst9 : hartN h i ++ ⟨#[32]⟩ ++ dgB h.regs[i].toNat = hartN h (i + 1) := by (show _ = hartN h i ++ spB ++ dgB (h.regs.getD i 0).toNat); simp [hlt, spB]
          clear hb20
          refine W_skip ?_
          repeat refine ⟨by first | omega | grind, ?_⟩
          refine h18 _ ?_
          clear h18 K18
          refine W_seqK fun K21 h21 => ?_
          refine W_block ?_
          refine W_reg ?_
          simp [go_sem, ty3, ty9, ty22, ty61, hlt, ba_size, z32, hlt]
          repeat (refine ⟨by omega, ?_⟩)
          refine callG_pc (fun hG => pc_spec_l16Digits h.regs[i] (by omega)) (by first | (simp; done) | (simp [inR_iff]; done) | (simp [inR_iff]; grind) | grind) (fun hG => by simp [go_sem, hlt, hlt]) rfl rfl (by first | exact Or.inl rfl | exact Or.inr rfl) ?_
          simp [go_sem, ty9, hlt, ba_size, z32, hlt]
          refine ⟨by omega, ?_⟩
          repeat refine ⟨by first | omega | grind, ?_⟩
          refine h21 _ ?_
          clear h21 K21
          refine W_reg ?_
          simp [go_sem, ty3, hlt]
          refine ⟨i + 1, ?_, ?_, ?_⟩
          · exact Sub.of_neat [1, 3, 4] [0] [3] 60 (by decide) (by simp [go_sem, wrap_succ (show i < 9223372036854775807 by omega), hst9])
          · exact hi4
          · omega
        · have hi4 : i = 4 := by simp at hb20; omega
          have qq : hartText h = hartN h 4 := if_pos q
          clear hb20
          refine W_exit ?_
          simp [go_sem]
          repeat refine ⟨by first | omega | grind, ?_⟩
          refine h15 _ ?_
          clear h18 K18 h15 K15
          refine W_seqK fun K22 h22 => ?_
          refine W_reg ?_
          simp [go_sem, ty9]
          repeat refine ⟨by first | omega | grind, ?_⟩
          refine h22 _ ?_
          clear h22 K22
          refine W_ret ?_
          simp [go_sem, qq, hi4]
    · refine W_drawS true (.op 1 (.op 2 (.op 6 (.op 7 (.fork 0 (.op 3 (.op 4 (.op 5 (.op 8 (.op 9 (.op 10 .nil)))))) 8 (.op 0 (.op 3 (.op 4 (.op 5 (.op 9 (.op 10 .nil))))))))))) mixed (by decide +kernel) rfl ?_
      have hn : stName h.state = ⟨#[104, 97, 108, 116]⟩ := by rw [hs]; rfl
      simp (config := {maxSteps := 10000000}) [go_sem, ty3, ty61, hs, ba_size, n1, z32]
      refine ⟨?_, ?_⟩
      · try simp (config := {maxSteps := 10000000}) [go_sem, ty3, ty9, ty122, hs, ba_size, n1, z32]
        repeat (refine ⟨by omega, ?_⟩)
        refine callG_pc (fun hG => pc_spec_l16Digits h.pc (by first | assumption | omega)) (by first | (simp; done) | (simp [inR_iff]; done) | (simp [inR_iff]; grind) | grind) (fun hG => by simp [go_sem]) rfl rfl (by first | exact Or.inl rfl | exact Or.inr rfl) ?_
        simp (config := {maxSteps := 10000000}) [go_sem, ty9, hs, ba_size, n1, z32]
        refine ⟨by omega, ?_⟩
        repeat refine ⟨by first | omega | grind, ?_⟩
        refine h6 _ ?_
        clear h6 K6
        refine W_seqK fun K23 h23 => ?_
        refine W_seqK fun K24 h24 => ?_
        refine W_reg ?_
        simp [go_sem, ty3]
        repeat refine ⟨by first | omega | grind, ?_⟩
        refine h24 _ ?_
        clear h24 K24
        refine W_block ?_
        refine W_loopI (α := Nat) (fun i => ({ env := [(1, true, .l (.ptr 3 0)), (3, true, .l (.t (.str (hartN h i)))), (4, true, .l (.t (.int .i64 (i))))], box := [(3, [.ref 0 [] 1 0 (h.regs).length, .t (.int .i64 h.pc), .t (.int .i64 h.state)])], row := [(0, ⟨.ro, 1, enc eI h.regs⟩)], nxt := 60, sav := [] } : St)) (fun i => i ≤ 4) (fun i => 4 - i) 0 ?_ ?_ ?_
        · exact Sub.of_neat [1, 3, 4] [0] [3] 60 (by decide) (by simp [go_sem, hartN, hartB, spB, hs, stName])
        · exact Nat.zero_le _
        rintro i hinv
        refine W_seqK fun K26 h26 => ?_
        refine W_seqK fun K27 h27 => ?_
        refine W_reg ?_
        simp [go_sem, ty3, ty4]
        repeat refine ⟨by first | omega | grind, ?_⟩
        refine h27 _ ?_
        clear h27 K27
        refine W_cond rfl (fun hb28 => ?_) fun hb28 => ?_
        · have hlt : i < h.regs.length := by simp at hb28; omega
          have hi4 : i < 4 := by omega
          obtain ⟨r0, r1⟩ := reg_word q hlt
          have zr := dgB_small (n := h.regs[i].toNat) (by omega)
          have zn := hartN_size q i (by omega)
          have hst9 : hartN h i ++ ⟨#[32]⟩ ++ dgB h.regs[i].toNat = hartN h (i + 1) := by (show _ = hartN h i ++ spB ++ dgB (h.regs.getD i 0).toNat); simp [hlt, spB]
          clear hb28
          refine W_skip ?_
          repeat refine ⟨by first | omega | grind, ?_⟩
          refine h26 _ ?_
          clear h26 K26
          refine W_seqK fun K29 h29 => ?_
          refine W_block ?_
          refine W_reg ?_
          simp [go_sem, ty3, ty9, ty22, ty61, hlt, ba_size, z32, hlt]
          repeat (refine ⟨by omega, ?_⟩)
          refine callG_pc (fun hG => pc_spec_l16Digits h.regs[i] (by omega)) (by first | (simp; done) | (simp [inR_iff]; done) | (simp [inR_iff]; grind) | grind) (fun hG => by simp [go_sem, hlt, hlt]) rfl rfl (by first | exact Or.inl rfl | exact Or.inr rfl) ?_
          simp [go_sem, ty9, hlt, ba_size, z32, hlt]
          refine ⟨by omega, ?_⟩
          repeat refine ⟨by first | omega | grind, ?_⟩
          refine h29 _ ?_
          clear h29 K29
          refine W_reg ?_
          simp [go_sem, ty3, hlt]
          refine ⟨i + 1, ?_, ?_, ?_⟩
          · exact Sub.of_neat [1, 3, 4] [0] [3] 60 (by decide) (by simp [go_sem, wrap_succ (show i < 9223372036854775807 by omega), hst9])
          · exact hi4
          · omega
        · have hi4 : i = 4 := by simp at hb28; omega
          have qq : hartText h = hartN h 4 := if_pos q
          clear hb28
          refine W_exit ?_
          simp [go_sem]
          repeat refine ⟨by first | omega | grind, ?_⟩
          refine h23 _ ?_
          clear h26 K26 h23 K23
          refine W_seqK fun K30 h30 => ?_
          refine W_reg ?_
          simp [go_sem, ty9]
          repeat refine ⟨by first | omega | grind, ?_⟩
          refine h30 _ ?_
          clear h30 K30
          refine W_ret ?_
          simp [go_sem, qq, hi4]
      · try simp (config := {maxSteps := 10000000}) [go_sem, ty3, ty9, hs, ba_size, n1, z32]
        repeat (refine ⟨by omega, ?_⟩)
        refine callG_pc (fun hG => pc_spec_l16Digits h.pc (by first | assumption | omega)) (by first | (simp; done) | (simp [inR_iff]; done) | (simp [inR_iff]; grind) | grind) (fun hG => by simp [go_sem]) rfl rfl (by first | exact Or.inl rfl | exact Or.inr rfl) ?_
        simp (config := {maxSteps := 10000000}) [go_sem, ty9, ty122, hs, ba_size, n1, z32]
        refine ⟨by omega, ?_⟩
        repeat refine ⟨by first | omega | grind, ?_⟩
        refine h6 _ ?_
        clear h6 K6
        refine W_seqK fun K31 h31 => ?_
        refine W_seqK fun K32 h32 => ?_
        refine W_reg ?_
        simp [go_sem, ty3]
        repeat refine ⟨by first | omega | grind, ?_⟩
        refine h32 _ ?_
        clear h32 K32
        refine W_block ?_
        refine W_loopI (α := Nat) (fun i => ({ env := [(1, true, .l (.ptr 3 0)), (3, true, .l (.t (.str (hartN h i)))), (4, true, .l (.t (.int .i64 (i))))], box := [(3, [.ref 0 [] 1 0 (h.regs).length, .t (.int .i64 h.pc), .t (.int .i64 h.state)])], row := [(0, ⟨.ro, 1, enc eI h.regs⟩)], nxt := 60, sav := [] } : St)) (fun i => i ≤ 4) (fun i => 4 - i) 0 ?_ ?_ ?_
        · exact Sub.of_neat [1, 3, 4] [0] [3] 60 (by decide) (by simp [go_sem, hartN, hartB, spB, hs, stName])
        · exact Nat.zero_le _
        rintro i hinv
        refine W_seqK fun K34 h34 => ?_
        refine W_seqK fun K35 h35 => ?_
        refine W_reg ?_
        simp [go_sem, ty3, ty4]
        repeat refine ⟨by first | omega | grind, ?_⟩
        refine h35 _ ?_
        clear h35 K35
        refine W_cond rfl (fun hb36 => ?_) fun hb36 => ?_
        · have hlt : i < h.regs.length := by simp at hb36; omega
          have hi4 : i < 4 := by omega
          obtain ⟨r0, r1⟩ := reg_word q hlt
          have zr := dgB_small (n := h.regs[i].toNat) (by omega)
          have zn := hartN_size q i (by omega)
          have hst9 : hartN h i ++ ⟨#[32]⟩ ++ dgB h.regs[i].toNat = hartN h (i + 1) := by (show _ = hartN h i ++ spB ++ dgB (h.regs.getD i 0).toNat); simp [hlt, spB]
          clear hb36
          refine W_skip ?_
          repeat refine ⟨by first | omega | grind, ?_⟩
          refine h34 _ ?_
          clear h34 K34
          refine W_seqK fun K37 h37 => ?_
          refine W_block ?_
          refine W_reg ?_
          simp [go_sem, ty3, ty9, ty22, ty61, hlt, ba_size, z32, hlt]
          repeat (refine ⟨by omega, ?_⟩)
          refine callG_pc (fun hG => pc_spec_l16Digits h.regs[i] (by omega)) (by first | (simp; done) | (simp [inR_iff]; done) | (simp [inR_iff]; grind) | grind) (fun hG => by simp [go_sem, hlt, hlt]) rfl rfl (by first | exact Or.inl rfl | exact Or.inr rfl) ?_
          simp [go_sem, ty9, hlt, ba_size, z32, hlt]
          refine ⟨by omega, ?_⟩
          repeat refine ⟨by first | omega | grind, ?_⟩
          refine h37 _ ?_
          clear h37 K37
          refine W_reg ?_
          simp [go_sem, ty3, hlt]
          refine ⟨i + 1, ?_, ?_, ?_⟩
          · exact Sub.of_neat [1, 3, 4] [0] [3] 60 (by decide) (by simp [go_sem, wrap_succ (show i < 9223372036854775807 by omega), hst9])
          · exact hi4
          · omega
        · have hi4 : i = 4 := by simp at hb36; omega
          have qq : hartText h = hartN h 4 := if_pos q
          clear hb36
          refine W_exit ?_
          simp [go_sem]
          repeat refine ⟨by first | omega | grind, ?_⟩
          refine h31 _ ?_
          clear h34 K34 h31 K31
          refine W_seqK fun K38 h38 => ?_
          refine W_reg ?_
          simp [go_sem, ty9]
          repeat refine ⟨by first | omega | grind, ?_⟩
          refine h38 _ ?_
          clear h38 K38
          refine W_ret ?_
          simp [go_sem, qq, hi4]
    · refine W_drawS true (.op 1 (.op 2 (.op 6 (.op 7 (.fork 0 (.op 3 (.op 4 (.op 5 (.op 8 (.op 9 (.op 10 .nil)))))) 8 (.op 0 (.op 3 (.op 4 (.op 5 (.op 9 (.op 10 .nil))))))))))) mixed (by decide +kernel) rfl ?_
      have hn : stName h.state = ⟨#[102, 97, 117, 108, 116]⟩ := by rw [hs]; rfl
      simp (config := {maxSteps := 10000000}) [go_sem, ty3, ty61, hs, ba_size, n2, z32]
      refine ⟨?_, ?_⟩
      · try simp (config := {maxSteps := 10000000}) [go_sem, ty3, ty9, ty122, hs, ba_size, n2, z32]
        repeat (refine ⟨by omega, ?_⟩)
        refine callG_pc (fun hG => pc_spec_l16Digits h.pc (by first | assumption | omega)) (by first | (simp; done) | (simp [inR_iff]; done) | (simp [inR_iff]; grind) | grind) (fun hG => by simp [go_sem]) rfl rfl (by first | exact Or.inl rfl | exact Or.inr rfl) ?_
        simp (config := {maxSteps := 10000000}) [go_sem, ty9, hs, ba_size, n2, z32]
        refine ⟨by omega, ?_⟩
        repeat refine ⟨by first | omega | grind, ?_⟩
        refine h6 _ ?_
        clear h6 K6
        refine W_seqK fun K39 h39 => ?_
        refine W_seqK fun K40 h40 => ?_
        refine W_reg ?_
        simp [go_sem, ty3]
        repeat refine ⟨by first | omega | grind, ?_⟩
        refine h40 _ ?_
        clear h40 K40
        refine W_block ?_
        refine W_loopI (α := Nat) (fun i => ({ env := [(1, true, .l (.ptr 3 0)), (3, true, .l (.t (.str (hartN h i)))), (4, true, .l (.t (.int .i64 (i))))], box := [(3, [.ref 0 [] 1 0 (h.regs).length, .t (.int .i64 h.pc), .t (.int .i64 h.state)])], row := [(0, ⟨.ro, 1, enc eI h.regs⟩)], nxt := 60, sav := [] } : St)) (fun i => i ≤ 4) (fun i => 4 - i) 0 ?_ ?_ ?_
        · exact Sub.of_neat [1, 3, 4] [0] [3] 60 (by decide) (by simp [go_sem, hartN, hartB, spB, hs, stName])
        · exact Nat.zero_le _
        rintro i hinv
        refine W_seqK fun K42 h42 => ?_
        refine W_seqK fun K43 h43 => ?_
        refine W_reg ?_
        simp [go_sem, ty3, ty4]
        repeat refine ⟨by first | omega | grind, ?_⟩
        refine h43 _ ?_
        clear h43 K43
        refine W_cond rfl (fun hb44 => ?_) fun hb44 => ?_
        · have hlt : i < h.regs.length := by simp at hb44; omega
          have hi4 : i < 4 := by omega
          obtain ⟨r0, r1⟩ := reg_word q hlt
          have zr := dgB_small (n := h.regs[i].toNat) (by omega)
          have zn := hartN_size q i (by omega)
          have hst9 : hartN h i ++ ⟨#[32]⟩ ++ dgB h.regs[i].toNat = hartN h (i + 1) := by (show _ = hartN h i ++ spB ++ dgB (h.regs.getD i 0).toNat); simp [hlt, spB]
          clear hb44
          refine W_skip ?_
          repeat refine ⟨by first | omega | grind, ?_⟩
          refine h42 _ ?_
          clear h42 K42
          refine W_seqK fun K45 h45 => ?_
          refine W_block ?_
          refine W_reg ?_
          simp [go_sem, ty3, ty9, ty22, ty61, hlt, ba_size, z32, hlt]
          repeat (refine ⟨by omega, ?_⟩)
          refine callG_pc (fun hG => pc_spec_l16Digits h.regs[i] (by omega)) (by first | (simp; done) | (simp [inR_iff]; done) | (simp [inR_iff]; grind) | grind) (fun hG => by simp [go_sem, hlt, hlt]) rfl rfl (by first | exact Or.inl rfl | exact Or.inr rfl) ?_
          simp [go_sem, ty9, hlt, ba_size, z32, hlt]
          refine ⟨by omega, ?_⟩
          repeat refine ⟨by first | omega | grind, ?_⟩
          refine h45 _ ?_
          clear h45 K45
          refine W_reg ?_
          simp [go_sem, ty3, hlt]
          refine ⟨i + 1, ?_, ?_, ?_⟩
          · exact Sub.of_neat [1, 3, 4] [0] [3] 60 (by decide) (by simp [go_sem, wrap_succ (show i < 9223372036854775807 by omega), hst9])
          · exact hi4
          · omega
        · have hi4 : i = 4 := by simp at hb44; omega
          have qq : hartText h = hartN h 4 := if_pos q
          clear hb44
          refine W_exit ?_
          simp [go_sem]
          repeat refine ⟨by first | omega | grind, ?_⟩
          refine h39 _ ?_
          clear h42 K42 h39 K39
          refine W_seqK fun K46 h46 => ?_
          refine W_reg ?_
          simp [go_sem, ty9]
          repeat refine ⟨by first | omega | grind, ?_⟩
          refine h46 _ ?_
          clear h46 K46
          refine W_ret ?_
          simp [go_sem, qq, hi4]
      · try simp (config := {maxSteps := 10000000}) [go_sem, ty3, ty9, hs, ba_size, n2, z32]
        repeat (refine ⟨by omega, ?_⟩)
        refine callG_pc (fun hG => pc_spec_l16Digits h.pc (by first | assumption | omega)) (by first | (simp; done) | (simp [inR_iff]; done) | (simp [inR_iff]; grind) | grind) (fun hG => by simp [go_sem]) rfl rfl (by first | exact Or.inl rfl | exact Or.inr rfl) ?_
        simp (config := {maxSteps := 10000000}) [go_sem, ty9, ty122, hs, ba_size, n2, z32]
        refine ⟨by omega, ?_⟩
        repeat refine ⟨by first | omega | grind, ?_⟩
        refine h6 _ ?_
        clear h6 K6
        refine W_seqK fun K47 h47 => ?_
        refine W_seqK fun K48 h48 => ?_
        refine W_reg ?_
        simp [go_sem, ty3]
        repeat refine ⟨by first | omega | grind, ?_⟩
        refine h48 _ ?_
        clear h48 K48
        refine W_block ?_
        refine W_loopI (α := Nat) (fun i => ({ env := [(1, true, .l (.ptr 3 0)), (3, true, .l (.t (.str (hartN h i)))), (4, true, .l (.t (.int .i64 (i))))], box := [(3, [.ref 0 [] 1 0 (h.regs).length, .t (.int .i64 h.pc), .t (.int .i64 h.state)])], row := [(0, ⟨.ro, 1, enc eI h.regs⟩)], nxt := 60, sav := [] } : St)) (fun i => i ≤ 4) (fun i => 4 - i) 0 ?_ ?_ ?_
        · exact Sub.of_neat [1, 3, 4] [0] [3] 60 (by decide) (by simp [go_sem, hartN, hartB, spB, hs, stName])
        · exact Nat.zero_le _
        rintro i hinv
        refine W_seqK fun K50 h50 => ?_
        refine W_seqK fun K51 h51 => ?_
        refine W_reg ?_
        simp [go_sem, ty3, ty4]
        repeat refine ⟨by first | omega | grind, ?_⟩
        refine h51 _ ?_
        clear h51 K51
        refine W_cond rfl (fun hb52 => ?_) fun hb52 => ?_
        · have hlt : i < h.regs.length := by simp at hb52; omega
          have hi4 : i < 4 := by omega
          obtain ⟨r0, r1⟩ := reg_word q hlt
          have zr := dgB_small (n := h.regs[i].toNat) (by omega)
          have zn := hartN_size q i (by omega)
          have hst9 : hartN h i ++ ⟨#[32]⟩ ++ dgB h.regs[i].toNat = hartN h (i + 1) := by (show _ = hartN h i ++ spB ++ dgB (h.regs.getD i 0).toNat); simp [hlt, spB]
          clear hb52
          refine W_skip ?_
          repeat refine ⟨by first | omega | grind, ?_⟩
          refine h50 _ ?_
          clear h50 K50
          refine W_seqK fun K53 h53 => ?_
          refine W_block ?_
          refine W_reg ?_
          simp [go_sem, ty3, ty9, ty22, ty61, hlt, ba_size, z32, hlt]
          repeat (refine ⟨by omega, ?_⟩)
          refine callG_pc (fun hG => pc_spec_l16Digits h.regs[i] (by omega)) (by first | (simp; done) | (simp [inR_iff]; done) | (simp [inR_iff]; grind) | grind) (fun hG => by simp [go_sem, hlt, hlt]) rfl rfl (by first | exact Or.inl rfl | exact Or.inr rfl) ?_
          simp [go_sem, ty9, hlt, ba_size, z32, hlt]
          refine ⟨by omega, ?_⟩
          repeat refine ⟨by first | omega | grind, ?_⟩
          refine h53 _ ?_
          clear h53 K53
          refine W_reg ?_
          simp [go_sem, ty3, hlt]
          refine ⟨i + 1, ?_, ?_, ?_⟩
          · exact Sub.of_neat [1, 3, 4] [0] [3] 60 (by decide) (by simp [go_sem, wrap_succ (show i < 9223372036854775807 by omega), hst9])
          · exact hi4
          · omega
        · have hi4 : i = 4 := by simp at hb52; omega
          have qq : hartText h = hartN h 4 := if_pos q
          clear hb52
          refine W_exit ?_
          simp [go_sem]
          repeat refine ⟨by first | omega | grind, ?_⟩
          refine h47 _ ?_
          clear h50 K50 h47 K47
          refine W_seqK fun K54 h54 => ?_
          refine W_reg ?_
          simp [go_sem, ty9]
          repeat refine ⟨by first | omega | grind, ?_⟩
          refine h54 _ ?_
          clear h54 K54
          refine W_ret ?_
          simp [go_sem, qq, hi4]
end Go.Tw
