/- Walks of functions: impl.HartText -/
import Derived.Test.YtgcjdkgddnnlpaaE7T
set_option linter.unusedSimpArgs false
set_option linter.unusedVariables false
set_option linter.unnecessarySimpa false
namespace Go.Tw
open Go.Proofs

set_option maxRecDepth 100000 in
set_option maxHeartbeats 4000000 in
theorem pc_impl_HartText (h : GHart) (hx : h.regs.length ≤ 1048576) : PC Try.prog 35 [(true, eHart h)] [(false, [.str (hartText h)])] := by
  refine PC_of (n := 21) Try.func35 rfl rfl rfl rfl (by simp) ?_
  refine W_seqK fun K1 h1 => ?_
  refine W_reg ?_
  simp [go_sem, ty9, ty61]
  repeat refine ⟨by first | omega | grind, ?_⟩
  refine h1 _ ?_
  clear h1 K1
  refine W_seqK fun K2 h2 => ?_
  refine W_seqK fun K3 h3 => ?_
  refine W_reg ?_
  simp [go_sem, ty4, ty61]
  refine callG_pc (fun hG => pc_impl_HartOk h (by first | assumption | omega)) (by first | (simp; done) | (simp [inR_iff]; done) | (simp [inR_iff]; grind) | grind) (fun hG => by simp [go_sem]) rfl rfl (by first | exact Or.inl rfl | exact Or.inr rfl) ?_
  simp [go_sem, ty4]
  repeat refine ⟨by first | omega | grind, ?_⟩
  refine h3 _ ?_
  clear h3 K3
  refine W_cond rfl (fun hb4 => ?_) fun hb4 => ?_
  · have q : hartText h = ⟨#[]⟩ := if_neg (by simpa using hb4)
    clear hb4
    refine W_seqK fun K5 h5 => ?_
    refine W_reg ?_
    simp [go_sem, ty9]
    repeat refine ⟨by first | omega | grind, ?_⟩
    refine h5 _ ?_
    clear h5 K5
    refine W_ret ?_
    simp [go_sem, q]
  · have q : hartOk h = true := by simpa using hb4
    obtain ⟨-, hrl, hpc, hst⟩ := hart_facts q
    have hst3 : h.state = 0 ∨ h.state = 1 ∨ h.state = 2 := by omega
    have hrw : ∀ x ∈ h.regs, 0 ≤ x ∧ x ≤ 9223372036854775807 := fun x hx => by (obtain ⟨i, hi, rfl⟩ := List.getElem_of_mem hx); have := reg_word q hi; omega
    have hr9 : h.regs.length ≤ 1000 := by omega
    have hp0 : 0 ≤ h.pc := by omega
    have hp1 : h.pc ≤ 9223372036854775807 := by omega
    have zp := dgB_small (n := h.pc.toNat) (by omega)
    have z32 : (⟨#[32]⟩ : ByteArray).size = 1 := rfl
    clear hb4
    have n0 : (⟨#[114, 117, 110]⟩ : ByteArray).size = 3 := rfl
    have n1 : (⟨#[104, 97, 108, 116]⟩ : ByteArray).size = 4 := rfl
    have n2 : (⟨#[102, 97, 117, 108, 116]⟩ : ByteArray).size = 5 := rfl
    have zj := joinT_size (c := 19) (xs := h.regs.map fun n => dgB n.toNat) (sep := ⟨#[32]⟩) (by intro s hs; obtain ⟨n, hn, rfl⟩ := List.mem_map.1 hs; exact dgB_small (by have := hrw n hn; omega))
    have hml : (h.regs.map fun n => dgB n.toNat).length = 4 := by simp; omega
    rw [hml, z32] at zj
    refine W_skip ?_
    repeat refine ⟨by first | omega | grind, ?_⟩
    refine h2 _ ?_
    clear h2 K2
    refine W_seqK fun K6 h6 => ?_
    rcases hst3 with hs | hs | hs
    · refine W_drawS true (.op 1 (.op 2 (.op 6 (.op 7 (.op 11 (.op 12 (.fork 0 (.op 3 (.op 4 (.op 5 (.op 8 (.op 9 (.op 10 (.op 13 (.op 14 (.op 15 .nil))))))))) 8 (.fork 0 (.op 3 (.op 4 (.op 5 (.op 9 (.op 10 (.op 13 (.op 14 (.op 15 .nil)))))))) 13 (.op 0 (.op 3 (.op 4 (.op 5 (.op 9 (.op 10 (.op 14 (.op 15 .nil)))))))))))))))) mixed (by decide +kernel) rfl ?_
      have hn : stName h.state = ⟨#[114, 117, 110]⟩ := by rw [hs]; rfl
      simp (config := {maxSteps := 10000000}) [go_sem, ty3, ty22, ty61, hs, ba_size, n0, z32]
      refine ⟨?_, ?_⟩
      · try simp (config := {maxSteps := 10000000}) [go_sem, ty3, ty9, ty122, hs, ba_size, n0, z32]
        repeat (refine ⟨by omega, ?_⟩)
        refine callG_pc (fun hG => pc_impl_digits h.pc (by first | assumption | omega) (by first | assumption | omega)) (by first | (simp; done) | (simp [inR_iff]; done) | (simp [inR_iff]; grind) | grind) (fun hG => by simp [go_sem]) rfl rfl (by first | exact Or.inl rfl | exact Or.inr rfl) ?_
        simp (config := {maxSteps := 10000000}) [go_sem, ty3, ty9, ty22, hs, ba_size, n0, z32]
        repeat (refine ⟨by omega, ?_⟩)
        refine callG_pc (fun hG => pc_impl_spaced h.regs (by first | assumption | omega) (by first | assumption | omega)) (by first | (simp; done) | (simp [inR_iff]; done) | (simp [inR_iff]; grind) | grind) (fun hG => by simp [go_sem]) rfl rfl (by first | exact Or.inl rfl | exact Or.inr rfl) ?_
        simp (config := {maxSteps := 10000000}) [go_sem, ty9, hs, ba_size, n0, z32]
        refine ⟨by omega, ?_⟩
        repeat refine ⟨by first | omega | grind, ?_⟩
        refine h6 _ ?_
        clear h6 K6
        refine W_ret ?_
        have e := hartText_join q
        simp only [hartB, spB, hn] at e
        simp [go_sem, e]
      · try simp (config := {maxSteps := 10000000}) [go_sem, ty3, ty9, hs, ba_size, n0, z32]
        repeat (refine ⟨by omega, ?_⟩)
        refine callG_pc (fun hG => pc_impl_digits h.pc (by first | assumption | omega) (by first | assumption | omega)) (by first | (simp; done) | (simp [inR_iff]; done) | (simp [inR_iff]; grind) | grind) (fun hG => by simp [go_sem]) rfl rfl (by first | exact Or.inl rfl | exact Or.inr rfl) ?_
        simp (config := {maxSteps := 10000000}) [go_sem, hs, ba_size, n0, z32]
        refine ⟨?_, ?_⟩
        · try simp (config := {maxSteps := 10000000}) [go_sem, ty3, ty9, ty22, ty122, hs, ba_size, n0, z32]
          repeat (refine ⟨by omega, ?_⟩)
          refine callG_pc (fun hG => pc_impl_spaced h.regs (by first | assumption | omega) (by first | assumption | omega)) (by first | (simp; done) | (simp [inR_iff]; done) | (simp [inR_iff]; grind) | grind) (fun hG => by simp [go_sem]) rfl rfl (by first | exact Or.inl rfl | exact Or.inr rfl) ?_
          simp (config := {maxSteps := 10000000}) [go_sem, ty9, hs, ba_size, n0, z32]
          refine ⟨by omega, ?_⟩
          repeat refine ⟨by first | omega | grind, ?_⟩
          refine h6 _ ?_
          clear h6 K6
          refine W_ret ?_
          have e := hartText_join q
          simp only [hartB, spB, hn] at e
          simp [go_sem, e]
        · try simp (config := {maxSteps := 10000000}) [go_sem, ty3, ty9, ty22, hs, ba_size, n0, z32]
          repeat (refine ⟨by omega, ?_⟩)
          refine callG_pc (fun hG => pc_impl_spaced h.regs (by first | assumption | omega) (by first | assumption | omega)) (by first | (simp; done) | (simp [inR_iff]; done) | (simp [inR_iff]; grind) | grind) (fun hG => by simp [go_sem]) rfl rfl (by first | exact Or.inl rfl | exact Or.inr rfl) ?_
          simp (config := {maxSteps := 10000000}) [go_sem, ty9, ty122, hs, ba_size, n0, z32]
          refine ⟨by omega, ?_⟩
          repeat refine ⟨by first | omega | grind, ?_⟩
          refine h6 _ ?_
          clear h6 K6
          refine W_ret ?_
          have e := hartText_join q
          simp only [hartB, spB, hn] at e
          simp [go_sem, e]
    · refine W_drawS true (.op 1 (.op 2 (.op 6 (.op 7 (.op 11 (.op 12 (.fork 0 (.op 3 (.op 4 (.op 5 (.op 8 (.op 9 (.op 10 (.op 13 (.op 14 (.op 15 .nil))))))))) 8 (.fork 0 (.op 3 (.op 4 (.op 5 (.op 9 (.op 10 (.op 13 (.op 14 (.op 15 .nil)))))))) 13 (.op 0 (.op 3 (.op 4 (.op 5 (.op 9 (.op 10 (.op 14 (.op 15 .nil)))))))))))))))) mixed (by decide +kernel) rfl ?_
      have hn : stName h.state = ⟨#[104, 97, 108, 116]⟩ := by rw [hs]; rfl
      simp (config := {maxSteps := 10000000}) [go_sem, ty3, ty22, ty61, hs, ba_size, n1, z32]
      refine ⟨?_, ?_⟩
      · try simp (config := {maxSteps := 10000000}) [go_sem, ty3, ty9, ty122, hs, ba_size, n1, z32]
        repeat (refine ⟨by omega, ?_⟩)
        refine callG_pc (fun hG => pc_impl_digits h.pc (by first | assumption | omega) (by first | assumption | omega)) (by first | (simp; done) | (simp [inR_iff]; done) | (simp [inR_iff]; grind) | grind) (fun hG => by simp [go_sem]) rfl rfl (by first | exact Or.inl rfl | exact Or.inr rfl) ?_
        simp (config := {maxSteps := 10000000}) [go_sem, ty3, ty9, ty22, hs, ba_size, n1, z32]
        repeat (refine ⟨by omega, ?_⟩)
        refine callG_pc (fun hG => pc_impl_spaced h.regs (by first | assumption | omega) (by first | assumption | omega)) (by first | (simp; done) | (simp [inR_iff]; done) | (simp [inR_iff]; grind) | grind) (fun hG => by simp [go_sem]) rfl rfl (by first | exact Or.inl rfl | exact Or.inr rfl) ?_
        simp (config := {maxSteps := 10000000}) [go_sem, ty9, hs, ba_size, n1, z32]
        refine ⟨by omega, ?_⟩
        repeat refine ⟨by first | omega | grind, ?_⟩
        refine h6 _ ?_
        clear h6 K6
        refine W_ret ?_
        have e := hartText_join q
        simp only [hartB, spB, hn] at e
        simp [go_sem, e]
      · try simp (config := {maxSteps := 10000000}) [go_sem, ty3, ty9, hs, ba_size, n1, z32]
        repeat (refine ⟨by omega, ?_⟩)
        refine callG_pc (fun hG => pc_impl_digits h.pc (by first | assumption | omega) (by first | assumption | omega)) (by first | (simp; done) | (simp [inR_iff]; done) | (simp [inR_iff]; grind) | grind) (fun hG => by simp [go_sem]) rfl rfl (by first | exact Or.inl rfl | exact Or.inr rfl) ?_
        simp (config := {maxSteps := 10000000}) [go_sem, hs, ba_size, n1, z32]
        refine ⟨?_, ?_⟩
        · try simp (config := {maxSteps := 10000000}) [go_sem, ty3, ty9, ty22, ty122, hs, ba_size, n1, z32]
          repeat (refine ⟨by omega, ?_⟩)
          refine callG_pc (fun hG => pc_impl_spaced h.regs (by first | assumption | omega) (by first | assumption | omega)) (by first | (simp; done) | (simp [inR_iff]; done) | (simp [inR_iff]; grind) | grind) (fun hG => by simp [go_sem]) rfl rfl (by first | exact Or.inl rfl | exact Or.inr rfl) ?_
          simp (config := {maxSteps := 10000000}) [go_sem, ty9, hs, ba_size, n1, z32]
          refine ⟨by omega, ?_⟩
          repeat refine ⟨by first | omega | grind, ?_⟩
          refine h6 _ ?_
          clear h6 K6
          refine W_ret ?_
          have e := hartText_join q
          simp only [hartB, spB, hn] at e
          simp [go_sem, e]
        · try simp (config := {maxSteps := 10000000}) [go_sem, ty3, ty9, ty22, hs, ba_size, n1, z32]
          repeat (refine ⟨by omega, ?_⟩)
          refine callG_pc (fun hG => pc_impl_spaced h.regs (by first | assumption | omega) (by first | assumption | omega)) (by first | (simp; done) | (simp [inR_iff]; done) | (simp [inR_iff]; grind) | grind) (fun hG => by simp [go_sem]) rfl rfl (by first | exact Or.inl rfl | exact Or.inr rfl) ?_
          simp (config := {maxSteps := 10000000}) [go_sem, ty9, ty122, hs, ba_size, n1, z32]
          refine ⟨by omega, ?_⟩
          repeat refine ⟨by first | omega | grind, ?_⟩
          refine h6 _ ?_
          clear h6 K6
          refine W_ret ?_
          have e := hartText_join q
          simp only [hartB, spB, hn] at e
          simp [go_sem, e]
    · refine W_drawS true (.op 1 (.op 2 (.op 6 (.op 7 (.op 11 (.op 12 (.fork 0 (.op 3 (.op 4 (.op 5 (.op 8 (.op 9 (.op 10 (.op 13 (.op 14 (.op 15 .nil))))))))) 8 (.fork 0 (.op 3 (.op 4 (.op 5 (.op 9 (.op 10 (.op 13 (.op 14 (.op 15 .nil)))))))) 13 (.op 0 (.op 3 (.op 4 (.op 5 (.op 9 (.op 10 (.op 14 (.op 15 .nil)))))))))))))))) mixed (by decide +kernel) rfl ?_
      have hn : stName h.state = ⟨#[102, 97, 117, 108, 116]⟩ := by rw [hs]; rfl
      simp (config := {maxSteps := 10000000}) [go_sem, ty3, ty22, ty61, hs, ba_size, n2, z32]
      refine ⟨?_, ?_⟩
      · try simp (config := {maxSteps := 10000000}) [go_sem, ty3, ty9, ty122, hs, ba_size, n2, z32]
        repeat (refine ⟨by omega, ?_⟩)
        refine callG_pc (fun hG => pc_impl_digits h.pc (by first | assumption | omega) (by first | assumption | omega)) (by first | (simp; done) | (simp [inR_iff]; done) | (simp [inR_iff]; grind) | grind) (fun hG => by simp [go_sem]) rfl rfl (by first | exact Or.inl rfl | exact Or.inr rfl) ?_
        simp (config := {maxSteps := 10000000}) [go_sem, ty3, ty9, ty22, hs, ba_size, n2, z32]
        repeat (refine ⟨by omega, ?_⟩)
        refine callG_pc (fun hG => pc_impl_spaced h.regs (by first | assumption | omega) (by first | assumption | omega)) (by first | (simp; done) | (simp [inR_iff]; done) | (simp [inR_iff]; grind) | grind) (fun hG => by simp [go_sem]) rfl rfl (by first | exact Or.inl rfl | exact Or.inr rfl) ?_
        simp (config := {maxSteps := 10000000}) [go_sem, ty9, hs, ba_size, n2, z32]
        refine ⟨by omega, ?_⟩
        repeat refine ⟨by first | omega | grind, ?_⟩
        refine h6 _ ?_
        clear h6 K6
        refine W_ret ?_
        have e := hartText_join q
        simp only [hartB, spB, hn] at e
        simp [go_sem, e]
      · try simp (config := {maxSteps := 10000000}) [go_sem, ty3, ty9, hs, ba_size, n2, z32]
        repeat (refine ⟨by omega, ?_⟩)
        refine callG_pc (fun hG => pc_impl_digits h.pc (by first | assumption | omega) (by first | assumption | omega)) (by first | (simp; done) | (simp [inR_iff]; done) | (simp [inR_iff]; grind) | grind) (fun hG => by simp [go_sem]) rfl rfl (by first | exact Or.inl rfl | exact Or.inr rfl) ?_
        simp (config := {maxSteps := 10000000}) [go_sem, hs, ba_size, n2, z32]
        refine ⟨?_, ?_⟩
        · try simp (config := {maxSteps := 10000000}) [go_sem, ty3, ty9, ty22, ty122, hs, ba_size, n2, z32]
          repeat (refine ⟨by omega, ?_⟩)
          refine callG_pc (fun hG => pc_impl_spaced h.regs (by first | assumption | omega) (by first | assumption | omega)) (by first | (simp; done) | (simp [inR_iff]; done) | (simp [inR_iff]; grind) | grind) (fun hG => by simp [go_sem]) rfl rfl (by first | exact Or.inl rfl | exact Or.inr rfl) ?_
          simp (config := {maxSteps := 10000000}) [go_sem, ty9, hs, ba_size, n2, z32]
          refine ⟨by omega, ?_⟩
          repeat refine ⟨by first | omega | grind, ?_⟩
          refine h6 _ ?_
          clear h6 K6
          refine W_ret ?_
          have e := hartText_join q
          simp only [hartB, spB, hn] at e
          simp [go_sem, e]
        · try simp (config := {maxSteps := 10000000}) [go_sem, ty3, ty9, ty22, hs, ba_size, n2, z32]
          repeat (refine ⟨by omega, ?_⟩)
          refine callG_pc (fun hG => pc_impl_spaced h.regs (by first | assumption | omega) (by first | assumption | omega)) (by first | (simp; done) | (simp [inR_iff]; done) | (simp [inR_iff]; grind) | grind) (fun hG => by simp [go_sem]) rfl rfl (by first | exact Or.inl rfl | exact Or.inr rfl) ?_
          simp (config := {maxSteps := 10000000}) [go_sem, ty9, ty122, hs, ba_size, n2, z32]
          refine ⟨by omega, ?_⟩
          repeat refine ⟨by first | omega | grind, ?_⟩
          refine h6 _ ?_
          clear h6 K6
          refine W_ret ?_
          have e := hartText_join q
          simp only [hartB, spB, hn] at e
          simp [go_sem, e]
end Go.Tw
