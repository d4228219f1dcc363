/- Walks of functions: laws.FnExactCoreHear -/
import Derived.Test.YtafocmjoejchbaaR3c2
set_option linter.unusedSimpArgs false
set_option linter.unusedVariables false
namespace Go.Tw
open Go.Proofs

set_option maxRecDepth 100000 in
set_option maxHeartbeats 4000000 in
theorem pc_laws_FnExactCoreHear (c : GCore) (m : GMsg) (ok_c : c.ok) (ok_m : m.ok) : PC Try.prog 8 [(true, eCore c), (true, eMsg m)] [(false, [.bool true])] := by
  refine PC_of (n := 92) Try.func8 rfl rfl rfl rfl (by simp) ?_
  refine W_seqK fun K1 h1 => ?_
  refine W_reg ?_
  simp [go_sem, ty4, ty77, ty79, markE_add, mvCore, nvCore, mvHart, nvHart]
  first | refine h1 _ ?_ | refine ⟨by omega, h1 _ ?_⟩ | refine ⟨by omega, by omega, h1 _ ?_⟩ | (repeat (refine ⟨by first | omega | grind, ?_⟩)); refine h1 _ ?_
  clear h1 K1
  refine W_seqK fun K2 h2 => ?_
  refine W_reg ?_
  simp [go_sem, ty3, markE_add, mvCore, nvCore, mvHart, nvHart]
  first | refine h2 _ ?_ | refine ⟨by omega, h2 _ ?_⟩ | refine ⟨by omega, by omega, h2 _ ?_⟩ | (repeat (refine ⟨by first | omega | grind, ?_⟩)); refine h2 _ ?_
  clear h2 K2
  refine W_seqK fun K3 h3 => ?_
  refine W_reg ?_
  simp [go_sem, ty3, ty77, markE_add, mvCore, nvCore, mvHart, nvHart]
  refine callG_pc (fun hG => pc_laws_szCore c 1048576 (by first | assumption | omega) (by first | assumption | omega) (by first | assumption | omega)) (by first | (simp; done) | (simp [inR_iff]; done) | (simp [inR_iff]; grind) | grind) (fun hG => by simp [go_sem, markE_add, mvCore, nvCore, mvHart, nvHart]) rfl rfl (by first | exact Or.inl rfl | exact Or.inr rfl) ?_
  simp [go_sem, ty3, markE_add, mvCore, nvCore, mvHart, nvHart]
  first | refine h3 _ ?_ | refine ⟨by omega, h3 _ ?_⟩ | refine ⟨by omega, by omega, h3 _ ?_⟩ | (repeat (refine ⟨by first | omega | grind, ?_⟩)); refine h3 _ ?_
  clear h3 K3
  refine W_seqK fun K4 h4 => ?_
  refine W_seqK fun K5 h5 => ?_
  refine W_reg ?_
  simp [go_sem, ty3, ty4, markE_add, mvCore, nvCore, mvHart, nvHart]
  first | refine h5 _ ?_ | refine ⟨by omega, h5 _ ?_⟩ | refine ⟨by omega, by omega, h5 _ ?_⟩ | (repeat (refine ⟨by first | omega | grind, ?_⟩)); refine h5 _ ?_
  clear h5 K5
  refine W_cond rfl (fun hb6 => ?_) fun hb6 => ?_
  · skip
    refine W_seqK fun K7 h7 => ?_
    refine W_reg ?_
    simp [go_sem, ty4, markE_add, mvCore, nvCore, mvHart, nvHart]
    first | refine h7 _ ?_ | refine ⟨by omega, h7 _ ?_⟩ | refine ⟨by omega, by omega, h7 _ ?_⟩ | (repeat (refine ⟨by first | omega | grind, ?_⟩)); refine h7 _ ?_
    clear h7 K7
    refine W_ret ?_
    simp [go_sem]
  · have hz_c := szL_pos hb6
    have hq_c := c.small_of (by omega)
    clear hb6
    have hn_c := nvCore_le c
    simp only [nvCore] at hn_c
    refine W_skip ?_
    first | refine h4 _ ?_ | refine ⟨by omega, h4 _ ?_⟩ | refine ⟨by omega, by omega, h4 _ ?_⟩ | (repeat (refine ⟨by first | omega | grind, ?_⟩)); refine h4 _ ?_
    clear h4 K4
    refine W_seqK fun K8 h8 => ?_
    refine W_reg ?_
    simp [go_sem, ty3, ty79, markE_add, mvCore, nvCore, mvHart, nvHart]
    refine callG_pc (fun hG => pc_laws_szMsg m (szL 1048576 c.tot) (by first | assumption | omega) (by first | assumption | omega) (by first | assumption | omega)) (by first | (simp; done) | (simp [inR_iff]; done) | (simp [inR_iff]; grind) | grind) (fun hG => by simp [go_sem, markE_add, mvCore, nvCore, mvHart, nvHart]) rfl rfl (by first | exact Or.inl rfl | exact Or.inr rfl) ?_
    simp [go_sem, ty3, markE_add, mvCore, nvCore, mvHart, nvHart]
    first | refine h8 _ ?_ | refine ⟨by omega, h8 _ ?_⟩ | refine ⟨by omega, by omega, h8 _ ?_⟩ | (repeat (refine ⟨by first | omega | grind, ?_⟩)); refine h8 _ ?_
    clear h8 K8
    refine W_seqK fun K9 h9 => ?_
    refine W_seqK fun K10 h10 => ?_
    refine W_reg ?_
    simp [go_sem, ty3, ty4, markE_add, mvCore, nvCore, mvHart, nvHart]
    first | refine h10 _ ?_ | refine ⟨by omega, h10 _ ?_⟩ | refine ⟨by omega, by omega, h10 _ ?_⟩ | (repeat (refine ⟨by first | omega | grind, ?_⟩)); refine h10 _ ?_
    clear h10 K10
    refine W_cond rfl (fun hb11 => ?_) fun hb11 => ?_
    · skip
      refine W_seqK fun K12 h12 => ?_
      refine W_reg ?_
      simp [go_sem, ty4, markE_add, mvCore, nvCore, mvHart, nvHart]
      first | refine h12 _ ?_ | refine ⟨by omega, h12 _ ?_⟩ | refine ⟨by omega, by omega, h12 _ ?_⟩ | (repeat (refine ⟨by first | omega | grind, ?_⟩)); refine h12 _ ?_
      clear h12 K12
      refine W_ret ?_
      simp [go_sem]
    · have hz_m := szL_pos hb11
      have hq_m := m.small_of (by omega)
      clear hb11
      have hn_m := nvMsg_le m
      simp only [nvMsg] at hn_m
      have hcs : (coreHear c m).small := coreHear_small hq_c
      have hl := coreHear_hart c m
      have hl2 : (coreHear c m).hart.regs.length = c.hart.regs.length := by rw [hl]
      have hc := coreHear_sum nBlock c m
      have hcs2 := hcs
      unfold GCore.small GHart.small at hcs2
      obtain ⟨w0, w1, w2⟩ := hcs2
      have hqc2 := hq_c
      unfold GCore.small GHart.small at hqc2
      obtain ⟨w3, w4, w5⟩ := hqc2
      have hqm2 := hq_m
      unfold GMsg.small at hqm2
      refine W_skip ?_
      first | refine h9 _ ?_ | refine ⟨by omega, h9 _ ?_⟩ | refine ⟨by omega, by omega, h9 _ ?_⟩ | (repeat (refine ⟨by first | omega | grind, ?_⟩)); refine h9 _ ?_
      clear h9 K9
      refine W_seqK fun K13 h13 => ?_
      refine W_drawS true (.op 0 (.op 2 (.fork 1 (.fork 3 (.fork 4 (.op 5 (.op 6 .nil)) 5 (.op 4 (.op 6 .nil))) 5 (.op 3 (.op 4 (.op 6 .nil)))) 5 (.op 1 (.op 3 (.op 4 (.op 6 .nil))))))) mixed (by decide +kernel) rfl ?_
      simp [go_sem, ty77, ty79, markE_add, mvCore, nvCore, mvHart, nvHart]
      refine ⟨?_, ?_⟩
      · try simp [go_sem, ty77, ty83, markE_add, mvCore, nvCore, mvHart, nvHart]
        refine callG_pc (fun hG => pc_laws_toCore c (by first | assumption | omega)) (by first | (simp; done) | (simp [inR_iff]; done) | (simp [inR_iff]; grind) | grind) (fun hG => by simp [go_sem, markE_add, mvCore, nvCore, mvHart, nvHart]) rfl rfl (by first | exact Or.inl rfl | exact Or.inr rfl) ?_
        simp [go_sem, markE_add, mvCore, nvCore, mvHart, nvHart]
        refine ⟨?_, ?_⟩
        · try simp [go_sem, ty79, ty86, markE_add, mvCore, nvCore, mvHart, nvHart]
          refine callG_pc (fun hG => pc_laws_toMsg m (by first | assumption | omega)) (by first | (simp; done) | (simp [inR_iff]; done) | (simp [inR_iff]; grind) | grind) (fun hG => by simp [go_sem, markE_add, mvCore, nvCore, mvHart, nvHart]) rfl rfl (by first | exact Or.inl rfl | exact Or.inr rfl) ?_
          simp [go_sem, markE_add, mvCore, nvCore, mvHart, nvHart]
          refine ⟨?_, ?_⟩
          · try simp [go_sem, ty83, ty86, markE_add, mvCore, nvCore, mvHart, nvHart]
            refine callG_pc (fun hG => pc_spec_CoreHear c m (by first | assumption | omega)) (by first | (simp; done) | (simp [inR_iff]; done) | (simp [inR_iff]; grind) | grind) (fun hG => by simp [go_sem, markE_add, mvCore, nvCore, mvHart, nvHart]) rfl rfl (by first | exact Or.inl rfl | exact Or.inr rfl) ?_
            simp [go_sem, ty83, markE_add, mvCore, nvCore, mvHart, nvHart]
            first | refine h13 _ ?_ | refine ⟨by omega, h13 _ ?_⟩ | refine ⟨by omega, by omega, h13 _ ?_⟩ | (repeat (refine ⟨by first | omega | grind, ?_⟩)); refine h13 _ ?_
            clear h13 K13
            refine W_seqK fun K14 h14 => ?_
            refine W_reg ?_
            simp [go_sem, ty77, ty83, markE_add, mvCore, nvCore, mvHart, nvHart]
            refine callG_pc (fun hG => pc_laws_toCore c (by first | assumption | omega)) (by first | (simp; done) | (simp [inR_iff]; done) | (simp [inR_iff]; grind) | grind) (fun hG => by simp [go_sem, markE_add, mvCore, nvCore, mvHart, nvHart]) rfl rfl (by first | exact Or.inl rfl | exact Or.inr rfl) ?_
            simp [go_sem, ty83, markE_add, mvCore, nvCore, mvHart, nvHart]
            first | refine h14 _ ?_ | refine ⟨by omega, h14 _ ?_⟩ | refine ⟨by omega, by omega, h14 _ ?_⟩ | (repeat (refine ⟨by first | omega | grind, ?_⟩)); refine h14 _ ?_
            clear h14 K14
            refine W_seqK fun K15 h15 => ?_
            refine W_reg ?_
            simp [go_sem, ty79, ty86, markE_add, mvCore, nvCore, mvHart, nvHart]
            refine callG_pc (fun hG => pc_laws_toMsg m (by first | assumption | omega)) (by first | (simp; done) | (simp [inR_iff]; done) | (simp [inR_iff]; grind) | grind) (fun hG => by simp [go_sem, markE_add, mvCore, nvCore, mvHart, nvHart]) rfl rfl (by first | exact Or.inl rfl | exact Or.inr rfl) ?_
            simp [go_sem, ty86, markE_add, mvCore, nvCore, mvHart, nvHart]
            first | refine h15 _ ?_ | refine ⟨by omega, h15 _ ?_⟩ | refine ⟨by omega, by omega, h15 _ ?_⟩ | (repeat (refine ⟨by first | omega | grind, ?_⟩)); refine h15 _ ?_
            clear h15 K15
            refine W_seqK fun K16 h16 => ?_
            refine W_reg ?_
            simp [go_sem, ty83, ty86, markE_add, mvCore, nvCore, mvHart, nvHart]
            refine callG_pc (fun hG => pc_impl_CoreHear c m (by first | assumption | omega)) (by first | (simp; done) | (simp [inR_iff]; done) | (simp [inR_iff]; grind) | grind) (fun hG => by simp [go_sem, markE_add, mvCore, nvCore, mvHart, nvHart]) rfl rfl (by first | exact Or.inl rfl | exact Or.inr rfl) ?_
            simp [go_sem, ty83, markE_add, mvCore, nvCore, mvHart, nvHart]
            first | refine h16 _ ?_ | refine ⟨by omega, h16 _ ?_⟩ | refine ⟨by omega, by omega, h16 _ ?_⟩ | (repeat (refine ⟨by first | omega | grind, ?_⟩)); refine h16 _ ?_
            clear h16 K16
            refine W_seqK fun K17 h17 => ?_
            refine W_seqK fun K18 h18 => ?_
            refine W_reg ?_
            simp [go_sem, ty4, ty83, markE_add, mvCore, nvCore, mvHart, nvHart]
            refine callG_pc (fun hG => pc_laws_eqCore (coreHear c m) (coreHear c m) (by first | assumption | omega)) (by first | (simp; done) | (simp [inR_iff]; done) | (simp [inR_iff]; grind) | grind) (fun hG => by simp [go_sem, markE_add, mvCore, nvCore, mvHart, nvHart]) rfl rfl (by first | exact Or.inl rfl | exact Or.inr rfl) ?_
            simp [go_sem, ty4, markE_add, mvCore, nvCore, mvHart, nvHart]
            first | refine h18 _ ?_ | refine ⟨by omega, h18 _ ?_⟩ | refine ⟨by omega, by omega, h18 _ ?_⟩ | (repeat (refine ⟨by first | omega | grind, ?_⟩)); refine h18 _ ?_
            clear h18 K18
            refine W_cond rfl (fun hb19 => by first | (simp at hb19; done) | (simp at hb19; omega) | (simp at hb19; exact absurd hb19 (Int.not_lt.2 (markE_nn _ (by omega))))) fun hb19 => ?_
            clear hb19
            refine W_skip ?_
            first | refine h17 _ ?_ | refine ⟨by omega, h17 _ ?_⟩ | refine ⟨by omega, by omega, h17 _ ?_⟩ | (repeat (refine ⟨by first | omega | grind, ?_⟩)); refine h17 _ ?_
            clear h17 K17
            refine W_seqK fun K20 h20 => ?_
            refine W_seqK fun K21 h21 => ?_
            refine W_drawT true mixed (by decide +kernel) ?_
            simp [go_sem, ty77, ty83, markE_add, mvCore, nvCore, mvHart, nvHart]
            refine callG_pc (fun hG => pc_laws_toCore c (by first | assumption | omega)) (by first | (simp; done) | (simp [inR_iff]; done) | (simp [inR_iff]; grind) | grind) (fun hG => by simp [go_sem, markE_add, mvCore, nvCore, mvHart, nvHart]) rfl rfl (by first | exact Or.inl rfl | exact Or.inr rfl) ?_
            simp [go_sem, ty4, ty83, markE_add, mvCore, nvCore, mvHart, nvHart]
            refine callG_pc (fun hG => pc_laws_eqCore c c (by first | assumption | omega)) (by first | (simp; done) | (simp [inR_iff]; done) | (simp [inR_iff]; grind) | grind) (fun hG => by simp [go_sem, markE_add, mvCore, nvCore, mvHart, nvHart]) rfl rfl (by first | exact Or.inl rfl | exact Or.inr rfl) ?_
            simp [go_sem, ty4, markE_add, mvCore, nvCore, mvHart, nvHart]
            first | refine h21 _ ?_ | refine ⟨by omega, h21 _ ?_⟩ | refine ⟨by omega, by omega, h21 _ ?_⟩ | (repeat (refine ⟨by first | omega | grind, ?_⟩)); refine h21 _ ?_
            clear h21 K21
            refine W_cond rfl (fun hb22 => by first | (simp at hb22; done) | (simp at hb22; omega) | (simp at hb22; exact absurd hb22 (Int.not_lt.2 (markE_nn _ (by omega))))) fun hb22 => ?_
            clear hb22
            refine W_skip ?_
            first | refine h20 _ ?_ | refine ⟨by omega, h20 _ ?_⟩ | refine ⟨by omega, by omega, h20 _ ?_⟩ | (repeat (refine ⟨by first | omega | grind, ?_⟩)); refine h20 _ ?_
            clear h20 K20
            refine W_seqK fun K23 h23 => ?_
            refine W_seqK fun K24 h24 => ?_
            refine W_drawT true mixed (by decide +kernel) ?_
            simp [go_sem, ty79, ty86, markE_add, mvCore, nvCore, mvHart, nvHart]
            refine callG_pc (fun hG => pc_laws_toMsg m (by first | assumption | omega)) (by first | (simp; done) | (simp [inR_iff]; done) | (simp [inR_iff]; grind) | grind) (fun hG => by simp [go_sem, markE_add, mvCore, nvCore, mvHart, nvHart]) rfl rfl (by first | exact Or.inl rfl | exact Or.inr rfl) ?_
            simp [go_sem, ty4, ty86, markE_add, mvCore, nvCore, mvHart, nvHart]
            refine callG_pc (fun hG => pc_laws_eqMsg m m (by first | assumption | omega)) (by first | (simp; done) | (simp [inR_iff]; done) | (simp [inR_iff]; grind) | grind) (fun hG => by simp [go_sem, markE_add, mvCore, nvCore, mvHart, nvHart]) rfl rfl (by first | exact Or.inl rfl | exact Or.inr rfl) ?_
            simp [go_sem, ty4, markE_add, mvCore, nvCore, mvHart, nvHart]
            first | refine h24 _ ?_ | refine ⟨by omega, h24 _ ?_⟩ | refine ⟨by omega, by omega, h24 _ ?_⟩ | (repeat (refine ⟨by first | omega | grind, ?_⟩)); refine h24 _ ?_
            clear h24 K24
            refine W_cond rfl (fun hb25 => by first | (simp at hb25; done) | (simp at hb25; omega) | (simp at hb25; exact absurd hb25 (Int.not_lt.2 (markE_nn _ (by omega))))) fun hb25 => ?_
            clear hb25
            refine W_skip ?_
            first | refine h23 _ ?_ | refine ⟨by omega, h23 _ ?_⟩ | refine ⟨by omega, by omega, h23 _ ?_⟩ | (repeat (refine ⟨by first | omega | grind, ?_⟩)); refine h23 _ ?_
            clear h23 K23
            refine W_seqK fun K26 h26 => ?_
            refine W_reg ?_
            simp [go_sem, ty3, markE_add, mvCore, nvCore, mvHart, nvHart]
            first | refine h26 _ ?_ | refine ⟨by omega, h26 _ ?_⟩ | refine ⟨by omega, by omega, h26 _ ?_⟩ | (repeat (refine ⟨by first | omega | grind, ?_⟩)); refine h26 _ ?_
            clear h26 K26
            refine W_seqK fun K27 h27 => ?_
            refine W_reg ?_
            simp [go_sem, ty3, ty83, markE_add, mvCore, nvCore, mvHart, nvHart]
            refine callG_true (by simp) ((CallW_inline (n := 14) Try.func55 rfl rfl rfl rfl (by simp) fun a_ => ?_))
            refine W_seqK fun K28 h28 => ?_
            refine W_reg ?_
            simp [go_sem, ty3, ty83, markE_add, mvCore, nvCore, mvHart, nvHart]
            first | refine h28 _ ?_ | refine ⟨by omega, h28 _ ?_⟩ | refine ⟨by omega, by omega, h28 _ ?_⟩ | (repeat (refine ⟨by first | omega | grind, ?_⟩)); refine h28 _ ?_
            clear h28 K28
            refine W_seqK fun K29 h29 => ?_
            refine W_reg ?_
            simp [go_sem, ty3, ty51, ty83, markE_add, mvCore, nvCore, mvHart, nvHart]
            refine callG_true (by simp) ((CallW_inline (n := 10) Try.func110 rfl rfl rfl rfl (by simp) fun a_ => ?_))
            refine W_seqK fun K30 h30 => ?_
            refine W_reg ?_
            simp [go_sem, ty3, ty51, markE_add, mvCore, nvCore, mvHart, nvHart]
            first | refine h30 _ ?_ | refine ⟨by omega, h30 _ ?_⟩ | refine ⟨by omega, by omega, h30 _ ?_⟩ | (repeat (refine ⟨by first | omega | grind, ?_⟩)); refine h30 _ ?_
            clear h30 K30
            refine W_seqK fun K31 h31 => ?_
            refine W_reg ?_
            simp [go_sem, ty3, ty42, ty51, markE_add, mvCore, nvCore, mvHart, nvHart]
            refine callG_true (by simp) (CallW_mut (mc_laws_markIntS c.hart.regs 1 (by first | assumption | omega)) rfl rfl rfl (by simp [go_sem, markE_add, mvCore, nvCore, mvHart, nvHart]) rfl ?_)
            simp [go_sem, ty3, markE_add, mvCore, nvCore, mvHart, nvHart]
            first | refine h31 _ ?_ | refine ⟨by omega, h31 _ ?_⟩ | refine ⟨by omega, by omega, h31 _ ?_⟩ | (repeat (refine ⟨by first | omega | grind, ?_⟩)); refine h31 _ ?_
            clear h31 K31
            refine W_seqK fun K32 h32 => ?_
            refine W_reg ?_
            simp [go_sem, ty3, markE_add, mvCore, nvCore, mvHart, nvHart]
            first | refine h32 _ ?_ | refine ⟨by omega, h32 _ ?_⟩ | refine ⟨by omega, by omega, h32 _ ?_⟩ | (repeat (refine ⟨by first | omega | grind, ?_⟩)); refine h32 _ ?_
            clear h32 K32
            refine W_ret ?_
            simp [go_sem]
            refine ⟨_, _, ⟨rfl, rfl⟩, ?_⟩
            simp [go_sem, ty3, markE_add, mvCore, nvCore, mvHart, nvHart]
            first | refine h29 _ ?_ | refine ⟨by omega, h29 _ ?_⟩ | refine ⟨by omega, by omega, h29 _ ?_⟩ | (repeat (refine ⟨by first | omega | grind, ?_⟩)); refine h29 _ ?_
            clear h29 K29
            refine W_seqK fun K33 h33 => ?_
            refine W_reg ?_
            simp [go_sem, ty3, ty28, ty33, ty83, markE_add, mvCore, nvCore, mvHart, nvHart]
            refine callG_true (by simp) (CallW_mut (mc_laws_markBlockS c.cache (markE 1 (c.hart.regs.length)) (by first | assumption | omega) (by first | assumption | omega)) rfl rfl rfl (by simp [go_sem, markE_add, mvCore, nvCore, mvHart, nvHart]) rfl ?_)
            simp [go_sem, ty3, markE_add, mvCore, nvCore, mvHart, nvHart]
            first | refine h33 _ ?_ | refine ⟨by omega, h33 _ ?_⟩ | refine ⟨by omega, by omega, h33 _ ?_⟩ | (repeat (refine ⟨by first | omega | grind, ?_⟩)); refine h33 _ ?_
            clear h33 K33
            refine W_seqK fun K34 h34 => ?_
            refine W_reg ?_
            simp [go_sem, ty3, markE_add, mvCore, nvCore, mvHart, nvHart]
            first | refine h34 _ ?_ | refine ⟨by omega, h34 _ ?_⟩ | refine ⟨by omega, by omega, h34 _ ?_⟩ | (repeat (refine ⟨by first | omega | grind, ?_⟩)); refine h34 _ ?_
            clear h34 K34
            refine W_ret ?_
            simp [go_sem]
            refine ⟨_, _, ⟨rfl, rfl⟩, ?_⟩
            simp [go_sem, ty3, markE_add, mvCore, nvCore, mvHart, nvHart]
            first | refine h27 _ ?_ | refine ⟨by omega, h27 _ ?_⟩ | refine ⟨by omega, by omega, h27 _ ?_⟩ | (repeat (refine ⟨by first | omega | grind, ?_⟩)); refine h27 _ ?_
            clear h27 K27
            refine W_seqK fun K35 h35 => ?_
            refine W_reg ?_
            simp [go_sem, ty3, ty86, markE_add, mvCore, nvCore, mvHart, nvHart]
            refine callG_true (by simp) ((CallW_inline (n := 10) Try.func56 rfl rfl rfl rfl (by simp) fun a_ => ?_))
            refine W_seqK fun K36 h36 => ?_
            refine W_reg ?_
            simp [go_sem, ty3, ty86, markE_add, mvCore, nvCore, mvHart, nvHart]
            first | refine h36 _ ?_ | refine ⟨by omega, h36 _ ?_⟩ | refine ⟨by omega, by omega, h36 _ ?_⟩ | (repeat (refine ⟨by first | omega | grind, ?_⟩)); refine h36 _ ?_
            clear h36 K36
            refine W_seqK fun K37 h37 => ?_
            refine W_reg ?_
            simp [go_sem, ty3, ty42, ty86, markE_add, mvCore, nvCore, mvHart, nvHart]
            refine callG_true (by simp) (CallW_mut (mc_laws_markIntS m.list (markE 1 (c.hart.regs.length + (c.cache.map nBlock).sum)) (by first | assumption | omega)) rfl rfl rfl (by simp [go_sem, markE_add, mvCore, nvCore, mvHart, nvHart]) rfl ?_)
            simp [go_sem, ty3, markE_add, mvCore, nvCore, mvHart, nvHart]
            first | refine h37 _ ?_ | refine ⟨by omega, h37 _ ?_⟩ | refine ⟨by omega, by omega, h37 _ ?_⟩ | (repeat (refine ⟨by first | omega | grind, ?_⟩)); refine h37 _ ?_
            clear h37 K37
            refine W_seqK fun K38 h38 => ?_
            refine W_reg ?_
            simp [go_sem, ty3, markE_add, mvCore, nvCore, mvHart, nvHart]
            first | refine h38 _ ?_ | refine ⟨by omega, h38 _ ?_⟩ | refine ⟨by omega, by omega, h38 _ ?_⟩ | (repeat (refine ⟨by first | omega | grind, ?_⟩)); refine h38 _ ?_
            clear h38 K38
            refine W_ret ?_
            simp [go_sem]
            refine ⟨_, _, ⟨rfl, rfl⟩, ?_⟩
            simp [go_sem, ty3, markE_add, mvCore, nvCore, mvHart, nvHart]
            first | refine h35 _ ?_ | refine ⟨by omega, h35 _ ?_⟩ | refine ⟨by omega, by omega, h35 _ ?_⟩ | (repeat (refine ⟨by first | omega | grind, ?_⟩)); refine h35 _ ?_
            clear h35 K35
            refine W_seqK fun K39 h39 => ?_
            refine W_seqK fun K40 h40 => ?_
            refine W_reg ?_
            simp [go_sem, ty3, ty4, ty83, markE_add, mvCore, nvCore, mvHart, nvHart]
            refine callG_pc (fun hG => pc_laws_eqCore (coreHear c m) (coreHear c m) (by first | assumption | omega)) (by first | (simp; done) | (simp [inR_iff]; done) | (simp [inR_iff]; grind) | grind) (fun hG => by simp [go_sem, markE_add, mvCore, nvCore, mvHart, nvHart]) rfl rfl (by first | exact Or.inl rfl | exact Or.inr rfl) ?_
            simp [go_sem, ty4, markE_add, mvCore, nvCore, mvHart, nvHart]
            first | refine h40 _ ?_ | refine ⟨by omega, h40 _ ?_⟩ | refine ⟨by omega, by omega, h40 _ ?_⟩ | (repeat (refine ⟨by first | omega | grind, ?_⟩)); refine h40 _ ?_
            clear h40 K40
            refine W_cond rfl (fun hb41 => by first | (simp at hb41; done) | (simp at hb41; omega) | (simp at hb41; exact absurd hb41 (Int.not_lt.2 (markE_nn _ (by omega))))) fun hb41 => ?_
            clear hb41
            refine W_skip ?_
            first | refine h39 _ ?_ | refine ⟨by omega, h39 _ ?_⟩ | refine ⟨by omega, by omega, h39 _ ?_⟩ | (repeat (refine ⟨by first | omega | grind, ?_⟩)); refine h39 _ ?_
            clear h39 K39
            refine W_seqK fun K42 h42 => ?_
            refine W_reg ?_
            simp [go_sem, ty3, markE_add, mvCore, nvCore, mvHart, nvHart]
            first | refine h42 _ ?_ | refine ⟨by omega, h42 _ ?_⟩ | refine ⟨by omega, by omega, h42 _ ?_⟩ | (repeat (refine ⟨by first | omega | grind, ?_⟩)); refine h42 _ ?_
            clear h42 K42
            refine W_seqK fun K43 h43 => ?_
            refine W_reg ?_
            simp [go_sem, ty3, ty83, markE_add, mvCore, nvCore, mvHart, nvHart]
            refine callG_true (by simp) ((CallW_inline (n := 14) Try.func55 rfl rfl rfl rfl (by simp) fun a_ => ?_))
            refine W_seqK fun K44 h44 => ?_
            refine W_reg ?_
            simp [go_sem, ty3, ty83, markE_add, mvCore, nvCore, mvHart, nvHart]
            first | refine h44 _ ?_ | refine ⟨by omega, h44 _ ?_⟩ | refine ⟨by omega, by omega, h44 _ ?_⟩ | (repeat (refine ⟨by first | omega | grind, ?_⟩)); refine h44 _ ?_
            clear h44 K44
            refine W_seqK fun K45 h45 => ?_
            refine W_reg ?_
            simp [go_sem, ty3, ty51, ty83, markE_add, mvCore, nvCore, mvHart, nvHart]
            refine callG_true (by simp) ((CallW_inline (n := 10) Try.func110 rfl rfl rfl rfl (by simp) fun a_ => ?_))
            refine W_seqK fun K46 h46 => ?_
            refine W_reg ?_
            simp [go_sem, ty3, ty51, markE_add, mvCore, nvCore, mvHart, nvHart]
            first | refine h46 _ ?_ | refine ⟨by omega, h46 _ ?_⟩ | refine ⟨by omega, by omega, h46 _ ?_⟩ | (repeat (refine ⟨by first | omega | grind, ?_⟩)); refine h46 _ ?_
            clear h46 K46
            refine W_seqK fun K47 h47 => ?_
            refine W_reg ?_
            simp [go_sem, ty3, ty42, ty51, markE_add, mvCore, nvCore, mvHart, nvHart]
            refine callG_true (by simp) (CallW_mut (mc_laws_markIntS (((coreHear c m).hart).regs) 1 (by first | assumption | omega)) rfl rfl rfl (by simp [go_sem, markE_add, mvCore, nvCore, mvHart, nvHart]) rfl ?_)
            simp [go_sem, ty3, markE_add, mvCore, nvCore, mvHart, nvHart]
            first | refine h47 _ ?_ | refine ⟨by omega, h47 _ ?_⟩ | refine ⟨by omega, by omega, h47 _ ?_⟩ | (repeat (refine ⟨by first | omega | grind, ?_⟩)); refine h47 _ ?_
            clear h47 K47
            refine W_seqK fun K48 h48 => ?_
            refine W_reg ?_
            simp [go_sem, ty3, markE_add, mvCore, nvCore, mvHart, nvHart]
            first | refine h48 _ ?_ | refine ⟨by omega, h48 _ ?_⟩ | refine ⟨by omega, by omega, h48 _ ?_⟩ | (repeat (refine ⟨by first | omega | grind, ?_⟩)); refine h48 _ ?_
            clear h48 K48
            refine W_ret ?_
            simp [go_sem]
            refine ⟨_, _, ⟨rfl, rfl⟩, ?_⟩
            simp [go_sem, ty3, markE_add, mvCore, nvCore, mvHart, nvHart]
            first | refine h45 _ ?_ | refine ⟨by omega, h45 _ ?_⟩ | refine ⟨by omega, by omega, h45 _ ?_⟩ | (repeat (refine ⟨by first | omega | grind, ?_⟩)); refine h45 _ ?_
            clear h45 K45
            refine W_seqK fun K49 h49 => ?_
            refine W_reg ?_
            simp [go_sem, ty3, ty28, ty33, ty83, markE_add, mvCore, nvCore, mvHart, nvHart]
            refine callG_true (by simp) (CallW_mut (mc_laws_markBlockS ((coreHear c m).cache) (markE 1 ((((coreHear c m).hart).regs).length)) (by first | assumption | omega) (by first | assumption | omega)) rfl rfl rfl (by simp [go_sem, markE_add, mvCore, nvCore, mvHart, nvHart]) rfl ?_)
            simp [go_sem, ty3, markE_add, mvCore, nvCore, mvHart, nvHart]
            first | refine h49 _ ?_ | refine ⟨by omega, h49 _ ?_⟩ | refine ⟨by omega, by omega, h49 _ ?_⟩ | (repeat (refine ⟨by first | omega | grind, ?_⟩)); refine h49 _ ?_
            clear h49 K49
            refine W_seqK fun K50 h50 => ?_
            refine W_reg ?_
            simp [go_sem, ty3, markE_add, mvCore, nvCore, mvHart, nvHart]
            first | refine h50 _ ?_ | refine ⟨by omega, h50 _ ?_⟩ | refine ⟨by omega, by omega, h50 _ ?_⟩ | (repeat (refine ⟨by first | omega | grind, ?_⟩)); refine h50 _ ?_
            clear h50 K50
            refine W_ret ?_
            simp [go_sem]
            refine ⟨_, _, ⟨rfl, rfl⟩, ?_⟩
            simp [go_sem, ty3, markE_add, mvCore, nvCore, mvHart, nvHart]
            first | refine h43 _ ?_ | refine ⟨by omega, h43 _ ?_⟩ | refine ⟨by omega, by omega, h43 _ ?_⟩ | (repeat (refine ⟨by first | omega | grind, ?_⟩)); refine h43 _ ?_
            clear h43 K43
            refine W_seqK fun K51 h51 => ?_
            refine W_reg ?_
            simp [go_sem, ty3, markE_add, mvCore, nvCore, mvHart, nvHart]
            first | refine h51 _ ?_ | refine ⟨by omega, h51 _ ?_⟩ | refine ⟨by omega, by omega, h51 _ ?_⟩ | (repeat (refine ⟨by first | omega | grind, ?_⟩)); refine h51 _ ?_
            clear h51 K51
            refine W_seqK fun K52 h52 => ?_
            refine W_reg ?_
            simp [go_sem, ty3, ty83, markE_add, mvCore, nvCore, mvHart, nvHart]
            refine callG_pc (fun hG => pc_laws_heldCore (coreHear c m) 1 (by first | assumption | omega) (fun m hm => by (try simp only [nvMsg, nvSender, nvPacket, nvFrame, nvHome, nvNode, nvWorld, nvHart, nvBlock, nvCore, nvFlock] at hm); first | exact hp m (by omega) | (rw [markE_add]; exact hp _ (by omega)) | exact markE_nn m (by omega) | (rw [markE_add]; exact markE_nn _ (by omega)))) (by first | (simp; done) | (simp [inR_iff]; done) | (simp [inR_iff]; grind) | grind) (fun hG => by simp [go_sem, markE_add, mvCore, nvCore, mvHart, nvHart]) rfl rfl (by first | exact Or.inl rfl | exact Or.inr rfl) ?_
            simp [go_sem, ty3, markE_add, mvCore, nvCore, mvHart, nvHart]
            first | refine h52 _ ?_ | refine ⟨by omega, h52 _ ?_⟩ | refine ⟨by omega, by omega, h52 _ ?_⟩ | (repeat (refine ⟨by first | omega | grind, ?_⟩)); refine h52 _ ?_
            clear h52 K52
            refine W_seqK fun K53 h53 => ?_
            refine W_seqK fun K54 h54 => ?_
            refine W_reg ?_
            simp [go_sem, ty3, ty4, markE_add, mvCore, nvCore, mvHart, nvHart]
            first | refine h54 _ ?_ | refine ⟨by omega, h54 _ ?_⟩ | refine ⟨by omega, by omega, h54 _ ?_⟩ | (repeat (refine ⟨by first | omega | grind, ?_⟩)); refine h54 _ ?_
            clear h54 K54
            refine W_cond rfl (fun hb55 => by first | (simp at hb55; done) | (simp at hb55; omega) | (simp at hb55; exact absurd hb55 (Int.not_lt.2 (markE_nn _ (by omega))))) fun hb55 => ?_
            clear hb55
            refine W_skip ?_
            first | refine h53 _ ?_ | refine ⟨by omega, h53 _ ?_⟩ | refine ⟨by omega, by omega, h53 _ ?_⟩ | (repeat (refine ⟨by first | omega | grind, ?_⟩)); refine h53 _ ?_
            clear h53 K53
            refine W_seqK fun K56 h56 => ?_
            refine W_seqK fun K57 h57 => ?_
            refine W_reg ?_
            simp [go_sem, ty3, ty4, markE_add, mvCore, nvCore, mvHart, nvHart]
            first | refine h57 _ ?_ | refine ⟨by omega, h57 _ ?_⟩ | refine ⟨by omega, by omega, h57 _ ?_⟩ | (repeat (refine ⟨by first | omega | grind, ?_⟩)); refine h57 _ ?_
            clear h57 K57
            refine W_cond rfl (fun hb58 => by first | (simp at hb58; done) | (simp at hb58; omega) | (simp at hb58; exact absurd hb58 (Int.not_lt.2 (markE_nn _ (by omega))))) fun hb58 => ?_
            clear hb58
            refine W_skip ?_
            first | refine h56 _ ?_ | refine ⟨by omega, h56 _ ?_⟩ | refine ⟨by omega, by omega, h56 _ ?_⟩ | (repeat (refine ⟨by first | omega | grind, ?_⟩)); refine h56 _ ?_
            clear h56 K56
            refine W_seqK fun K59 h59 => ?_
            refine W_drawS true (.op 0 (.op 2 (.fork 1 (.fork 3 (.fork 4 (.op 5 (.op 6 .nil)) 5 (.op 4 (.op 6 .nil))) 5 (.op 3 (.op 4 (.op 6 .nil)))) 5 (.op 1 (.op 3 (.op 4 (.op 6 .nil))))))) mixed (by decide +kernel) rfl ?_
            simp [go_sem, ty77, ty79, markE_add, mvCore, nvCore, mvHart, nvHart]
            refine ⟨?_, ?_⟩
            · try simp [go_sem, ty77, ty83, markE_add, mvCore, nvCore, mvHart, nvHart]
              refine callG_pc (fun hG => pc_laws_toCore c (by first | assumption | omega)) (by first | (simp; done) | (simp [inR_iff]; done) | (simp [inR_iff]; grind) | grind) (fun hG => by simp [go_sem, markE_add, mvCore, nvCore, mvHart, nvHart]) rfl rfl (by first | exact Or.inl rfl | exact Or.inr rfl) ?_
              simp [go_sem, markE_add, mvCore, nvCore, mvHart, nvHart]
              refine ⟨?_, ?_⟩
              · try simp [go_sem, ty79, ty86, markE_add, mvCore, nvCore, mvHart, nvHart]
                refine callG_pc (fun hG => pc_laws_toMsg m (by first | assumption | omega)) (by first | (simp; done) | (simp [inR_iff]; done) | (simp [inR_iff]; grind) | grind) (fun hG => by simp [go_sem, markE_add, mvCore, nvCore, mvHart, nvHart]) rfl rfl (by first | exact Or.inl rfl | exact Or.inr rfl) ?_
                simp [go_sem, markE_add, mvCore, nvCore, mvHart, nvHart]
                refine ⟨?_, ?_⟩
                · try simp [go_sem, ty83, ty86, markE_add, mvCore, nvCore, mvHart, nvHart]
                  refine callG_pc (fun hG => pc_impl_CoreHear c m (by first | assumption | omega)) (by first | (simp; done) | (simp [inR_iff]; done) | (simp [inR_iff]; grind) | grind) (fun hG => by simp [go_sem, markE_add, mvCore, nvCore, mvHart, nvHart]) rfl rfl (by first | exact Or.inl rfl | exact Or.inr rfl) ?_
                  simp [go_sem, ty83, markE_add, mvCore, nvCore, mvHart, nvHart]
                  first | refine h59 _ ?_ | refine ⟨by omega, h59 _ ?_⟩ | refine ⟨by omega, by omega, h59 _ ?_⟩ | (repeat (refine ⟨by first | omega | grind, ?_⟩)); refine h59 _ ?_
                  clear h59 K59
                  refine W_seqK fun K60 h60 => ?_
                  refine W_seqK fun K61 h61 => ?_
                  refine W_reg ?_
                  simp [go_sem, ty4, ty83, markE_add, mvCore, nvCore, mvHart, nvHart]
                  refine callG_pc (fun hG => pc_laws_eqCore (coreHear c m) (coreHear c m) (by first | assumption | omega)) (by first | (simp; done) | (simp [inR_iff]; done) | (simp [inR_iff]; grind) | grind) (fun hG => by simp [go_sem, markE_add, mvCore, nvCore, mvHart, nvHart]) rfl rfl (by first | exact Or.inl rfl | exact Or.inr rfl) ?_
                  simp [go_sem, ty4, markE_add, mvCore, nvCore, mvHart, nvHart]
                  first | refine h61 _ ?_ | refine ⟨by omega, h61 _ ?_⟩ | refine ⟨by omega, by omega, h61 _ ?_⟩ | (repeat (refine ⟨by first | omega | grind, ?_⟩)); refine h61 _ ?_
                  clear h61 K61
                  refine W_cond rfl (fun hb62 => by first | (simp at hb62; done) | (simp at hb62; omega) | (simp at hb62; exact absurd hb62 (Int.not_lt.2 (markE_nn _ (by omega))))) fun hb62 => ?_
                  clear hb62
                  refine W_skip ?_
                  first | refine h60 _ ?_ | refine ⟨by omega, h60 _ ?_⟩ | refine ⟨by omega, by omega, h60 _ ?_⟩ | (repeat (refine ⟨by first | omega | grind, ?_⟩)); refine h60 _ ?_
                  clear h60 K60
                  refine W_seqK fun K63 h63 => ?_
                  refine W_reg ?_
                  simp [go_sem, ty3, markE_add, mvCore, nvCore, mvHart, nvHart]
                  first | refine h63 _ ?_ | refine ⟨by omega, h63 _ ?_⟩ | refine ⟨by omega, by omega, h63 _ ?_⟩ | (repeat (refine ⟨by first | omega | grind, ?_⟩)); refine h63 _ ?_
                  clear h63 K63
                  refine W_seqK fun K64 h64 => ?_
                  refine W_reg ?_
                  simp [go_sem, ty3, ty83, markE_add, mvCore, nvCore, mvHart, nvHart]
                  refine callG_pc (fun hG => pc_laws_heldCore (coreHear c m) 1 (by first | assumption | omega) (fun m hm => by (try simp only [nvMsg, nvSender, nvPacket, nvFrame, nvHome, nvNode, nvWorld, nvHart, nvBlock, nvCore, nvFlock] at hm); first | exact hp m (by omega) | (rw [markE_add]; exact hp _ (by omega)) | exact markE_nn m (by omega) | (rw [markE_add]; exact markE_nn _ (by omega)))) (by first | (simp; done) | (simp [inR_iff]; done) | (simp [inR_iff]; grind) | grind) (fun hG => by simp [go_sem, markE_add, mvCore, nvCore, mvHart, nvHart]) rfl rfl (by first | exact Or.inl rfl | exact Or.inr rfl) ?_
                  simp [go_sem, ty3, markE_add, mvCore, nvCore, mvHart, nvHart]
                  first | refine h64 _ ?_ | refine ⟨by omega, h64 _ ?_⟩ | refine ⟨by omega, by omega, h64 _ ?_⟩ | (repeat (refine ⟨by first | omega | grind, ?_⟩)); refine h64 _ ?_
                  clear h64 K64
                  refine W_seqK fun K65 h65 => ?_
                  refine W_seqK fun K66 h66 => ?_
                  refine W_reg ?_
                  simp [go_sem, ty3, ty4, markE_add, mvCore, nvCore, mvHart, nvHart]
                  first | refine h66 _ ?_ | refine ⟨by omega, h66 _ ?_⟩ | refine ⟨by omega, by omega, h66 _ ?_⟩ | (repeat (refine ⟨by first | omega | grind, ?_⟩)); refine h66 _ ?_
                  clear h66 K66
                  refine W_cond rfl (fun hb67 => by first | (simp at hb67; done) | (simp at hb67; omega) | (simp at hb67; exact absurd hb67 (Int.not_lt.2 (markE_nn _ (by omega))))) fun hb67 => ?_
                  clear hb67
                  refine W_skip ?_
                  first | refine h65 _ ?_ | refine ⟨by omega, h65 _ ?_⟩ | refine ⟨by omega, by omega, h65 _ ?_⟩ | (repeat (refine ⟨by first | omega | grind, ?_⟩)); refine h65 _ ?_
                  clear h65 K65
                  refine W_seqK fun K68 h68 => ?_
                  refine W_seqK fun K69 h69 => ?_
                  refine W_reg ?_
                  simp [go_sem, ty3, ty4, markE_add, mvCore, nvCore, mvHart, nvHart]
                  first | refine h69 _ ?_ | refine ⟨by omega, h69 _ ?_⟩ | refine ⟨by omega, by omega, h69 _ ?_⟩ | (repeat (refine ⟨by first | omega | grind, ?_⟩)); refine h69 _ ?_
                  clear h69 K69
                  refine W_cond rfl (fun hb70 => by first | (simp at hb70; done) | (simp at hb70; omega) | (simp at hb70; exact absurd hb70 (Int.not_lt.2 (markE_nn _ (by omega))))) fun hb70 => ?_
                  clear hb70
                  refine W_skip ?_
                  first | refine h68 _ ?_ | refine ⟨by omega, h68 _ ?_⟩ | refine ⟨by omega, by omega, h68 _ ?_⟩ | (repeat (refine ⟨by first | omega | grind, ?_⟩)); refine h68 _ ?_
                  clear h68 K68
                  refine W_seqK fun K71 h71 => ?_
                  refine W_reg ?_
                  simp [go_sem, ty4, markE_add, mvCore, nvCore, mvHart, nvHart]
                  first | refine h71 _ ?_ | refine ⟨by omega, h71 _ ?_⟩ | refine ⟨by omega, by omega, h71 _ ?_⟩ | (repeat (refine ⟨by first | omega | grind, ?_⟩)); refine h71 _ ?_
                  clear h71 K71
                  refine W_ret ?_
                  simp [go_sem]
                · try simp [go_sem, ty83, ty86, markE_add, mvCore, nvCore, mvHart, nvHart]
                  refine callG_pc (fun hG => pc_impl_CoreHear c m (by first | assumption | omega)) (by first | (simp; done) | (simp [inR_iff]; done) | (simp [inR_iff]; grind) | grind) (fun hG => by simp [go_sem, markE_add, mvCore, nvCore, mvHart, nvHart]) rfl rfl (by first | exact Or.inl rfl | exact Or.inr rfl) ?_
                  simp [go_sem, ty83, markE_add, mvCore, nvCore, mvHart, nvHart]
                  first | refine h59 _ ?_ | refine ⟨by omega, h59 _ ?_⟩ | refine ⟨by omega, by omega, h59 _ ?_⟩ | (repeat (refine ⟨by first | omega | grind, ?_⟩)); refine h59 _ ?_
                  clear h59 K59
                  refine W_seqK fun K72 h72 => ?_
                  refine W_seqK fun K73 h73 => ?_
                  refine W_reg ?_
                  simp [go_sem, ty4, ty83, markE_add, mvCore, nvCore, mvHart, nvHart]
                  refine callG_pc (fun hG => pc_laws_eqCore (coreHear c m) (coreHear c m) (by first | assumption | omega)) (by first | (simp; done) | (simp [inR_iff]; done) | (simp [inR_iff]; grind) | grind) (fun hG => by simp [go_sem, markE_add, mvCore, nvCore, mvHart, nvHart]) rfl rfl (by first | exact Or.inl rfl | exact Or.inr rfl) ?_
                  simp [go_sem, ty4, markE_add, mvCore, nvCore, mvHart, nvHart]
                  first | refine h73 _ ?_ | refine ⟨by omega, h73 _ ?_⟩ | refine ⟨by omega, by omega, h73 _ ?_⟩ | (repeat (refine ⟨by first | omega | grind, ?_⟩)); refine h73 _ ?_
                  clear h73 K73
                  refine W_cond rfl (fun hb74 => by first | (simp at hb74; done) | (simp at hb74; omega) | (simp at hb74; exact absurd hb74 (Int.not_lt.2 (markE_nn _ (by omega))))) fun hb74 => ?_
                  clear hb74
                  refine W_skip ?_
                  first | refine h72 _ ?_ | refine ⟨by omega, h72 _ ?_⟩ | refine ⟨by omega, by omega, h72 _ ?_⟩ | (repeat (refine ⟨by first | omega | grind, ?_⟩)); refine h72 _ ?_
                  clear h72 K72
                  refine W_seqK fun K75 h75 => ?_
                  refine W_reg ?_
                  simp [go_sem, ty3, markE_add, mvCore, nvCore, mvHart, nvHart]
                  first | refine h75 _ ?_ | refine ⟨by omega, h75 _ ?_⟩ | refine ⟨by omega, by omega, h75 _ ?_⟩ | (repeat (refine ⟨by first | omega | grind, ?_⟩)); refine h75 _ ?_
                  clear h75 K75
                  refine W_seqK fun K76 h76 => ?_
                  refine W_reg ?_
                  simp [go_sem, ty3, ty83, markE_add, mvCore, nvCore, mvHart, nvHart]
                  refine callG_pc (fun hG => pc_laws_heldCore (coreHear c m) 1 (by first | assumption | omega) (fun m hm => by (try simp only [nvMsg, nvSender, nvPacket, nvFrame, nvHome, nvNode, nvWorld, nvHart, nvBlock, nvCore, nvFlock] at hm); first | exact hp m (by omega) | (rw [markE_add]; exact hp _ (by omega)) | exact markE_nn m (by omega) | (rw [markE_add]; exact markE_nn _ (by omega)))) (by first | (simp; done) | (simp [inR_iff]; done) | (simp [inR_iff]; grind) | grind) (fun hG => by simp [go_sem, markE_add, mvCore, nvCore, mvHart, nvHart]) rfl rfl (by first | exact Or.inl rfl | exact Or.inr rfl) ?_
                  simp [go_sem, ty3, markE_add, mvCore, nvCore, mvHart, nvHart]
                  first | refine h76 _ ?_ | refine ⟨by omega, h76 _ ?_⟩ | refine ⟨by omega, by omega, h76 _ ?_⟩ | (repeat (refine ⟨by first | omega | grind, ?_⟩)); refine h76 _ ?_
                  clear h76 K76
                  refine W_seqK fun K77 h77 => ?_
                  refine W_seqK fun K78 h78 => ?_
                  refine W_reg ?_
                  simp [go_sem, ty3, ty4, markE_add, mvCore, nvCore, mvHart, nvHart]
                  first | refine h78 _ ?_ | refine ⟨by omega, h78 _ ?_⟩ | refine ⟨by omega, by omega, h78 _ ?_⟩ | (repeat (refine ⟨by first | omega | grind, ?_⟩)); refine h78 _ ?_
                  clear h78 K78
                  refine W_cond rfl (fun hb79 => by first | (simp at hb79; done) | (simp at hb79; omega) | (simp at hb79; exact absurd hb79 (Int.not_lt.2 (markE_nn _ (by omega))))) fun hb79 => ?_
                  clear hb79
                  refine W_skip ?_
                  first | refine h77 _ ?_ | refine ⟨by omega, h77 _ ?_⟩ | refine ⟨by omega, by omega, h77 _ ?_⟩ | (repeat (refine ⟨by first | omega | grind, ?_⟩)); refine h77 _ ?_
                  clear h77 K77
                  refine W_seqK fun K80 h80 => ?_
                  refine W_seqK fun K81 h81 => ?_
                  refine W_reg ?_
                  simp [go_sem, ty3, ty4, markE_add, mvCore, nvCore, mvHart, nvHart]
                  first | refine h81 _ ?_ | refine ⟨by omega, h81 _ ?_⟩ | refine ⟨by omega, by omega, h81 _ ?_⟩ | (repeat (refine ⟨by first | omega | grind, ?_⟩)); refine h81 _ ?_
                  clear h81 K81
                  refine W_cond rfl (fun hb82 => by first | (simp at hb82; done) | (simp at hb82; omega) | (simp at hb82; exact absurd hb82 (Int.not_lt.2 (markE_nn _ (by omega))))) fun hb82 => ?_
                  clear hb82
                  refine W_skip ?_
                  first | refine h80 _ ?_ | refine ⟨by omega, h80 _ ?_⟩ | refine ⟨by omega, by omega, h80 _ ?_⟩ | (repeat (refine ⟨by first | omega | grind, ?_⟩)); refine h80 _ ?_
                  clear h80 K80
                  refine W_seqK fun K83 h83 => ?_
                  refine W_reg ?_
                  simp [go_sem, ty4, markE_add, mvCore, nvCore, mvHart, nvHart]
                  first | refine h83 _ ?_ | refine ⟨by omega, h83 _ ?_⟩ | refine ⟨by omega, by omega, h83 _ ?_⟩ | (repeat (refine ⟨by first | omega | grind, ?_⟩)); refine h83 _ ?_
                  clear h83 K83
                  refine W_ret ?_
                  simp [go_sem]
              · try simp [go_sem, ty79, ty83, ty86, markE_add, mvCore, nvCore, mvHart, nvHart]
                refine callG_pc (fun hG => pc_laws_toMsg m (by first | assumption | omega)) (by first | (simp; done) | (simp [inR_iff]; done) | (simp [inR_iff]; grind) | grind) (fun hG => by simp [go_sem, markE_add, mvCore, nvCore, mvHart, nvHart]) rfl rfl (by first | exact Or.inl rfl | exact Or.inr rfl) ?_
                simp [go_sem, ty83, ty86, markE_add, mvCore, nvCore, mvHart, nvHart]
                refine callG_pc (fun hG => pc_impl_CoreHear c m (by first | assumption | omega)) (by first | (simp; done) | (simp [inR_iff]; done) | (simp [inR_iff]; grind) | grind) (fun hG => by simp [go_sem, markE_add, mvCore, nvCore, mvHart, nvHart]) rfl rfl (by first | exact Or.inl rfl | exact Or.inr rfl) ?_
                simp [go_sem, ty83, markE_add, mvCore, nvCore, mvHart, nvHart]
                first | refine h59 _ ?_ | refine ⟨by omega, h59 _ ?_⟩ | refine ⟨by omega, by omega, h59 _ ?_⟩ | (repeat (refine ⟨by first | omega | grind, ?_⟩)); refine h59 _ ?_
                clear h59 K59
                refine W_seqK fun K84 h84 => ?_
                refine W_seqK fun K85 h85 => ?_
                refine W_reg ?_
                simp [go_sem, ty4, ty83, markE_add, mvCore, nvCore, mvHart, nvHart]
                refine callG_pc (fun hG => pc_laws_eqCore (coreHear c m) (coreHear c m) (by first | assumption | omega)) (by first | (simp; done) | (simp [inR_iff]; done) | (simp [inR_iff]; grind) | grind) (fun hG => by simp [go_sem, markE_add, mvCore, nvCore, mvHart, nvHart]) rfl rfl (by first | exact Or.inl rfl | exact Or.inr rfl) ?_
                simp [go_sem, ty4, markE_add, mvCore, nvCore, mvHart, nvHart]
                first | refine h85 _ ?_ | refine ⟨by omega, h85 _ ?_⟩ | refine ⟨by omega, by omega, h85 _ ?_⟩ | (repeat (refine ⟨by first | omega | grind, ?_⟩)); refine h85 _ ?_
                clear h85 K85
                refine W_cond rfl (fun hb86 => by first | (simp at hb86; done) | (simp at hb86; omega) | (simp at hb86; exact absurd hb86 (Int.not_lt.2 (markE_nn _ (by omega))))) fun hb86 => ?_
                clear hb86
                refine W_skip ?_
                first | refine h84 _ ?_ | refine ⟨by omega, h84 _ ?_⟩ | refine ⟨by omega, by omega, h84 _ ?_⟩ | (repeat (refine ⟨by first | omega | grind, ?_⟩)); refine h84 _ ?_
                clear h84 K84
                refine W_seqK fun K87 h87 => ?_
                refine W_reg ?_
                simp [go_sem, ty3, markE_add, mvCore, nvCore, mvHart, nvHart]
                first | refine h87 _ ?_ | refine ⟨by omega, h87 _ ?_⟩ | refine ⟨by omega, by omega, h87 _ ?_⟩ | (repeat (refine ⟨by first | omega | grind, ?_⟩)); refine h87 _ ?_
                clear h87 K87
                refine W_seqK fun K88 h88 => ?_
                refine W_reg ?_
                simp [go_sem, ty3, ty83, markE_add, mvCore, nvCore, mvHart, nvHart]
                refine callG_pc (fun hG => pc_laws_heldCore (coreHear c m) 1 (by first | assumption | omega) (fun m hm => by (try simp only [nvMsg, nvSender, nvPacket, nvFrame, nvHome, nvNode, nvWorld, nvHart, nvBlock, nvCore, nvFlock] at hm); first | exact hp m (by omega) | (rw [markE_add]; exact hp _ (by omega)) | exact markE_nn m (by omega) | (rw [markE_add]; exact markE_nn _ (by omega)))) (by first | (simp; done) | (simp [inR_iff]; done) | (simp [inR_iff]; grind) | grind) (fun hG => by simp [go_sem, markE_add, mvCore, nvCore, mvHart, nvHart]) rfl rfl (by first | exact Or.inl rfl | exact Or.inr rfl) ?_
                simp [go_sem, ty3, markE_add, mvCore, nvCore, mvHart, nvHart]
                first | refine h88 _ ?_ | refine ⟨by omega, h88 _ ?_⟩ | refine ⟨by omega, by omega, h88 _ ?_⟩ | (repeat (refine ⟨by first | omega | grind, ?_⟩)); refine h88 _ ?_
                clear h88 K88
                refine W_seqK fun K89 h89 => ?_
                refine W_seqK fun K90 h90 => ?_
                refine W_reg ?_
                simp [go_sem, ty3, ty4, markE_add, mvCore, nvCore, mvHart, nvHart]
                first | refine h90 _ ?_ | refine ⟨by omega, h90 _ ?_⟩ | refine ⟨by omega, by omega, h90 _ ?_⟩ | (repeat (refine ⟨by first | omega | grind, ?_⟩)); refine h90 _ ?_
                clear h90 K90
                refine W_cond rfl (fun hb91 => by first | (simp at hb91; done) | (simp at hb91; omega) | (simp at hb91; exact absurd hb91 (Int.not_lt.2 (markE_nn _ (by omega))))) fun hb91 => ?_
                clear hb91
                refine W_skip ?_
                first | refine h89 _ ?_ | refine ⟨by omega, h89 _ ?_⟩ | refine ⟨by omega, by omega, h89 _ ?_⟩ | (repeat (refine ⟨by first | omega | grind, ?_⟩)); refine h89 _ ?_
                clear h89 K89
                refine W_seqK fun K92 h92 => ?_
                refine W_seqK fun K93 h93 => ?_
                refine W_reg ?_
                simp [go_sem, ty3, ty4, markE_add, mvCore, nvCore, mvHart, nvHart]
                first | refine h93 _ ?_ | refine ⟨by omega, h93 _ ?_⟩ | refine ⟨by omega, by omega, h93 _ ?_⟩ | (repeat (refine ⟨by first | omega | grind, ?_⟩)); refine h93 _ ?_
                clear h93 K93
                refine W_cond rfl (fun hb94 => by first | (simp at hb94; done) | (simp at hb94; omega) | (simp at hb94; exact absurd hb94 (Int.not_lt.2 (markE_nn _ (by omega))))) fun hb94 => ?_
                clear hb94
                refine W_skip ?_
                first | refine h92 _ ?_ | refine ⟨by omega, h92 _ ?_⟩ | refine ⟨by omega, by omega, h92 _ ?_⟩ | (repeat (refine ⟨by first | omega | grind, ?_⟩)); refine h92 _ ?_
                clear h92 K92
                refine W_seqK fun K95 h95 => ?_
                refine W_reg ?_
                simp [go_sem, ty4, markE_add, mvCore, nvCore, mvHart, nvHart]
                first | refine h95 _ ?_ | refine ⟨by omega, h95 _ ?_⟩ | refine ⟨by omega, by omega, h95 _ ?_⟩ | (repeat (refine ⟨by first | omega | grind, ?_⟩)); refine h95 _ ?_
                clear h95 K95
                refine W_ret ?_
                simp [go_sem]
            · try simp [go_sem, ty77, ty83, markE_add, mvCore, nvCore, mvHart, nvHart]
              refine callG_pc (fun hG => pc_laws_toCore c (by first | assumption | omega)) (by first | (simp; done) | (simp [inR_iff]; done) | (simp [inR_iff]; grind) | grind) (fun hG => by simp [go_sem, markE_add, mvCore, nvCore, mvHart, nvHart]) rfl rfl (by first | exact Or.inl rfl | exact Or.inr rfl) ?_
              simp [go_sem, ty79, ty86, markE_add, mvCore, nvCore, mvHart, nvHart]
              refine callG_pc (fun hG => pc_laws_toMsg m (by first | assumption | omega)) (by first | (simp; done) | (simp [inR_iff]; done) | (simp [inR_iff]; grind) | grind) (fun hG => by simp [go_sem, markE_add, mvCore, nvCore, mvHart, nvHart]) rfl rfl (by first | exact Or.inl rfl | exact Or.inr rfl) ?_
              simp [go_sem, ty83, ty86, markE_add, mvCore, nvCore, mvHart, nvHart]
              refine callG_pc (fun hG => pc_impl_CoreHear c m (by first | assumption | omega)) (by first | (simp; done) | (simp [inR_iff]; done) | (simp [inR_iff]; grind) | grind) (fun hG => by simp [go_sem, markE_add, mvCore, nvCore, mvHart, nvHart]) rfl rfl (by first | exact Or.inl rfl | exact Or.inr rfl) ?_
              simp [go_sem, ty83, markE_add, mvCore, nvCore, mvHart, nvHart]
              first | refine h59 _ ?_ | refine ⟨by omega, h59 _ ?_⟩ | refine ⟨by omega, by omega, h59 _ ?_⟩ | (repeat (refine ⟨by first | omega | grind, ?_⟩)); refine h59 _ ?_
              clear h59 K59
              refine W_seqK fun K96 h96 => ?_
              refine W_seqK fun K97 h97 => ?_
              refine W_reg ?_
              simp [go_sem, ty4, ty83, markE_add, mvCore, nvCore, mvHart, nvHart]
              refine callG_pc (fun hG => pc_laws_eqCore (coreHear c m) (coreHear c m) (by first | assumption | omega)) (by first | (simp; done) | (simp [inR_iff]; done) | (simp [inR_iff]; grind) | grind) (fun hG => by simp [go_sem, markE_add, mvCore, nvCore, mvHart, nvHart]) rfl rfl (by first | exact Or.inl rfl | exact Or.inr rfl) ?_
              simp [go_sem, ty4, markE_add, mvCore, nvCore, mvHart, nvHart]
              first | refine h97 _ ?_ | refine ⟨by omega, h97 _ ?_⟩ | refine ⟨by omega, by omega, h97 _ ?_⟩ | (repeat (refine ⟨by first | omega | grind, ?_⟩)); refine h97 _ ?_
              clear h97 K97
              refine W_cond rfl (fun hb98 => by first | (simp at hb98; done) | (simp at hb98; omega) | (simp at hb98; exact absurd hb98 (Int.not_lt.2 (markE_nn _ (by omega))))) fun hb98 => ?_
              clear hb98
              refine W_skip ?_
              first | refine h96 _ ?_ | refine ⟨by omega, h96 _ ?_⟩ | refine ⟨by omega, by omega, h96 _ ?_⟩ | (repeat (refine ⟨by first | omega | grind, ?_⟩)); refine h96 _ ?_
              clear h96 K96
              refine W_seqK fun K99 h99 => ?_
              refine W_reg ?_
              simp [go_sem, ty3, markE_add, mvCore, nvCore, mvHart, nvHart]
              first | refine h99 _ ?_ | refine ⟨by omega, h99 _ ?_⟩ | refine ⟨by omega, by omega, h99 _ ?_⟩ | (repeat (refine ⟨by first | omega | grind, ?_⟩)); refine h99 _ ?_
              clear h99 K99
              refine W_seqK fun K100 h100 => ?_
              refine W_reg ?_
              simp [go_sem, ty3, ty83, markE_add, mvCore, nvCore, mvHart, nvHart]
              refine callG_pc (fun hG => pc_laws_heldCore (coreHear c m) 1 (by first | assumption | omega) (fun m hm => by (try simp only [nvMsg, nvSender, nvPacket, nvFrame, nvHome, nvNode, nvWorld, nvHart, nvBlock, nvCore, nvFlock] at hm); first | exact hp m (by omega) | (rw [markE_add]; exact hp _ (by omega)) | exact markE_nn m (by omega) | (rw [markE_add]; exact markE_nn _ (by omega)))) (by first | (simp; done) | (simp [inR_iff]; done) | (simp [inR_iff]; grind) | grind) (fun hG => by simp [go_sem, markE_add, mvCore, nvCore, mvHart, nvHart]) rfl rfl (by first | exact Or.inl rfl | exact Or.inr rfl) ?_
              simp [go_sem, ty3, markE_add, mvCore, nvCore, mvHart, nvHart]
              first | refine h100 _ ?_ | refine ⟨by omega, h100 _ ?_⟩ | refine ⟨by omega, by omega, h100 _ ?_⟩ | (repeat (refine ⟨by first | omega | grind, ?_⟩)); refine h100 _ ?_
              clear h100 K100
              refine W_seqK fun K101 h101 => ?_
              refine W_seqK fun K102 h102 => ?_
              refine W_reg ?_
              simp [go_sem, ty3, ty4, markE_add, mvCore, nvCore, mvHart, nvHart]
              first | refine h102 _ ?_ | refine ⟨by omega, h102 _ ?_⟩ | refine ⟨by omega, by omega, h102 _ ?_⟩ | (repeat (refine ⟨by first | omega | grind, ?_⟩)); refine h102 _ ?_
              clear h102 K102
              refine W_cond rfl (fun hb103 => by first | (simp at hb103; done) | (simp at hb103; omega) | (simp at hb103; exact absurd hb103 (Int.not_lt.2 (markE_nn _ (by omega))))) fun hb103 => ?_
              clear hb103
              refine W_skip ?_
              first | refine h101 _ ?_ | refine ⟨by omega, h101 _ ?_⟩ | refine ⟨by omega, by omega, h101 _ ?_⟩ | (repeat (refine ⟨by first | omega | grind, ?_⟩)); refine h101 _ ?_
              clear h101 K101
              refine W_seqK fun K104 h104 => ?_
              refine W_seqK fun K105 h105 => ?_
              refine W_reg ?_
              simp [go_sem, ty3, ty4, markE_add, mvCore, nvCore, mvHart, nvHart]
              first | refine h105 _ ?_ | refine ⟨by omega, h105 _ ?_⟩ | refine ⟨by omega, by omega, h105 _ ?_⟩ | (repeat (refine ⟨by first | omega | grind, ?_⟩)); refine h105 _ ?_
              clear h105 K105
              refine W_cond rfl (fun hb106 => by first | (simp at hb106; done) | (simp at hb106; omega) | (simp at hb106; exact absurd hb106 (Int.not_lt.2 (markE_nn _ (by omega))))) fun hb106 => ?_
              clear hb106
              refine W_skip ?_
              first | refine h104 _ ?_ | refine ⟨by omega, h104 _ ?_⟩ | refine ⟨by omega, by omega, h104 _ ?_⟩ | (repeat (refine ⟨by first | omega | grind, ?_⟩)); refine h104 _ ?_
              clear h104 K104
              refine W_seqK fun K107 h107 => ?_
              refine W_reg ?_
              simp [go_sem, ty4, markE_add, mvCore, nvCore, mvHart, nvHart]
              first | refine h107 _ ?_ | refine ⟨by omega, h107 _ ?_⟩ | refine ⟨by omega, by omega, h107 _ ?_⟩ | (repeat (refine ⟨by first | omega | grind, ?_⟩)); refine h107 _ ?_
              clear h107 K107
              refine W_ret ?_
              simp [go_sem]
          · try simp [go_sem, ty83, ty86, markE_add, mvCore, nvCore, mvHart, nvHart]
            refine callG_pc (fun hG => pc_spec_CoreHear c m (by first | assumption | omega)) (by first | (simp; done) | (simp [inR_iff]; done) | (simp [inR_iff]; grind) | grind) (fun hG => by simp [go_sem, markE_add, mvCore, nvCore, mvHart, nvHart]) rfl rfl (by first | exact Or.inl rfl | exact Or.inr rfl) ?_
            simp [go_sem, ty83, markE_add, mvCore, nvCore, mvHart, nvHart]
            first | refine h13 _ ?_ | refine ⟨by omega, h13 _ ?_⟩ | refine ⟨by omega, by omega, h13 _ ?_⟩ | (repeat (refine ⟨by first | omega | grind, ?_⟩)); refine h13 _ ?_
            clear h13 K13
            refine W_seqK fun K108 h108 => ?_
            refine W_reg ?_
            simp [go_sem, ty77, ty83, markE_add, mvCore, nvCore, mvHart, nvHart]
            refine callG_pc (fun hG => pc_laws_toCore c (by first | assumption | omega)) (by first | (simp; done) | (simp [inR_iff]; done) | (simp [inR_iff]; grind) | grind) (fun hG => by simp [go_sem, markE_add, mvCore, nvCore, mvHart, nvHart]) rfl rfl (by first | exact Or.inl rfl | exact Or.inr rfl) ?_
            simp [go_sem, ty83, markE_add, mvCore, nvCore, mvHart, nvHart]
            first | refine h108 _ ?_ | refine ⟨by omega, h108 _ ?_⟩ | refine ⟨by omega, by omega, h108 _ ?_⟩ | (repeat (refine ⟨by first | omega | grind, ?_⟩)); refine h108 _ ?_
            clear h108 K108
            refine W_seqK fun K109 h109 => ?_
            refine W_reg ?_
            simp [go_sem, ty79, ty86, markE_add, mvCore, nvCore, mvHart, nvHart]
            refine callG_pc (fun hG => pc_laws_toMsg m (by first | assumption | omega)) (by first | (simp; done) | (simp [inR_iff]; done) | (simp [inR_iff]; grind) | grind) (fun hG => by simp [go_sem, markE_add, mvCore, nvCore, mvHart, nvHart]) rfl rfl (by first | exact Or.inl rfl | exact Or.inr rfl) ?_
            simp [go_sem, ty86, markE_add, mvCore, nvCore, mvHart, nvHart]
            first | refine h109 _ ?_ | refine ⟨by omega, h109 _ ?_⟩ | refine ⟨by omega, by omega, h109 _ ?_⟩ | (repeat (refine ⟨by first | omega | grind, ?_⟩)); refine h109 _ ?_
            clear h109 K109
            refine W_seqK fun K110 h110 => ?_
            refine W_reg ?_
            simp [go_sem, ty83, ty86, markE_add, mvCore, nvCore, mvHart, nvHart]
            refine callG_pc (fun hG => pc_impl_CoreHear c m (by first | assumption | omega)) (by first | (simp; done) | (simp [inR_iff]; done) | (simp [inR_iff]; grind) | grind) (fun hG => by simp [go_sem, markE_add, mvCore, nvCore, mvHart, nvHart]) rfl rfl (by first | exact Or.inl rfl | exact Or.inr rfl) ?_
            simp [go_sem, ty83, markE_add, mvCore, nvCore, mvHart, nvHart]
            first | refine h110 _ ?_ | refine ⟨by omega, h110 _ ?_⟩ | refine ⟨by omega, by omega, h110 _ ?_⟩ | (repeat (refine ⟨by first | omega | grind, ?_⟩)); refine h110 _ ?_
            clear h110 K110
            refine W_seqK fun K111 h111 => ?_
            refine W_seqK fun K112 h112 => ?_
            refine W_reg ?_
            simp [go_sem, ty4, ty83, markE_add, mvCore, nvCore, mvHart, nvHart]
            refine callG_pc (fun hG => pc_laws_eqCore (coreHear c m) (coreHear c m) (by first | assumption | omega)) (by first | (simp; done) | (simp [inR_iff]; done) | (simp [inR_iff]; grind) | grind) (fun hG => by simp [go_sem, markE_add, mvCore, nvCore, mvHart, nvHart]) rfl rfl (by first | exact Or.inl rfl | exact Or.inr rfl) ?_
            simp [go_sem, ty4, markE_add, mvCore, nvCore, mvHart, nvHart]
            first | refine h112 _ ?_ | refine ⟨by omega, h112 _ ?_⟩ | refine ⟨by omega, by omega, h112 _ ?_⟩ | (repeat (refine ⟨by first | omega | grind, ?_⟩)); refine h112 _ ?_
            clear h112 K112
            refine W_cond rfl (fun hb113 => by first | (simp at hb113; done) | (simp at hb113; omega) | (simp at hb113; exact absurd hb113 (Int.not_lt.2 (markE_nn _ (by omega))))) fun hb113 => ?_
            clear hb113
            refine W_skip ?_
            first | refine h111 _ ?_ | refine ⟨by omega, h111 _ ?_⟩ | refine ⟨by omega, by omega, h111 _ ?_⟩ | (repeat (refine ⟨by first | omega | grind, ?_⟩)); refine h111 _ ?_
            clear h111 K111
            refine W_seqK fun K114 h114 => ?_
            refine W_seqK fun K115 h115 => ?_
            refine W_drawT true mixed (by decide +kernel) ?_
            simp [go_sem, ty77, ty83, markE_add, mvCore, nvCore, mvHart, nvHart]
            refine callG_pc (fun hG => pc_laws_toCore c (by first | assumption | omega)) (by first | (simp; done) | (simp [inR_iff]; done) | (simp [inR_iff]; grind) | grind) (fun hG => by simp [go_sem, markE_add, mvCore, nvCore, mvHart, nvHart]) rfl rfl (by first | exact Or.inl rfl | exact Or.inr rfl) ?_
            simp [go_sem, ty4, ty83, markE_add, mvCore, nvCore, mvHart, nvHart]
            refine callG_pc (fun hG => pc_laws_eqCore c c (by first | assumption | omega)) (by first | (simp; done) | (simp [inR_iff]; done) | (simp [inR_iff]; grind) | grind) (fun hG => by simp [go_sem, markE_add, mvCore, nvCore, mvHart, nvHart]) rfl rfl (by first | exact Or.inl rfl | exact Or.inr rfl) ?_
            simp [go_sem, ty4, markE_add, mvCore, nvCore, mvHart, nvHart]
            first | refine h115 _ ?_ | refine ⟨by omega, h115 _ ?_⟩ | refine ⟨by omega, by omega, h115 _ ?_⟩ | (repeat (refine ⟨by first | omega | grind, ?_⟩)); refine h115 _ ?_
            clear h115 K115
            refine W_cond rfl (fun hb116 => by first | (simp at hb116; done) | (simp at hb116; omega) | (simp at hb116; exact absurd hb116 (Int.not_lt.2 (markE_nn _ (by omega))))) fun hb116 => ?_
            clear hb116
            refine W_skip ?_
            first | refine h114 _ ?_ | refine ⟨by omega, h114 _ ?_⟩ | refine ⟨by omega, by omega, h114 _ ?_⟩ | (repeat (refine ⟨by first | omega | grind, ?_⟩)); refine h114 _ ?_
            clear h114 K114
            refine W_seqK fun K117 h117 => ?_
            refine W_seqK fun K118 h118 => ?_
            refine W_drawT true mixed (by decide +kernel) ?_
            simp [go_sem, ty79, ty86, markE_add, mvCore, nvCore, mvHart, nvHart]
            refine callG_pc (fun hG => pc_laws_toMsg m (by first | assumption | omega)) (by first | (simp; done) | (simp [inR_iff]; done) | (simp [inR_iff]; grind) | grind) (fun hG => by simp [go_sem, markE_add, mvCore, nvCore, mvHart, nvHart]) rfl rfl (by first | exact Or.inl rfl | exact Or.inr rfl) ?_
            simp [go_sem, ty4, ty86, markE_add, mvCore, nvCore, mvHart, nvHart]
            refine callG_pc (fun hG => pc_laws_eqMsg m m (by first | assumption | omega)) (by first | (simp; done) | (simp [inR_iff]; done) | (simp [inR_iff]; grind) | grind) (fun hG => by simp [go_sem, markE_add, mvCore, nvCore, mvHart, nvHart]) rfl rfl (by first | exact Or.inl rfl | exact Or.inr rfl) ?_
            simp [go_sem, ty4, markE_add, mvCore, nvCore, mvHart, nvHart]
            first | refine h118 _ ?_ | refine ⟨by omega, h118 _ ?_⟩ | refine ⟨by omega, by omega, h118 _ ?_⟩ | (repeat (refine ⟨by first | omega | grind, ?_⟩)); refine h118 _ ?_
            clear h118 K118
            refine W_cond rfl (fun hb119 => by first | (simp at hb119; done) | (simp at hb119; omega) | (simp at hb119; exact absurd hb119 (Int.not_lt.2 (markE_nn _ (by omega))))) fun hb119 => ?_
            clear hb119
            refine W_skip ?_
            first | refine h117 _ ?_ | refine ⟨by omega, h117 _ ?_⟩ | refine ⟨by omega, by omega, h117 _ ?_⟩ | (repeat (refine ⟨by first | omega | grind, ?_⟩)); refine h117 _ ?_
            clear h117 K117
            refine W_seqK fun K120 h120 => ?_
            refine W_reg ?_
            simp [go_sem, ty3, markE_add, mvCore, nvCore, mvHart, nvHart]
            first | refine h120 _ ?_ | refine ⟨by omega, h120 _ ?_⟩ | refine ⟨by omega, by omega, h120 _ ?_⟩ | (repeat (refine ⟨by first | omega | grind, ?_⟩)); refine h120 _ ?_
            clear h120 K120
            refine W_seqK fun K121 h121 => ?_
            refine W_reg ?_
            simp [go_sem, ty3, ty83, markE_add, mvCore, nvCore, mvHart, nvHart]
            refine callG_true (by simp) ((CallW_inline (n := 14) Try.func55 rfl rfl rfl rfl (by simp) fun a_ => ?_))
            refine W_seqK fun K122 h122 => ?_
            refine W_reg ?_
            simp [go_sem, ty3, ty83, markE_add, mvCore, nvCore, mvHart, nvHart]
            first | refine h122 _ ?_ | refine ⟨by omega, h122 _ ?_⟩ | refine ⟨by omega, by omega, h122 _ ?_⟩ | (repeat (refine ⟨by first | omega | grind, ?_⟩)); refine h122 _ ?_
            clear h122 K122
            refine W_seqK fun K123 h123 => ?_
            refine W_reg ?_
            simp [go_sem, ty3, ty51, ty83, markE_add, mvCore, nvCore, mvHart, nvHart]
            refine callG_true (by simp) ((CallW_inline (n := 10) Try.func110 rfl rfl rfl rfl (by simp) fun a_ => ?_))
            refine W_seqK fun K124 h124 => ?_
            refine W_reg ?_
            simp [go_sem, ty3, ty51, markE_add, mvCore, nvCore, mvHart, nvHart]
            first | refine h124 _ ?_ | refine ⟨by omega, h124 _ ?_⟩ | refine ⟨by omega, by omega, h124 _ ?_⟩ | (repeat (refine ⟨by first | omega | grind, ?_⟩)); refine h124 _ ?_
            clear h124 K124
            refine W_seqK fun K125 h125 => ?_
            refine W_reg ?_
            simp [go_sem, ty3, ty42, ty51, markE_add, mvCore, nvCore, mvHart, nvHart]
            refine callG_true (by simp) (CallW_mut (mc_laws_markIntS c.hart.regs 1 (by first | assumption | omega)) rfl rfl rfl (by simp [go_sem, markE_add, mvCore, nvCore, mvHart, nvHart]) rfl ?_)
            simp [go_sem, ty3, markE_add, mvCore, nvCore, mvHart, nvHart]
            first | refine h125 _ ?_ | refine ⟨by omega, h125 _ ?_⟩ | refine ⟨by omega, by omega, h125 _ ?_⟩ | (repeat (refine ⟨by first | omega | grind, ?_⟩)); refine h125 _ ?_
            clear h125 K125
            refine W_seqK fun K126 h126 => ?_
            refine W_reg ?_
            simp [go_sem, ty3, markE_add, mvCore, nvCore, mvHart, nvHart]
            first | refine h126 _ ?_ | refine ⟨by omega, h126 _ ?_⟩ | refine ⟨by omega, by omega, h126 _ ?_⟩ | (repeat (refine ⟨by first | omega | grind, ?_⟩)); refine h126 _ ?_
            clear h126 K126
            refine W_ret ?_
            simp [go_sem]
            refine ⟨_, _, ⟨rfl, rfl⟩, ?_⟩
            simp [go_sem, ty3, markE_add, mvCore, nvCore, mvHart, nvHart]
            first | refine h123 _ ?_ | refine ⟨by omega, h123 _ ?_⟩ | refine ⟨by omega, by omega, h123 _ ?_⟩ | (repeat (refine ⟨by first | omega | grind, ?_⟩)); refine h123 _ ?_
            clear h123 K123
            refine W_seqK fun K127 h127 => ?_
            refine W_reg ?_
            simp [go_sem, ty3, ty28, ty33, ty83, markE_add, mvCore, nvCore, mvHart, nvHart]
            refine callG_true (by simp) (CallW_mut (mc_laws_markBlockS c.cache (markE 1 (c.hart.regs.length)) (by first | assumption | omega) (by first | assumption | omega)) rfl rfl rfl (by simp [go_sem, markE_add, mvCore, nvCore, mvHart, nvHart]) rfl ?_)
            simp [go_sem, ty3, markE_add, mvCore, nvCore, mvHart, nvHart]
            first | refine h127 _ ?_ | refine ⟨by omega, h127 _ ?_⟩ | refine ⟨by omega, by omega, h127 _ ?_⟩ | (repeat (refine ⟨by first | omega | grind, ?_⟩)); refine h127 _ ?_
            clear h127 K127
            refine W_seqK fun K128 h128 => ?_
            refine W_reg ?_
            simp [go_sem, ty3, markE_add, mvCore, nvCore, mvHart, nvHart]
            first | refine h128 _ ?_ | refine ⟨by omega, h128 _ ?_⟩ | refine ⟨by omega, by omega, h128 _ ?_⟩ | (repeat (refine ⟨by first | omega | grind, ?_⟩)); refine h128 _ ?_
            clear h128 K128
            refine W_ret ?_
            simp [go_sem]
            refine ⟨_, _, ⟨rfl, rfl⟩, ?_⟩
            simp [go_sem, ty3, markE_add, mvCore, nvCore, mvHart, nvHart]
            first | refine h121 _ ?_ | refine ⟨by omega, h121 _ ?_⟩ | refine ⟨by omega, by omega, h121 _ ?_⟩ | (repeat (refine ⟨by first | omega | grind, ?_⟩)); refine h121 _ ?_
            clear h121 K121
            refine W_seqK fun K129 h129 => ?_
            refine W_reg ?_
            simp [go_sem, ty3, ty86, markE_add, mvCore, nvCore, mvHart, nvHart]
            refine callG_true (by simp) ((CallW_inline (n := 10) Try.func56 rfl rfl rfl rfl (by simp) fun a_ => ?_))
            refine W_seqK fun K130 h130 => ?_
            refine W_reg ?_
            simp [go_sem, ty3, ty86, markE_add, mvCore, nvCore, mvHart, nvHart]
            first | refine h130 _ ?_ | refine ⟨by omega, h130 _ ?_⟩ | refine ⟨by omega, by omega, h130 _ ?_⟩ | (repeat (refine ⟨by first | omega | grind, ?_⟩)); refine h130 _ ?_
            clear h130 K130
            refine W_seqK fun K131 h131 => ?_
            refine W_reg ?_
            simp [go_sem, ty3, ty42, ty86, markE_add, mvCore, nvCore, mvHart, nvHart]
            refine callG_true (by simp) (CallW_mut (mc_laws_markIntS m.list (markE 1 (c.hart.regs.length + (c.cache.map nBlock).sum)) (by first | assumption | omega)) rfl rfl rfl (by simp [go_sem, markE_add, mvCore, nvCore, mvHart, nvHart]) rfl ?_)
            simp [go_sem, ty3, markE_add, mvCore, nvCore, mvHart, nvHart]
            first | refine h131 _ ?_ | refine ⟨by omega, h131 _ ?_⟩ | refine ⟨by omega, by omega, h131 _ ?_⟩ | (repeat (refine ⟨by first | omega | grind, ?_⟩)); refine h131 _ ?_
            clear h131 K131
            refine W_seqK fun K132 h132 => ?_
            refine W_reg ?_
            simp [go_sem, ty3, markE_add, mvCore, nvCore, mvHart, nvHart]
            first | refine h132 _ ?_ | refine ⟨by omega, h132 _ ?_⟩ | refine ⟨by omega, by omega, h132 _ ?_⟩ | (repeat (refine ⟨by first | omega | grind, ?_⟩)); refine h132 _ ?_
            clear h132 K132
            refine W_ret ?_
            simp [go_sem]
            refine ⟨_, _, ⟨rfl, rfl⟩, ?_⟩
            simp [go_sem, ty3, markE_add, mvCore, nvCore, mvHart, nvHart]
            first | refine h129 _ ?_ | refine ⟨by omega, h129 _ ?_⟩ | refine ⟨by omega, by omega, h129 _ ?_⟩ | (repeat (refine ⟨by first | omega | grind, ?_⟩)); refine h129 _ ?_
            clear h129 K129
            refine W_seqK fun K133 h133 => ?_
            refine W_seqK fun K134 h134 => ?_
            refine W_reg ?_
            simp [go_sem, ty3, ty4, ty83, markE_add, mvCore, nvCore, mvHart, nvHart]
            refine callG_pc (fun hG => pc_laws_eqCore (coreHear c m) (coreHear c m) (by first | assumption | omega)) (by first | (simp; done) | (simp [inR_iff]; done) | (simp [inR_iff]; grind) | grind) (fun hG => by simp [go_sem, markE_add, mvCore, nvCore, mvHart, nvHart]) rfl rfl (by first | exact Or.inl rfl | exact Or.inr rfl) ?_
            simp [go_sem, ty4, markE_add, mvCore, nvCore, mvHart, nvHart]
            first | refine h134 _ ?_ | refine ⟨by omega, h134 _ ?_⟩ | refine ⟨by omega, by omega, h134 _ ?_⟩ | (repeat (refine ⟨by first | omega | grind, ?_⟩)); refine h134 _ ?_
            clear h134 K134
            refine W_cond rfl (fun hb135 => by first | (simp at hb135; done) | (simp at hb135; omega) | (simp at hb135; exact absurd hb135 (Int.not_lt.2 (markE_nn _ (by omega))))) fun hb135 => ?_
            clear hb135
            refine W_skip ?_
            first | refine h133 _ ?_ | refine ⟨by omega, h133 _ ?_⟩ | refine ⟨by omega, by omega, h133 _ ?_⟩ | (repeat (refine ⟨by first | omega | grind, ?_⟩)); refine h133 _ ?_
            clear h133 K133
            refine W_seqK fun K136 h136 => ?_
            refine W_reg ?_
            simp [go_sem, ty3, markE_add, mvCore, nvCore, mvHart, nvHart]
            first | refine h136 _ ?_ | refine ⟨by omega, h136 _ ?_⟩ | refine ⟨by omega, by omega, h136 _ ?_⟩ | (repeat (refine ⟨by first | omega | grind, ?_⟩)); refine h136 _ ?_
            clear h136 K136
            refine W_seqK fun K137 h137 => ?_
            refine W_reg ?_
            simp [go_sem, ty3, ty83, markE_add, mvCore, nvCore, mvHart, nvHart]
            refine callG_true (by simp) ((CallW_inline (n := 14) Try.func55 rfl rfl rfl rfl (by simp) fun a_ => ?_))
            refine W_seqK fun K138 h138 => ?_
            refine W_reg ?_
            simp [go_sem, ty3, ty83, markE_add, mvCore, nvCore, mvHart, nvHart]
            first | refine h138 _ ?_ | refine ⟨by omega, h138 _ ?_⟩ | refine ⟨by omega, by omega, h138 _ ?_⟩ | (repeat (refine ⟨by first | omega | grind, ?_⟩)); refine h138 _ ?_
            clear h138 K138
            refine W_seqK fun K139 h139 => ?_
            refine W_reg ?_
            simp [go_sem, ty3, ty51, ty83, markE_add, mvCore, nvCore, mvHart, nvHart]
            refine callG_true (by simp) ((CallW_inline (n := 10) Try.func110 rfl rfl rfl rfl (by simp) fun a_ => ?_))
            refine W_seqK fun K140 h140 => ?_
            refine W_reg ?_
            simp [go_sem, ty3, ty51, markE_add, mvCore, nvCore, mvHart, nvHart]
            first | refine h140 _ ?_ | refine ⟨by omega, h140 _ ?_⟩ | refine ⟨by omega, by omega, h140 _ ?_⟩ | (repeat (refine ⟨by first | omega | grind, ?_⟩)); refine h140 _ ?_
            clear h140 K140
            refine W_seqK fun K141 h141 => ?_
            refine W_reg ?_
            simp [go_sem, ty3, ty42, ty51, markE_add, mvCore, nvCore, mvHart, nvHart]
            refine callG_true (by simp) (CallW_mut (mc_laws_markIntS (((coreHear c m).hart).regs) 1 (by first | assumption | omega)) rfl rfl rfl (by simp [go_sem, markE_add, mvCore, nvCore, mvHart, nvHart]) rfl ?_)
            simp [go_sem, ty3, markE_add, mvCore, nvCore, mvHart, nvHart]
            first | refine h141 _ ?_ | refine ⟨by omega, h141 _ ?_⟩ | refine ⟨by omega, by omega, h141 _ ?_⟩ | (repeat (refine ⟨by first | omega | grind, ?_⟩)); refine h141 _ ?_
            clear h141 K141
            refine W_seqK fun K142 h142 => ?_
            refine W_reg ?_
            simp [go_sem, ty3, markE_add, mvCore, nvCore, mvHart, nvHart]
            first | refine h142 _ ?_ | refine ⟨by omega, h142 _ ?_⟩ | refine ⟨by omega, by omega, h142 _ ?_⟩ | (repeat (refine ⟨by first | omega | grind, ?_⟩)); refine h142 _ ?_
            clear h142 K142
            refine W_ret ?_
            simp [go_sem]
            refine ⟨_, _, ⟨rfl, rfl⟩, ?_⟩
            simp [go_sem, ty3, markE_add, mvCore, nvCore, mvHart, nvHart]
            first | refine h139 _ ?_ | refine ⟨by omega, h139 _ ?_⟩ | refine ⟨by omega, by omega, h139 _ ?_⟩ | (repeat (refine ⟨by first | omega | grind, ?_⟩)); refine h139 _ ?_
            clear h139 K139
            refine W_seqK fun K143 h143 => ?_
            refine W_reg ?_
            simp [go_sem, ty3, ty28, ty33, ty83, markE_add, mvCore, nvCore, mvHart, nvHart]
            refine callG_true (by simp) (CallW_mut (mc_laws_markBlockS ((coreHear c m).cache) (markE 1 ((((coreHear c m).hart).regs).length)) (by first | assumption | omega) (by first | assumption | omega)) rfl rfl rfl (by simp [go_sem, markE_add, mvCore, nvCore, mvHart, nvHart]) rfl ?_)
            simp [go_sem, ty3, markE_add, mvCore, nvCore, mvHart, nvHart]
            first | refine h143 _ ?_ | refine ⟨by omega, h143 _ ?_⟩ | refine ⟨by omega, by omega, h143 _ ?_⟩ | (repeat (refine ⟨by first | omega | grind, ?_⟩)); refine h143 _ ?_
            clear h143 K143
            refine W_seqK fun K144 h144 => ?_
            refine W_reg ?_
            simp [go_sem, ty3, markE_add, mvCore, nvCore, mvHart, nvHart]
            first | refine h144 _ ?_ | refine ⟨by omega, h144 _ ?_⟩ | refine ⟨by omega, by omega, h144 _ ?_⟩ | (repeat (refine ⟨by first | omega | grind, ?_⟩)); refine h144 _ ?_
            clear h144 K144
            refine W_ret ?_
            simp [go_sem]
            refine ⟨_, _, ⟨rfl, rfl⟩, ?_⟩
            simp [go_sem, ty3, markE_add, mvCore, nvCore, mvHart, nvHart]
            first | refine h137 _ ?_ | refine ⟨by omega, h137 _ ?_⟩ | refine ⟨by omega, by omega, h137 _ ?_⟩ | (repeat (refine ⟨by first | omega | grind, ?_⟩)); refine h137 _ ?_
            clear h137 K137
            refine W_seqK fun K145 h145 => ?_
            refine W_reg ?_
            simp [go_sem, ty3, markE_add, mvCore, nvCore, mvHart, nvHart]
            first | refine h145 _ ?_ | refine ⟨by omega, h145 _ ?_⟩ | refine ⟨by omega, by omega, h145 _ ?_⟩ | (repeat (refine ⟨by first | omega | grind, ?_⟩)); refine h145 _ ?_
            clear h145 K145
            refine W_seqK fun K146 h146 => ?_
            refine W_reg ?_
            simp [go_sem, ty3, ty83, markE_add, mvCore, nvCore, mvHart, nvHart]
            refine callG_pc (fun hG => pc_laws_heldCore (coreHear c m) 1 (by first | assumption | omega) (fun m hm => by (try simp only [nvMsg, nvSender, nvPacket, nvFrame, nvHome, nvNode, nvWorld, nvHart, nvBlock, nvCore, nvFlock] at hm); first | exact hp m (by omega) | (rw [markE_add]; exact hp _ (by omega)) | exact markE_nn m (by omega) | (rw [markE_add]; exact markE_nn _ (by omega)))) (by first | (simp; done) | (simp [inR_iff]; done) | (simp [inR_iff]; grind) | grind) (fun hG => by simp [go_sem, markE_add, mvCore, nvCore, mvHart, nvHart]) rfl rfl (by first | exact Or.inl rfl | exact Or.inr rfl) ?_
            simp [go_sem, ty3, markE_add, mvCore, nvCore, mvHart, nvHart]
            first | refine h146 _ ?_ | refine ⟨by omega, h146 _ ?_⟩ | refine ⟨by omega, by omega, h146 _ ?_⟩ | (repeat (refine ⟨by first | omega | grind, ?_⟩)); refine h146 _ ?_
            clear h146 K146
            refine W_seqK fun K147 h147 => ?_
            refine W_seqK fun K148 h148 => ?_
            refine W_reg ?_
            simp [go_sem, ty3, ty4, markE_add, mvCore, nvCore, mvHart, nvHart]
            first | refine h148 _ ?_ | refine ⟨by omega, h148 _ ?_⟩ | refine ⟨by omega, by omega, h148 _ ?_⟩ | (repeat (refine ⟨by first | omega | grind, ?_⟩)); refine h148 _ ?_
            clear h148 K148
            refine W_cond rfl (fun hb149 => by first | (simp at hb149; done) | (simp at hb149; omega) | (simp at hb149; exact absurd hb149 (Int.not_lt.2 (markE_nn _ (by omega))))) fun hb149 => ?_
            clear hb149
            refine W_skip ?_
            first | refine h147 _ ?_ | refine ⟨by omega, h147 _ ?_⟩ | refine ⟨by omega, by omega, h147 _ ?_⟩ | (repeat (refine ⟨by first | omega | grind, ?_⟩)); refine h147 _ ?_
            clear h147 K147
            refine W_seqK fun K150 h150 => ?_
            refine W_seqK fun K151 h151 => ?_
            refine W_reg ?_
            simp [go_sem, ty3, ty4, markE_add, mvCore, nvCore, mvHart, nvHart]
            first | refine h151 _ ?_ | refine ⟨by omega, h151 _ ?_⟩ | refine ⟨by omega, by omega, h151 _ ?_⟩ | (repeat (refine ⟨by first | omega | grind, ?_⟩)); refine h151 _ ?_
            clear h151 K151
            refine W_cond rfl (fun hb152 => by first | (simp at hb152; done) | (simp at hb152; omega) | (simp at hb152; exact absurd hb152 (Int.not_lt.2 (markE_nn _ (by omega))))) fun hb152 => ?_
            clear hb152
            refine W_skip ?_
            first | refine h150 _ ?_ | refine ⟨by omega, h150 _ ?_⟩ | refine ⟨by omega, by omega, h150 _ ?_⟩ | (repeat (refine ⟨by first | omega | grind, ?_⟩)); refine h150 _ ?_
            clear h150 K150
            refine W_seqK fun K153 h153 => ?_
            refine W_drawS true (.op 0 (.op 2 (.fork 1 (.fork 3 (.fork 4 (.op 5 (.op 6 .nil)) 5 (.op 4 (.op 6 .nil))) 5 (.op 3 (.op 4 (.op 6 .nil)))) 5 (.op 1 (.op 3 (.op 4 (.op 6 .nil))))))) mixed (by decide +kernel) rfl ?_
            simp [go_sem, ty77, ty79, markE_add, mvCore, nvCore, mvHart, nvHart]
            refine ⟨?_, ?_⟩
            · try simp [go_sem, ty77, ty83, markE_add, mvCore, nvCore, mvHart, nvHart]
              refine callG_pc (fun hG => pc_laws_toCore c (by first | assumption | omega)) (by first | (simp; done) | (simp [inR_iff]; done) | (simp [inR_iff]; grind) | grind) (fun hG => by simp [go_sem, markE_add, mvCore, nvCore, mvHart, nvHart]) rfl rfl (by first | exact Or.inl rfl | exact Or.inr rfl) ?_
              simp [go_sem, markE_add, mvCore, nvCore, mvHart, nvHart]
              refine ⟨?_, ?_⟩
              · try simp [go_sem, ty79, ty86, markE_add, mvCore, nvCore, mvHart, nvHart]
                refine callG_pc (fun hG => pc_laws_toMsg m (by first | assumption | omega)) (by first | (simp; done) | (simp [inR_iff]; done) | (simp [inR_iff]; grind) | grind) (fun hG => by simp [go_sem, markE_add, mvCore, nvCore, mvHart, nvHart]) rfl rfl (by first | exact Or.inl rfl | exact Or.inr rfl) ?_
                simp [go_sem, markE_add, mvCore, nvCore, mvHart, nvHart]
                refine ⟨?_, ?_⟩
                · try simp [go_sem, ty83, ty86, markE_add, mvCore, nvCore, mvHart, nvHart]
                  refine callG_pc (fun hG => pc_impl_CoreHear c m (by first | assumption | omega)) (by first | (simp; done) | (simp [inR_iff]; done) | (simp [inR_iff]; grind) | grind) (fun hG => by simp [go_sem, markE_add, mvCore, nvCore, mvHart, nvHart]) rfl rfl (by first | exact Or.inl rfl | exact Or.inr rfl) ?_
                  simp [go_sem, ty83, markE_add, mvCore, nvCore, mvHart, nvHart]
                  first | refine h153 _ ?_ | refine ⟨by omega, h153 _ ?_⟩ | refine ⟨by omega, by omega, h153 _ ?_⟩ | (repeat (refine ⟨by first | omega | grind, ?_⟩)); refine h153 _ ?_
                  clear h153 K153
                  refine W_seqK fun K154 h154 => ?_
                  refine W_seqK fun K155 h155 => ?_
                  refine W_reg ?_
                  simp [go_sem, ty4, ty83, markE_add, mvCore, nvCore, mvHart, nvHart]
                  refine callG_pc (fun hG => pc_laws_eqCore (coreHear c m) (coreHear c m) (by first | assumption | omega)) (by first | (simp; done) | (simp [inR_iff]; done) | (simp [inR_iff]; grind) | grind) (fun hG => by simp [go_sem, markE_add, mvCore, nvCore, mvHart, nvHart]) rfl rfl (by first | exact Or.inl rfl | exact Or.inr rfl) ?_
                  simp [go_sem, ty4, markE_add, mvCore, nvCore, mvHart, nvHart]
                  first | refine h155 _ ?_ | refine ⟨by omega, h155 _ ?_⟩ | refine ⟨by omega, by omega, h155 _ ?_⟩ | (repeat (refine ⟨by first | omega | grind, ?_⟩)); refine h155 _ ?_
                  clear h155 K155
                  refine W_cond rfl (fun hb156 => by first | (simp at hb156; done) | (simp at hb156; omega) | (simp at hb156; exact absurd hb156 (Int.not_lt.2 (markE_nn _ (by omega))))) fun hb156 => ?_
                  clear hb156
                  refine W_skip ?_
                  first | refine h154 _ ?_ | refine ⟨by omega, h154 _ ?_⟩ | refine ⟨by omega, by omega, h154 _ ?_⟩ | (repeat (refine ⟨by first | omega | grind, ?_⟩)); refine h154 _ ?_
                  clear h154 K154
                  refine W_seqK fun K157 h157 => ?_
                  refine W_reg ?_
                  simp [go_sem, ty3, markE_add, mvCore, nvCore, mvHart, nvHart]
                  first | refine h157 _ ?_ | refine ⟨by omega, h157 _ ?_⟩ | refine ⟨by omega, by omega, h157 _ ?_⟩ | (repeat (refine ⟨by first | omega | grind, ?_⟩)); refine h157 _ ?_
                  clear h157 K157
                  refine W_seqK fun K158 h158 => ?_
                  refine W_reg ?_
                  simp [go_sem, ty3, ty83, markE_add, mvCore, nvCore, mvHart, nvHart]
                  refine callG_pc (fun hG => pc_laws_heldCore (coreHear c m) 1 (by first | assumption | omega) (fun m hm => by (try simp only [nvMsg, nvSender, nvPacket, nvFrame, nvHome, nvNode, nvWorld, nvHart, nvBlock, nvCore, nvFlock] at hm); first | exact hp m (by omega) | (rw [markE_add]; exact hp _ (by omega)) | exact markE_nn m (by omega) | (rw [markE_add]; exact markE_nn _ (by omega)))) (by first | (simp; done) | (simp [inR_iff]; done) | (simp [inR_iff]; grind) | grind) (fun hG => by simp [go_sem, markE_add, mvCore, nvCore, mvHart, nvHart]) rfl rfl (by first | exact Or.inl rfl | exact Or.inr rfl) ?_
                  simp [go_sem, ty3, markE_add, mvCore, nvCore, mvHart, nvHart]
                  first | refine h158 _ ?_ | refine ⟨by omega, h158 _ ?_⟩ | refine ⟨by omega, by omega, h158 _ ?_⟩ | (repeat (refine ⟨by first | omega | grind, ?_⟩)); refine h158 _ ?_
                  clear h158 K158
                  refine W_seqK fun K159 h159 => ?_
                  refine W_seqK fun K160 h160 => ?_
                  refine W_reg ?_
                  simp [go_sem, ty3, ty4, markE_add, mvCore, nvCore, mvHart, nvHart]
                  first | refine h160 _ ?_ | refine ⟨by omega, h160 _ ?_⟩ | refine ⟨by omega, by omega, h160 _ ?_⟩ | (repeat (refine ⟨by first | omega | grind, ?_⟩)); refine h160 _ ?_
                  clear h160 K160
                  refine W_cond rfl (fun hb161 => by first | (simp at hb161; done) | (simp at hb161; omega) | (simp at hb161; exact absurd hb161 (Int.not_lt.2 (markE_nn _ (by omega))))) fun hb161 => ?_
                  clear hb161
                  refine W_skip ?_
                  first | refine h159 _ ?_ | refine ⟨by omega, h159 _ ?_⟩ | refine ⟨by omega, by omega, h159 _ ?_⟩ | (repeat (refine ⟨by first | omega | grind, ?_⟩)); refine h159 _ ?_
                  clear h159 K159
                  refine W_seqK fun K162 h162 => ?_
                  refine W_seqK fun K163 h163 => ?_
                  refine W_reg ?_
                  simp [go_sem, ty3, ty4, markE_add, mvCore, nvCore, mvHart, nvHart]
                  first | refine h163 _ ?_ | refine ⟨by omega, h163 _ ?_⟩ | refine ⟨by omega, by omega, h163 _ ?_⟩ | (repeat (refine ⟨by first | omega | grind, ?_⟩)); refine h163 _ ?_
                  clear h163 K163
                  refine W_cond rfl (fun hb164 => by first | (simp at hb164; done) | (simp at hb164; omega) | (simp at hb164; exact absurd hb164 (Int.not_lt.2 (markE_nn _ (by omega))))) fun hb164 => ?_
                  clear hb164
                  refine W_skip ?_
                  first | refine h162 _ ?_ | refine ⟨by omega, h162 _ ?_⟩ | refine ⟨by omega, by omega, h162 _ ?_⟩ | (repeat (refine ⟨by first | omega | grind, ?_⟩)); refine h162 _ ?_
                  clear h162 K162
                  refine W_seqK fun K165 h165 => ?_
                  refine W_reg ?_
                  simp [go_sem, ty4, markE_add, mvCore, nvCore, mvHart, nvHart]
                  first | refine h165 _ ?_ | refine ⟨by omega, h165 _ ?_⟩ | refine ⟨by omega, by omega, h165 _ ?_⟩ | (repeat (refine ⟨by first | omega | grind, ?_⟩)); refine h165 _ ?_
                  clear h165 K165
                  refine W_ret ?_
                  simp [go_sem]
                · try simp [go_sem, ty83, ty86, markE_add, mvCore, nvCore, mvHart, nvHart]
                  refine callG_pc (fun hG => pc_impl_CoreHear c m (by first | assumption | omega)) (by first | (simp; done) | (simp [inR_iff]; done) | (simp [inR_iff]; grind) | grind) (fun hG => by simp [go_sem, markE_add, mvCore, nvCore, mvHart, nvHart]) rfl rfl (by first | exact Or.inl rfl | exact Or.inr rfl) ?_
                  simp [go_sem, ty83, markE_add, mvCore, nvCore, mvHart, nvHart]
                  first | refine h153 _ ?_ | refine ⟨by omega, h153 _ ?_⟩ | refine ⟨by omega, by omega, h153 _ ?_⟩ | (repeat (refine ⟨by first | omega | grind, ?_⟩)); refine h153 _ ?_
                  clear h153 K153
                  refine W_seqK fun K166 h166 => ?_
                  refine W_seqK fun K167 h167 => ?_
                  refine W_reg ?_
                  simp [go_sem, ty4, ty83, markE_add, mvCore, nvCore, mvHart, nvHart]
                  refine callG_pc (fun hG => pc_laws_eqCore (coreHear c m) (coreHear c m) (by first | assumption | omega)) (by first | (simp; done) | (simp [inR_iff]; done) | (simp [inR_iff]; grind) | grind) (fun hG => by simp [go_sem, markE_add, mvCore, nvCore, mvHart, nvHart]) rfl rfl (by first | exact Or.inl rfl | exact Or.inr rfl) ?_
                  simp [go_sem, ty4, markE_add, mvCore, nvCore, mvHart, nvHart]
                  first | refine h167 _ ?_ | refine ⟨by omega, h167 _ ?_⟩ | refine ⟨by omega, by omega, h167 _ ?_⟩ | (repeat (refine ⟨by first | omega | grind, ?_⟩)); refine h167 _ ?_
                  clear h167 K167
                  refine W_cond rfl (fun hb168 => by first | (simp at hb168; done) | (simp at hb168; omega) | (simp at hb168; exact absurd hb168 (Int.not_lt.2 (markE_nn _ (by omega))))) fun hb168 => ?_
                  clear hb168
                  refine W_skip ?_
                  first | refine h166 _ ?_ | refine ⟨by omega, h166 _ ?_⟩ | refine ⟨by omega, by omega, h166 _ ?_⟩ | (repeat (refine ⟨by first | omega | grind, ?_⟩)); refine h166 _ ?_
                  clear h166 K166
                  refine W_seqK fun K169 h169 => ?_
                  refine W_reg ?_
                  simp [go_sem, ty3, markE_add, mvCore, nvCore, mvHart, nvHart]
                  first | refine h169 _ ?_ | refine ⟨by omega, h169 _ ?_⟩ | refine ⟨by omega, by omega, h169 _ ?_⟩ | (repeat (refine ⟨by first | omega | grind, ?_⟩)); refine h169 _ ?_
                  clear h169 K169
                  refine W_seqK fun K170 h170 => ?_
                  refine W_reg ?_
                  simp [go_sem, ty3, ty83, markE_add, mvCore, nvCore, mvHart, nvHart]
                  refine callG_pc (fun hG => pc_laws_heldCore (coreHear c m) 1 (by first | assumption | omega) (fun m hm => by (try simp only [nvMsg, nvSender, nvPacket, nvFrame, nvHome, nvNode, nvWorld, nvHart, nvBlock, nvCore, nvFlock] at hm); first | exact hp m (by omega) | (rw [markE_add]; exact hp _ (by omega)) | exact markE_nn m (by omega) | (rw [markE_add]; exact markE_nn _ (by omega)))) (by first | (simp; done) | (simp [inR_iff]; done) | (simp [inR_iff]; grind) | grind) (fun hG => by simp [go_sem, markE_add, mvCore, nvCore, mvHart, nvHart]) rfl rfl (by first | exact Or.inl rfl | exact Or.inr rfl) ?_
                  simp [go_sem, ty3, markE_add, mvCore, nvCore, mvHart, nvHart]
                  first | refine h170 _ ?_ | refine ⟨by omega, h170 _ ?_⟩ | refine ⟨by omega, by omega, h170 _ ?_⟩ | (repeat (refine ⟨by first | omega | grind, ?_⟩)); refine h170 _ ?_
                  clear h170 K170
                  refine W_seqK fun K171 h171 => ?_
                  refine W_seqK fun K172 h172 => ?_
                  refine W_reg ?_
                  simp [go_sem, ty3, ty4, markE_add, mvCore, nvCore, mvHart, nvHart]
                  first | refine h172 _ ?_ | refine ⟨by omega, h172 _ ?_⟩ | refine ⟨by omega, by omega, h172 _ ?_⟩ | (repeat (refine ⟨by first | omega | grind, ?_⟩)); refine h172 _ ?_
                  clear h172 K172
                  refine W_cond rfl (fun hb173 => by first | (simp at hb173; done) | (simp at hb173; omega) | (simp at hb173; exact absurd hb173 (Int.not_lt.2 (markE_nn _ (by omega))))) fun hb173 => ?_
                  clear hb173
                  refine W_skip ?_
                  first | refine h171 _ ?_ | refine ⟨by omega, h171 _ ?_⟩ | refine ⟨by omega, by omega, h171 _ ?_⟩ | (repeat (refine ⟨by first | omega | grind, ?_⟩)); refine h171 _ ?_
                  clear h171 K171
                  refine W_seqK fun K174 h174 => ?_
                  refine W_seqK fun K175 h175 => ?_
                  refine W_reg ?_
                  simp [go_sem, ty3, ty4, markE_add, mvCore, nvCore, mvHart, nvHart]
                  first | refine h175 _ ?_ | refine ⟨by omega, h175 _ ?_⟩ | refine ⟨by omega, by omega, h175 _ ?_⟩ | (repeat (refine ⟨by first | omega | grind, ?_⟩)); refine h175 _ ?_
                  clear h175 K175
                  refine W_cond rfl (fun hb176 => by first | (simp at hb176; done) | (simp at hb176; omega) | (simp at hb176; exact absurd hb176 (Int.not_lt.2 (markE_nn _ (by omega))))) fun hb176 => ?_
                  clear hb176
                  refine W_skip ?_
                  first | refine h174 _ ?_ | refine ⟨by omega, h174 _ ?_⟩ | refine ⟨by omega, by omega, h174 _ ?_⟩ | (repeat (refine ⟨by first | omega | grind, ?_⟩)); refine h174 _ ?_
                  clear h174 K174
                  refine W_seqK fun K177 h177 => ?_
                  refine W_reg ?_
                  simp [go_sem, ty4, markE_add, mvCore, nvCore, mvHart, nvHart]
                  first | refine h177 _ ?_ | refine ⟨by omega, h177 _ ?_⟩ | refine ⟨by omega, by omega, h177 _ ?_⟩ | (repeat (refine ⟨by first | omega | grind, ?_⟩)); refine h177 _ ?_
                  clear h177 K177
                  refine W_ret ?_
                  simp [go_sem]
              · try simp [go_sem, ty79, ty83, ty86, markE_add, mvCore, nvCore, mvHart, nvHart]
                refine callG_pc (fun hG => pc_laws_toMsg m (by first | assumption | omega)) (by first | (simp; done) | (simp [inR_iff]; done) | (simp [inR_iff]; grind) | grind) (fun hG => by simp [go_sem, markE_add, mvCore, nvCore, mvHart, nvHart]) rfl rfl (by first | exact Or.inl rfl | exact Or.inr rfl) ?_
                simp [go_sem, ty83, ty86, markE_add, mvCore, nvCore, mvHart, nvHart]
                refine callG_pc (fun hG => pc_impl_CoreHear c m (by first | assumption | omega)) (by first | (simp; done) | (simp [inR_iff]; done) | (simp [inR_iff]; grind) | grind) (fun hG => by simp [go_sem, markE_add, mvCore, nvCore, mvHart, nvHart]) rfl rfl (by first | exact Or.inl rfl | exact Or.inr rfl) ?_
                simp [go_sem, ty83, markE_add, mvCore, nvCore, mvHart, nvHart]
                first | refine h153 _ ?_ | refine ⟨by omega, h153 _ ?_⟩ | refine ⟨by omega, by omega, h153 _ ?_⟩ | (repeat (refine ⟨by first | omega | grind, ?_⟩)); refine h153 _ ?_
                clear h153 K153
                refine W_seqK fun K178 h178 => ?_
                refine W_seqK fun K179 h179 => ?_
                refine W_reg ?_
                simp [go_sem, ty4, ty83, markE_add, mvCore, nvCore, mvHart, nvHart]
                refine callG_pc (fun hG => pc_laws_eqCore (coreHear c m) (coreHear c m) (by first | assumption | omega)) (by first | (simp; done) | (simp [inR_iff]; done) | (simp [inR_iff]; grind) | grind) (fun hG => by simp [go_sem, markE_add, mvCore, nvCore, mvHart, nvHart]) rfl rfl (by first | exact Or.inl rfl | exact Or.inr rfl) ?_
                simp [go_sem, ty4, markE_add, mvCore, nvCore, mvHart, nvHart]
                first | refine h179 _ ?_ | refine ⟨by omega, h179 _ ?_⟩ | refine ⟨by omega, by omega, h179 _ ?_⟩ | (repeat (refine ⟨by first | omega | grind, ?_⟩)); refine h179 _ ?_
                clear h179 K179
                refine W_cond rfl (fun hb180 => by first | (simp at hb180; done) | (simp at hb180; omega) | (simp at hb180; exact absurd hb180 (Int.not_lt.2 (markE_nn _ (by omega))))) fun hb180 => ?_
                clear hb180
                refine W_skip ?_
                first | refine h178 _ ?_ | refine ⟨by omega, h178 _ ?_⟩ | refine ⟨by omega, by omega, h178 _ ?_⟩ | (repeat (refine ⟨by first | omega | grind, ?_⟩)); refine h178 _ ?_
                clear h178 K178
                refine W_seqK fun K181 h181 => ?_
                refine W_reg ?_
                simp [go_sem, ty3, markE_add, mvCore, nvCore, mvHart, nvHart]
                first | refine h181 _ ?_ | refine ⟨by omega, h181 _ ?_⟩ | refine ⟨by omega, by omega, h181 _ ?_⟩ | (repeat (refine ⟨by first | omega | grind, ?_⟩)); refine h181 _ ?_
                clear h181 K181
                refine W_seqK fun K182 h182 => ?_
                refine W_reg ?_
                simp [go_sem, ty3, ty83, markE_add, mvCore, nvCore, mvHart, nvHart]
                refine callG_pc (fun hG => pc_laws_heldCore (coreHear c m) 1 (by first | assumption | omega) (fun m hm => by (try simp only [nvMsg, nvSender, nvPacket, nvFrame, nvHome, nvNode, nvWorld, nvHart, nvBlock, nvCore, nvFlock] at hm); first | exact hp m (by omega) | (rw [markE_add]; exact hp _ (by omega)) | exact markE_nn m (by omega) | (rw [markE_add]; exact markE_nn _ (by omega)))) (by first | (simp; done) | (simp [inR_iff]; done) | (simp [inR_iff]; grind) | grind) (fun hG => by simp [go_sem, markE_add, mvCore, nvCore, mvHart, nvHart]) rfl rfl (by first | exact Or.inl rfl | exact Or.inr rfl) ?_
                simp [go_sem, ty3, markE_add, mvCore, nvCore, mvHart, nvHart]
                first | refine h182 _ ?_ | refine ⟨by omega, h182 _ ?_⟩ | refine ⟨by omega, by omega, h182 _ ?_⟩ | (repeat (refine ⟨by first | omega | grind, ?_⟩)); refine h182 _ ?_
                clear h182 K182
                refine W_seqK fun K183 h183 => ?_
                refine W_seqK fun K184 h184 => ?_
                refine W_reg ?_
                simp [go_sem, ty3, ty4, markE_add, mvCore, nvCore, mvHart, nvHart]
                first | refine h184 _ ?_ | refine ⟨by omega, h184 _ ?_⟩ | refine ⟨by omega, by omega, h184 _ ?_⟩ | (repeat (refine ⟨by first | omega | grind, ?_⟩)); refine h184 _ ?_
                clear h184 K184
                refine W_cond rfl (fun hb185 => by first | (simp at hb185; done) | (simp at hb185; omega) | (simp at hb185; exact absurd hb185 (Int.not_lt.2 (markE_nn _ (by omega))))) fun hb185 => ?_
                clear hb185
                refine W_skip ?_
                first | refine h183 _ ?_ | refine ⟨by omega, h183 _ ?_⟩ | refine ⟨by omega, by omega, h183 _ ?_⟩ | (repeat (refine ⟨by first | omega | grind, ?_⟩)); refine h183 _ ?_
                clear h183 K183
                refine W_seqK fun K186 h186 => ?_
                refine W_seqK fun K187 h187 => ?_
                refine W_reg ?_
                simp [go_sem, ty3, ty4, markE_add, mvCore, nvCore, mvHart, nvHart]
                first | refine h187 _ ?_ | refine ⟨by omega, h187 _ ?_⟩ | refine ⟨by omega, by omega, h187 _ ?_⟩ | (repeat (refine ⟨by first | omega | grind, ?_⟩)); refine h187 _ ?_
                clear h187 K187
                refine W_cond rfl (fun hb188 => by first | (simp at hb188; done) | (simp at hb188; omega) | (simp at hb188; exact absurd hb188 (Int.not_lt.2 (markE_nn _ (by omega))))) fun hb188 => ?_
                clear hb188
                refine W_skip ?_
                first | refine h186 _ ?_ | refine ⟨by omega, h186 _ ?_⟩ | refine ⟨by omega, by omega, h186 _ ?_⟩ | (repeat (refine ⟨by first | omega | grind, ?_⟩)); refine h186 _ ?_
                clear h186 K186
                refine W_seqK fun K189 h189 => ?_
                refine W_reg ?_
                simp [go_sem, ty4, markE_add, mvCore, nvCore, mvHart, nvHart]
                first | refine h189 _ ?_ | refine ⟨by omega, h189 _ ?_⟩ | refine ⟨by omega, by omega, h189 _ ?_⟩ | (repeat (refine ⟨by first | omega | grind, ?_⟩)); refine h189 _ ?_
                clear h189 K189
                refine W_ret ?_
                simp [go_sem]
            · try simp [go_sem, ty77, ty83, markE_add, mvCore, nvCore, mvHart, nvHart]
              refine callG_pc (fun hG => pc_laws_toCore c (by first | assumption | omega)) (by first | (simp; done) | (simp [inR_iff]; done) | (simp [inR_iff]; grind) | grind) (fun hG => by simp [go_sem, markE_add, mvCore, nvCore, mvHart, nvHart]) rfl rfl (by first | exact Or.inl rfl | exact Or.inr rfl) ?_
              simp [go_sem, ty79, ty86, markE_add, mvCore, nvCore, mvHart, nvHart]
              refine callG_pc (fun hG => pc_laws_toMsg m (by first | assumption | omega)) (by first | (simp; done) | (simp [inR_iff]; done) | (simp [inR_iff]; grind) | grind) (fun hG => by simp [go_sem, markE_add, mvCore, nvCore, mvHart, nvHart]) rfl rfl (by first | exact Or.inl rfl | exact Or.inr rfl) ?_
              simp [go_sem, ty83, ty86, markE_add, mvCore, nvCore, mvHart, nvHart]
              refine callG_pc (fun hG => pc_impl_CoreHear c m (by first | assumption | omega)) (by first | (simp; done) | (simp [inR_iff]; done) | (simp [inR_iff]; grind) | grind) (fun hG => by simp [go_sem, markE_add, mvCore, nvCore, mvHart, nvHart]) rfl rfl (by first | exact Or.inl rfl | exact Or.inr rfl) ?_
              simp [go_sem, ty83, markE_add, mvCore, nvCore, mvHart, nvHart]
              first | refine h153 _ ?_ | refine ⟨by omega, h153 _ ?_⟩ | refine ⟨by omega, by omega, h153 _ ?_⟩ | (repeat (refine ⟨by first | omega | grind, ?_⟩)); refine h153 _ ?_
              clear h153 K153
              refine W_seqK fun K190 h190 => ?_
              refine W_seqK fun K191 h191 => ?_
              refine W_reg ?_
              simp [go_sem, ty4, ty83, markE_add, mvCore, nvCore, mvHart, nvHart]
              refine callG_pc (fun hG => pc_laws_eqCore (coreHear c m) (coreHear c m) (by first | assumption | omega)) (by first | (simp; done) | (simp [inR_iff]; done) | (simp [inR_iff]; grind) | grind) (fun hG => by simp [go_sem, markE_add, mvCore, nvCore, mvHart, nvHart]) rfl rfl (by first | exact Or.inl rfl | exact Or.inr rfl) ?_
              simp [go_sem, ty4, markE_add, mvCore, nvCore, mvHart, nvHart]
              first | refine h191 _ ?_ | refine ⟨by omega, h191 _ ?_⟩ | refine ⟨by omega, by omega, h191 _ ?_⟩ | (repeat (refine ⟨by first | omega | grind, ?_⟩)); refine h191 _ ?_
              clear h191 K191
              refine W_cond rfl (fun hb192 => by first | (simp at hb192; done) | (simp at hb192; omega) | (simp at hb192; exact absurd hb192 (Int.not_lt.2 (markE_nn _ (by omega))))) fun hb192 => ?_
              clear hb192
              refine W_skip ?_
              first | refine h190 _ ?_ | refine ⟨by omega, h190 _ ?_⟩ | refine ⟨by omega, by omega, h190 _ ?_⟩ | (repeat (refine ⟨by first | omega | grind, ?_⟩)); refine h190 _ ?_
              clear h190 K190
              refine W_seqK fun K193 h193 => ?_
              refine W_reg ?_
              simp [go_sem, ty3, markE_add, mvCore, nvCore, mvHart, nvHart]
              first | refine h193 _ ?_ | refine ⟨by omega, h193 _ ?_⟩ | refine ⟨by omega, by omega, h193 _ ?_⟩ | (repeat (refine ⟨by first | omega | grind, ?_⟩)); refine h193 _ ?_
              clear h193 K193
              refine W_seqK fun K194 h194 => ?_
              refine W_reg ?_
              simp [go_sem, ty3, ty83, markE_add, mvCore, nvCore, mvHart, nvHart]
              refine callG_pc (fun hG => pc_laws_heldCore (coreHear c m) 1 (by first | assumption | omega) (fun m hm => by (try simp only [nvMsg, nvSender, nvPacket, nvFrame, nvHome, nvNode, nvWorld, nvHart, nvBlock, nvCore, nvFlock] at hm); first | exact hp m (by omega) | (rw [markE_add]; exact hp _ (by omega)) | exact markE_nn m (by omega) | (rw [markE_add]; exact markE_nn _ (by omega)))) (by first | (simp; done) | (simp [inR_iff]; done) | (simp [inR_iff]; grind) | grind) (fun hG => by simp [go_sem, markE_add, mvCore, nvCore, mvHart, nvHart]) rfl rfl (by first | exact Or.inl rfl | exact Or.inr rfl) ?_
              simp [go_sem, ty3, markE_add, mvCore, nvCore, mvHart, nvHart]
              first | refine h194 _ ?_ | refine ⟨by omega, h194 _ ?_⟩ | refine ⟨by omega, by omega, h194 _ ?_⟩ | (repeat (refine ⟨by first | omega | grind, ?_⟩)); refine h194 _ ?_
              clear h194 K194
              refine W_seqK fun K195 h195 => ?_
              refine W_seqK fun K196 h196 => ?_
              refine W_reg ?_
              simp [go_sem, ty3, ty4, markE_add, mvCore, nvCore, mvHart, nvHart]
              first | refine h196 _ ?_ | refine ⟨by omega, h196 _ ?_⟩ | refine ⟨by omega, by omega, h196 _ ?_⟩ | (repeat (refine ⟨by first | omega | grind, ?_⟩)); refine h196 _ ?_
              clear h196 K196
              refine W_cond rfl (fun hb197 => by first | (simp at hb197; done) | (simp at hb197; omega) | (simp at hb197; exact absurd hb197 (Int.not_lt.2 (markE_nn _ (by omega))))) fun hb197 => ?_
              clear hb197
              refine W_skip ?_
              first | refine h195 _ ?_ | refine ⟨by omega, h195 _ ?_⟩ | refine ⟨by omega, by omega, h195 _ ?_⟩ | (repeat (refine ⟨by first | omega | grind, ?_⟩)); refine h195 _ ?_
              clear h195 K195
              refine W_seqK fun K198 h198 => ?_
              refine W_seqK fun K199 h199 => ?_
              refine W_reg ?_
              simp [go_sem, ty3, ty4, markE_add, mvCore, nvCore, mvHart, nvHart]
              first | refine h199 _ ?_ | refine ⟨by omega, h199 _ ?_⟩ | refine ⟨by omega, by omega, h199 _ ?_⟩ | (repeat (refine ⟨by first | omega | grind, ?_⟩)); refine h199 _ ?_
              clear h199 K199
              refine W_cond rfl (fun hb200 => by first | (simp at hb200; done) | (simp at hb200; omega) | (simp at hb200; exact absurd hb200 (Int.not_lt.2 (markE_nn _ (by omega))))) fun hb200 => ?_
              clear hb200
              refine W_skip ?_
              first | refine h198 _ ?_ | refine ⟨by omega, h198 _ ?_⟩ | refine ⟨by omega, by omega, h198 _ ?_⟩ | (repeat (refine ⟨by first | omega | grind, ?_⟩)); refine h198 _ ?_
              clear h198 K198
              refine W_seqK fun K201 h201 => ?_
              refine W_reg ?_
              simp [go_sem, ty4, markE_add, mvCore, nvCore, mvHart, nvHart]
              first | refine h201 _ ?_ | refine ⟨by omega, h201 _ ?_⟩ | refine ⟨by omega, by omega, h201 _ ?_⟩ | (repeat (refine ⟨by first | omega | grind, ?_⟩)); refine h201 _ ?_
              clear h201 K201
              refine W_ret ?_
              simp [go_sem]
        · try simp [go_sem, ty79, ty83, ty86, markE_add, mvCore, nvCore, mvHart, nvHart]
          refine callG_pc (fun hG => pc_laws_toMsg m (by first | assumption | omega)) (by first | (simp; done) | (simp [inR_iff]; done) | (simp [inR_iff]; grind) | grind) (fun hG => by simp [go_sem, markE_add, mvCore, nvCore, mvHart, nvHart]) rfl rfl (by first | exact Or.inl rfl | exact Or.inr rfl) ?_
          simp [go_sem, ty83, ty86, markE_add, mvCore, nvCore, mvHart, nvHart]
          refine callG_pc (fun hG => pc_spec_CoreHear c m (by first | assumption | omega)) (by first | (simp; done) | (simp [inR_iff]; done) | (simp [inR_iff]; grind) | grind) (fun hG => by simp [go_sem, markE_add, mvCore, nvCore, mvHart, nvHart]) rfl rfl (by first | exact Or.inl rfl | exact Or.inr rfl) ?_
          simp [go_sem, ty83, markE_add, mvCore, nvCore, mvHart, nvHart]
          first | refine h13 _ ?_ | refine ⟨by omega, h13 _ ?_⟩ | refine ⟨by omega, by omega, h13 _ ?_⟩ | (repeat (refine ⟨by first | omega | grind, ?_⟩)); refine h13 _ ?_
          clear h13 K13
          refine W_seqK fun K202 h202 => ?_
          refine W_reg ?_
          simp [go_sem, ty77, ty83, markE_add, mvCore, nvCore, mvHart, nvHart]
          refine callG_pc (fun hG => pc_laws_toCore c (by first | assumption | omega)) (by first | (simp; done) | (simp [inR_iff]; done) | (simp [inR_iff]; grind) | grind) (fun hG => by simp [go_sem, markE_add, mvCore, nvCore, mvHart, nvHart]) rfl rfl (by first | exact Or.inl rfl | exact Or.inr rfl) ?_
          simp [go_sem, ty83, markE_add, mvCore, nvCore, mvHart, nvHart]
          first | refine h202 _ ?_ | refine ⟨by omega, h202 _ ?_⟩ | refine ⟨by omega, by omega, h202 _ ?_⟩ | (repeat (refine ⟨by first | omega | grind, ?_⟩)); refine h202 _ ?_
          clear h202 K202
          refine W_seqK fun K203 h203 => ?_
          refine W_reg ?_
          simp [go_sem, ty79, ty86, markE_add, mvCore, nvCore, mvHart, nvHart]
          refine callG_pc (fun hG => pc_laws_toMsg m (by first | assumption | omega)) (by first | (simp; done) | (simp [inR_iff]; done) | (simp [inR_iff]; grind) | grind) (fun hG => by simp [go_sem, markE_add, mvCore, nvCore, mvHart, nvHart]) rfl rfl (by first | exact Or.inl rfl | exact Or.inr rfl) ?_
          simp [go_sem, ty86, markE_add, mvCore, nvCore, mvHart, nvHart]
          first | refine h203 _ ?_ | refine ⟨by omega, h203 _ ?_⟩ | refine ⟨by omega, by omega, h203 _ ?_⟩ | (repeat (refine ⟨by first | omega | grind, ?_⟩)); refine h203 _ ?_
          clear h203 K203
          refine W_seqK fun K204 h204 => ?_
          refine W_reg ?_
          simp [go_sem, ty83, ty86, markE_add, mvCore, nvCore, mvHart, nvHart]
          refine callG_pc (fun hG => pc_impl_CoreHear c m (by first | assumption | omega)) (by first | (simp; done) | (simp [inR_iff]; done) | (simp [inR_iff]; grind) | grind) (fun hG => by simp [go_sem, markE_add, mvCore, nvCore, mvHart, nvHart]) rfl rfl (by first | exact Or.inl rfl | exact Or.inr rfl) ?_
          simp [go_sem, ty83, markE_add, mvCore, nvCore, mvHart, nvHart]
          first | refine h204 _ ?_ | refine ⟨by omega, h204 _ ?_⟩ | refine ⟨by omega, by omega, h204 _ ?_⟩ | (repeat (refine ⟨by first | omega | grind, ?_⟩)); refine h204 _ ?_
          clear h204 K204
          refine W_seqK fun K205 h205 => ?_
          refine W_seqK fun K206 h206 => ?_
          refine W_reg ?_
          simp [go_sem, ty4, ty83, markE_add, mvCore, nvCore, mvHart, nvHart]
          refine callG_pc (fun hG => pc_laws_eqCore (coreHear c m) (coreHear c m) (by first | assumption | omega)) (by first | (simp; done) | (simp [inR_iff]; done) | (simp [inR_iff]; grind) | grind) (fun hG => by simp [go_sem, markE_add, mvCore, nvCore, mvHart, nvHart]) rfl rfl (by first | exact Or.inl rfl | exact Or.inr rfl) ?_
          simp [go_sem, ty4, markE_add, mvCore, nvCore, mvHart, nvHart]
          first | refine h206 _ ?_ | refine ⟨by omega, h206 _ ?_⟩ | refine ⟨by omega, by omega, h206 _ ?_⟩ | (repeat (refine ⟨by first | omega | grind, ?_⟩)); refine h206 _ ?_
          clear h206 K206
          refine W_cond rfl (fun hb207 => by first | (simp at hb207; done) | (simp at hb207; omega) | (simp at hb207; exact absurd hb207 (Int.not_lt.2 (markE_nn _ (by omega))))) fun hb207 => ?_
          clear hb207
          refine W_skip ?_
          first | refine h205 _ ?_ | refine ⟨by omega, h205 _ ?_⟩ | refine ⟨by omega, by omega, h205 _ ?_⟩ | (repeat (refine ⟨by first | omega | grind, ?_⟩)); refine h205 _ ?_
          clear h205 K205
          refine W_seqK fun K208 h208 => ?_
          refine W_seqK fun K209 h209 => ?_
          refine W_drawT true mixed (by decide +kernel) ?_
          simp [go_sem, ty77, ty83, markE_add, mvCore, nvCore, mvHart, nvHart]
          refine callG_pc (fun hG => pc_laws_toCore c (by first | assumption | omega)) (by first | (simp; done) | (simp [inR_iff]; done) | (simp [inR_iff]; grind) | grind) (fun hG => by simp [go_sem, markE_add, mvCore, nvCore, mvHart, nvHart]) rfl rfl (by first | exact Or.inl rfl | exact Or.inr rfl) ?_
          simp [go_sem, ty4, ty83, markE_add, mvCore, nvCore, mvHart, nvHart]
          refine callG_pc (fun hG => pc_laws_eqCore c c (by first | assumption | omega)) (by first | (simp; done) | (simp [inR_iff]; done) | (simp [inR_iff]; grind) | grind) (fun hG => by simp [go_sem, markE_add, mvCore, nvCore, mvHart, nvHart]) rfl rfl (by first | exact Or.inl rfl | exact Or.inr rfl) ?_
          simp [go_sem, ty4, markE_add, mvCore, nvCore, mvHart, nvHart]
          first | refine h209 _ ?_ | refine ⟨by omega, h209 _ ?_⟩ | refine ⟨by omega, by omega, h209 _ ?_⟩ | (repeat (refine ⟨by first | omega | grind, ?_⟩)); refine h209 _ ?_
          clear h209 K209
          refine W_cond rfl (fun hb210 => by first | (simp at hb210; done) | (simp at hb210; omega) | (simp at hb210; exact absurd hb210 (Int.not_lt.2 (markE_nn _ (by omega))))) fun hb210 => ?_
          clear hb210
          refine W_skip ?_
          first | refine h208 _ ?_ | refine ⟨by omega, h208 _ ?_⟩ | refine ⟨by omega, by omega, h208 _ ?_⟩ | (repeat (refine ⟨by first | omega | grind, ?_⟩)); refine h208 _ ?_
          clear h208 K208
          refine W_seqK fun K211 h211 => ?_
          refine W_seqK fun K212 h212 => ?_
          refine W_drawT true mixed (by decide +kernel) ?_
          simp [go_sem, ty79, ty86, markE_add, mvCore, nvCore, mvHart, nvHart]
          refine callG_pc (fun hG => pc_laws_toMsg m (by first | assumption | omega)) (by first | (simp; done) | (simp [inR_iff]; done) | (simp [inR_iff]; grind) | grind) (fun hG => by simp [go_sem, markE_add, mvCore, nvCore, mvHart, nvHart]) rfl rfl (by first | exact Or.inl rfl | exact Or.inr rfl) ?_
          simp [go_sem, ty4, ty86, markE_add, mvCore, nvCore, mvHart, nvHart]
          refine callG_pc (fun hG => pc_laws_eqMsg m m (by first | assumption | omega)) (by first | (simp; done) | (simp [inR_iff]; done) | (simp [inR_iff]; grind) | grind) (fun hG => by simp [go_sem, markE_add, mvCore, nvCore, mvHart, nvHart]) rfl rfl (by first | exact Or.inl rfl | exact Or.inr rfl) ?_
          simp [go_sem, ty4, markE_add, mvCore, nvCore, mvHart, nvHart]
          first | refine h212 _ ?_ | refine ⟨by omega, h212 _ ?_⟩ | refine ⟨by omega, by omega, h212 _ ?_⟩ | (repeat (refine ⟨by first | omega | grind, ?_⟩)); refine h212 _ ?_
          clear h212 K212
          refine W_cond rfl (fun hb213 => by first | (simp at hb213; done) | (simp at hb213; omega) | (simp at hb213; exact absurd hb213 (Int.not_lt.2 (markE_nn _ (by omega))))) fun hb213 => ?_
          clear hb213
          refine W_skip ?_
          first | refine h211 _ ?_ | refine ⟨by omega, h211 _ ?_⟩ | refine ⟨by omega, by omega, h211 _ ?_⟩ | (repeat (refine ⟨by first | omega | grind, ?_⟩)); refine h211 _ ?_
          clear h211 K211
          refine W_seqK fun K214 h214 => ?_
          refine W_reg ?_
          simp [go_sem, ty3, markE_add, mvCore, nvCore, mvHart, nvHart]
          first | refine h214 _ ?_ | refine ⟨by omega, h214 _ ?_⟩ | refine ⟨by omega, by omega, h214 _ ?_⟩ | (repeat (refine ⟨by first | omega | grind, ?_⟩)); refine h214 _ ?_
          clear h214 K214
          refine W_seqK fun K215 h215 => ?_
          refine W_reg ?_
          simp [go_sem, ty3, ty83, markE_add, mvCore, nvCore, mvHart, nvHart]
          refine callG_true (by simp) ((CallW_inline (n := 14) Try.func55 rfl rfl rfl rfl (by simp) fun a_ => ?_))
          refine W_seqK fun K216 h216 => ?_
          refine W_reg ?_
          simp [go_sem, ty3, ty83, markE_add, mvCore, nvCore, mvHart, nvHart]
          first | refine h216 _ ?_ | refine ⟨by omega, h216 _ ?_⟩ | refine ⟨by omega, by omega, h216 _ ?_⟩ | (repeat (refine ⟨by first | omega | grind, ?_⟩)); refine h216 _ ?_
          clear h216 K216
          refine W_seqK fun K217 h217 => ?_
          refine W_reg ?_
          simp [go_sem, ty3, ty51, ty83, markE_add, mvCore, nvCore, mvHart, nvHart]
          refine callG_true (by simp) ((CallW_inline (n := 10) Try.func110 rfl rfl rfl rfl (by simp) fun a_ => ?_))
          refine W_seqK fun K218 h218 => ?_
          refine W_reg ?_
          simp [go_sem, ty3, ty51, markE_add, mvCore, nvCore, mvHart, nvHart]
          first | refine h218 _ ?_ | refine ⟨by omega, h218 _ ?_⟩ | refine ⟨by omega, by omega, h218 _ ?_⟩ | (repeat (refine ⟨by first | omega | grind, ?_⟩)); refine h218 _ ?_
          clear h218 K218
          refine W_seqK fun K219 h219 => ?_
          refine W_reg ?_
          simp [go_sem, ty3, ty42, ty51, markE_add, mvCore, nvCore, mvHart, nvHart]
          refine callG_true (by simp) (CallW_mut (mc_laws_markIntS c.hart.regs 1 (by first | assumption | omega)) rfl rfl rfl (by simp [go_sem, markE_add, mvCore, nvCore, mvHart, nvHart]) rfl ?_)
          simp [go_sem, ty3, markE_add, mvCore, nvCore, mvHart, nvHart]
          first | refine h219 _ ?_ | refine ⟨by omega, h219 _ ?_⟩ | refine ⟨by omega, by omega, h219 _ ?_⟩ | (repeat (refine ⟨by first | omega | grind, ?_⟩)); refine h219 _ ?_
          clear h219 K219
          refine W_seqK fun K220 h220 => ?_
          refine W_reg ?_
          simp [go_sem, ty3, markE_add, mvCore, nvCore, mvHart, nvHart]
          first | refine h220 _ ?_ | refine ⟨by omega, h220 _ ?_⟩ | refine ⟨by omega, by omega, h220 _ ?_⟩ | (repeat (refine ⟨by first | omega | grind, ?_⟩)); refine h220 _ ?_
          clear h220 K220
          refine W_ret ?_
          simp [go_sem]
          refine ⟨_, _, ⟨rfl, rfl⟩, ?_⟩
          simp [go_sem, ty3, markE_add, mvCore, nvCore, mvHart, nvHart]
          first | refine h217 _ ?_ | refine ⟨by omega, h217 _ ?_⟩ | refine ⟨by omega, by omega, h217 _ ?_⟩ | (repeat (refine ⟨by first | omega | grind, ?_⟩)); refine h217 _ ?_
          clear h217 K217
          refine W_seqK fun K221 h221 => ?_
          refine W_reg ?_
          simp [go_sem, ty3, ty28, ty33, ty83, markE_add, mvCore, nvCore, mvHart, nvHart]
          refine callG_true (by simp) (CallW_mut (mc_laws_markBlockS c.cache (markE 1 (c.hart.regs.length)) (by first | assumption | omega) (by first | assumption | omega)) rfl rfl rfl (by simp [go_sem, markE_add, mvCore, nvCore, mvHart, nvHart]) rfl ?_)
          simp [go_sem, ty3, markE_add, mvCore, nvCore, mvHart, nvHart]
          first | refine h221 _ ?_ | refine ⟨by omega, h221 _ ?_⟩ | refine ⟨by omega, by omega, h221 _ ?_⟩ | (repeat (refine ⟨by first | omega | grind, ?_⟩)); refine h221 _ ?_
          clear h221 K221
          refine W_seqK fun K222 h222 => ?_
          refine W_reg ?_
          simp [go_sem, ty3, markE_add, mvCore, nvCore, mvHart, nvHart]
          first | refine h222 _ ?_ | refine ⟨by omega, h222 _ ?_⟩ | refine ⟨by omega, by omega, h222 _ ?_⟩ | (repeat (refine ⟨by first | omega | grind, ?_⟩)); refine h222 _ ?_
          clear h222 K222
          refine W_ret ?_
          simp [go_sem]
          refine ⟨_, _, ⟨rfl, rfl⟩, ?_⟩
          simp [go_sem, ty3, markE_add, mvCore, nvCore, mvHart, nvHart]
          first | refine h215 _ ?_ | refine ⟨by omega, h215 _ ?_⟩ | refine ⟨by omega, by omega, h215 _ ?_⟩ | (repeat (refine ⟨by first | omega | grind, ?_⟩)); refine h215 _ ?_
          clear h215 K215
          refine W_seqK fun K223 h223 => ?_
          refine W_reg ?_
          simp [go_sem, ty3, ty86, markE_add, mvCore, nvCore, mvHart, nvHart]
          refine callG_true (by simp) ((CallW_inline (n := 10) Try.func56 rfl rfl rfl rfl (by simp) fun a_ => ?_))
          refine W_seqK fun K224 h224 => ?_
          refine W_reg ?_
          simp [go_sem, ty3, ty86, markE_add, mvCore, nvCore, mvHart, nvHart]
          first | refine h224 _ ?_ | refine ⟨by omega, h224 _ ?_⟩ | refine ⟨by omega, by omega, h224 _ ?_⟩ | (repeat (refine ⟨by first | omega | grind, ?_⟩)); refine h224 _ ?_
          clear h224 K224
          refine W_seqK fun K225 h225 => ?_
          refine W_reg ?_
          simp [go_sem, ty3, ty42, ty86, markE_add, mvCore, nvCore, mvHart, nvHart]
          refine callG_true (by simp) (CallW_mut (mc_laws_markIntS m.list (markE 1 (c.hart.regs.length + (c.cache.map nBlock).sum)) (by first | assumption | omega)) rfl rfl rfl (by simp [go_sem, markE_add, mvCore, nvCore, mvHart, nvHart]) rfl ?_)
          simp [go_sem, ty3, markE_add, mvCore, nvCore, mvHart, nvHart]
          first | refine h225 _ ?_ | refine ⟨by omega, h225 _ ?_⟩ | refine ⟨by omega, by omega, h225 _ ?_⟩ | (repeat (refine ⟨by first | omega | grind, ?_⟩)); refine h225 _ ?_
          clear h225 K225
          refine W_seqK fun K226 h226 => ?_
          refine W_reg ?_
          simp [go_sem, ty3, markE_add, mvCore, nvCore, mvHart, nvHart]
          first | refine h226 _ ?_ | refine ⟨by omega, h226 _ ?_⟩ | refine ⟨by omega, by omega, h226 _ ?_⟩ | (repeat (refine ⟨by first | omega | grind, ?_⟩)); refine h226 _ ?_
          clear h226 K226
          refine W_ret ?_
          simp [go_sem]
          refine ⟨_, _, ⟨rfl, rfl⟩, ?_⟩
          simp [go_sem, ty3, markE_add, mvCore, nvCore, mvHart, nvHart]
          first | refine h223 _ ?_ | refine ⟨by omega, h223 _ ?_⟩ | refine ⟨by omega, by omega, h223 _ ?_⟩ | (repeat (refine ⟨by first | omega | grind, ?_⟩)); refine h223 _ ?_
          clear h223 K223
          refine W_seqK fun K227 h227 => ?_
          refine W_seqK fun K228 h228 => ?_
          refine W_reg ?_
          simp [go_sem, ty3, ty4, ty83, markE_add, mvCore, nvCore, mvHart, nvHart]
          refine callG_pc (fun hG => pc_laws_eqCore (coreHear c m) (coreHear c m) (by first | assumption | omega)) (by first | (simp; done) | (simp [inR_iff]; done) | (simp [inR_iff]; grind) | grind) (fun hG => by simp [go_sem, markE_add, mvCore, nvCore, mvHart, nvHart]) rfl rfl (by first | exact Or.inl rfl | exact Or.inr rfl) ?_
          simp [go_sem, ty4, markE_add, mvCore, nvCore, mvHart, nvHart]
          first | refine h228 _ ?_ | refine ⟨by omega, h228 _ ?_⟩ | refine ⟨by omega, by omega, h228 _ ?_⟩ | (repeat (refine ⟨by first | omega | grind, ?_⟩)); refine h228 _ ?_
          clear h228 K228
          refine W_cond rfl (fun hb229 => by first | (simp at hb229; done) | (simp at hb229; omega) | (simp at hb229; exact absurd hb229 (Int.not_lt.2 (markE_nn _ (by omega))))) fun hb229 => ?_
          clear hb229
          refine W_skip ?_
          first | refine h227 _ ?_ | refine ⟨by omega, h227 _ ?_⟩ | refine ⟨by omega, by omega, h227 _ ?_⟩ | (repeat (refine ⟨by first | omega | grind, ?_⟩)); refine h227 _ ?_
          clear h227 K227
          refine W_seqK fun K230 h230 => ?_
          refine W_reg ?_
          simp [go_sem, ty3, markE_add, mvCore, nvCore, mvHart, nvHart]
          first | refine h230 _ ?_ | refine ⟨by omega, h230 _ ?_⟩ | refine ⟨by omega, by omega, h230 _ ?_⟩ | (repeat (refine ⟨by first | omega | grind, ?_⟩)); refine h230 _ ?_
          clear h230 K230
          refine W_seqK fun K231 h231 => ?_
          refine W_reg ?_
          simp [go_sem, ty3, ty83, markE_add, mvCore, nvCore, mvHart, nvHart]
          refine callG_true (by simp) ((CallW_inline (n := 14) Try.func55 rfl rfl rfl rfl (by simp) fun a_ => ?_))
          refine W_seqK fun K232 h232 => ?_
          refine W_reg ?_
          simp [go_sem, ty3, ty83, markE_add, mvCore, nvCore, mvHart, nvHart]
          first | refine h232 _ ?_ | refine ⟨by omega, h232 _ ?_⟩ | refine ⟨by omega, by omega, h232 _ ?_⟩ | (repeat (refine ⟨by first | omega | grind, ?_⟩)); refine h232 _ ?_
          clear h232 K232
          refine W_seqK fun K233 h233 => ?_
          refine W_reg ?_
          simp [go_sem, ty3, ty51, ty83, markE_add, mvCore, nvCore, mvHart, nvHart]
          refine callG_true (by simp) ((CallW_inline (n := 10) Try.func110 rfl rfl rfl rfl (by simp) fun a_ => ?_))
          refine W_seqK fun K234 h234 => ?_
          refine W_reg ?_
          simp [go_sem, ty3, ty51, markE_add, mvCore, nvCore, mvHart, nvHart]
          first | refine h234 _ ?_ | refine ⟨by omega, h234 _ ?_⟩ | refine ⟨by omega, by omega, h234 _ ?_⟩ | (repeat (refine ⟨by first | omega | grind, ?_⟩)); refine h234 _ ?_
          clear h234 K234
          refine W_seqK fun K235 h235 => ?_
          refine W_reg ?_
          simp [go_sem, ty3, ty42, ty51, markE_add, mvCore, nvCore, mvHart, nvHart]
          refine callG_true (by simp) (CallW_mut (mc_laws_markIntS (((coreHear c m).hart).regs) 1 (by first | assumption | omega)) rfl rfl rfl (by simp [go_sem, markE_add, mvCore, nvCore, mvHart, nvHart]) rfl ?_)
          simp [go_sem, ty3, markE_add, mvCore, nvCore, mvHart, nvHart]
          first | refine h235 _ ?_ | refine ⟨by omega, h235 _ ?_⟩ | refine ⟨by omega, by omega, h235 _ ?_⟩ | (repeat (refine ⟨by first | omega | grind, ?_⟩)); refine h235 _ ?_
          clear h235 K235
          refine W_seqK fun K236 h236 => ?_
          refine W_reg ?_
          simp [go_sem, ty3, markE_add, mvCore, nvCore, mvHart, nvHart]
          first | refine h236 _ ?_ | refine ⟨by omega, h236 _ ?_⟩ | refine ⟨by omega, by omega, h236 _ ?_⟩ | (repeat (refine ⟨by first | omega | grind, ?_⟩)); refine h236 _ ?_
          clear h236 K236
          refine W_ret ?_
          simp [go_sem]
          refine ⟨_, _, ⟨rfl, rfl⟩, ?_⟩
          simp [go_sem, ty3, markE_add, mvCore, nvCore, mvHart, nvHart]
          first | refine h233 _ ?_ | refine ⟨by omega, h233 _ ?_⟩ | refine ⟨by omega, by omega, h233 _ ?_⟩ | (repeat (refine ⟨by first | omega | grind, ?_⟩)); refine h233 _ ?_
          clear h233 K233
          refine W_seqK fun K237 h237 => ?_
          refine W_reg ?_
          simp [go_sem, ty3, ty28, ty33, ty83, markE_add, mvCore, nvCore, mvHart, nvHart]
          refine callG_true (by simp) (CallW_mut (mc_laws_markBlockS ((coreHear c m).cache) (markE 1 ((((coreHear c m).hart).regs).length)) (by first | assumption | omega) (by first | assumption | omega)) rfl rfl rfl (by simp [go_sem, markE_add, mvCore, nvCore, mvHart, nvHart]) rfl ?_)
          simp [go_sem, ty3, markE_add, mvCore, nvCore, mvHart, nvHart]
          first | refine h237 _ ?_ | refine ⟨by omega, h237 _ ?_⟩ | refine ⟨by omega, by omega, h237 _ ?_⟩ | (repeat (refine ⟨by first | omega | grind, ?_⟩)); refine h237 _ ?_
          clear h237 K237
          refine W_seqK fun K238 h238 => ?_
          refine W_reg ?_
          simp [go_sem, ty3, markE_add, mvCore, nvCore, mvHart, nvHart]
          first | refine h238 _ ?_ | refine ⟨by omega, h238 _ ?_⟩ | refine ⟨by omega, by omega, h238 _ ?_⟩ | (repeat (refine ⟨by first | omega | grind, ?_⟩)); refine h238 _ ?_
          clear h238 K238
          refine W_ret ?_
          simp [go_sem]
          refine ⟨_, _, ⟨rfl, rfl⟩, ?_⟩
          simp [go_sem, ty3, markE_add, mvCore, nvCore, mvHart, nvHart]
          first | refine h231 _ ?_ | refine ⟨by omega, h231 _ ?_⟩ | refine ⟨by omega, by omega, h231 _ ?_⟩ | (repeat (refine ⟨by first | omega | grind, ?_⟩)); refine h231 _ ?_
          clear h231 K231
          refine W_seqK fun K239 h239 => ?_
          refine W_reg ?_
          simp [go_sem, ty3, markE_add, mvCore, nvCore, mvHart, nvHart]
          first | refine h239 _ ?_ | refine ⟨by omega, h239 _ ?_⟩ | refine ⟨by omega, by omega, h239 _ ?_⟩ | (repeat (refine ⟨by first | omega | grind, ?_⟩)); refine h239 _ ?_
          clear h239 K239
          refine W_seqK fun K240 h240 => ?_
          refine W_reg ?_
          simp [go_sem, ty3, ty83, markE_add, mvCore, nvCore, mvHart, nvHart]
          refine callG_pc (fun hG => pc_laws_heldCore (coreHear c m) 1 (by first | assumption | omega) (fun m hm => by (try simp only [nvMsg, nvSender, nvPacket, nvFrame, nvHome, nvNode, nvWorld, nvHart, nvBlock, nvCore, nvFlock] at hm); first | exact hp m (by omega) | (rw [markE_add]; exact hp _ (by omega)) | exact markE_nn m (by omega) | (rw [markE_add]; exact markE_nn _ (by omega)))) (by first | (simp; done) | (simp [inR_iff]; done) | (simp [inR_iff]; grind) | grind) (fun hG => by simp [go_sem, markE_add, mvCore, nvCore, mvHart, nvHart]) rfl rfl (by first | exact Or.inl rfl | exact Or.inr rfl) ?_
          simp [go_sem, ty3, markE_add, mvCore, nvCore, mvHart, nvHart]
          first | refine h240 _ ?_ | refine ⟨by omega, h240 _ ?_⟩ | refine ⟨by omega, by omega, h240 _ ?_⟩ | (repeat (refine ⟨by first | omega | grind, ?_⟩)); refine h240 _ ?_
          clear h240 K240
          refine W_seqK fun K241 h241 => ?_
          refine W_seqK fun K242 h242 => ?_
          refine W_reg ?_
          simp [go_sem, ty3, ty4, markE_add, mvCore, nvCore, mvHart, nvHart]
          first | refine h242 _ ?_ | refine ⟨by omega, h242 _ ?_⟩ | refine ⟨by omega, by omega, h242 _ ?_⟩ | (repeat (refine ⟨by first | omega | grind, ?_⟩)); refine h242 _ ?_
          clear h242 K242
          refine W_cond rfl (fun hb243 => by first | (simp at hb243; done) | (simp at hb243; omega) | (simp at hb243; exact absurd hb243 (Int.not_lt.2 (markE_nn _ (by omega))))) fun hb243 => ?_
          clear hb243
          refine W_skip ?_
          first | refine h241 _ ?_ | refine ⟨by omega, h241 _ ?_⟩ | refine ⟨by omega, by omega, h241 _ ?_⟩ | (repeat (refine ⟨by first | omega | grind, ?_⟩)); refine h241 _ ?_
          clear h241 K241
          refine W_seqK fun K244 h244 => ?_
          refine W_seqK fun K245 h245 => ?_
          refine W_reg ?_
          simp [go_sem, ty3, ty4, markE_add, mvCore, nvCore, mvHart, nvHart]
          first | refine h245 _ ?_ | refine ⟨by omega, h245 _ ?_⟩ | refine ⟨by omega, by omega, h245 _ ?_⟩ | (repeat (refine ⟨by first | omega | grind, ?_⟩)); refine h245 _ ?_
          clear h245 K245
          refine W_cond rfl (fun hb246 => by first | (simp at hb246; done) | (simp at hb246; omega) | (simp at hb246; exact absurd hb246 (Int.not_lt.2 (markE_nn _ (by omega))))) fun hb246 => ?_
          clear hb246
          refine W_skip ?_
          first | refine h244 _ ?_ | refine ⟨by omega, h244 _ ?_⟩ | refine ⟨by omega, by omega, h244 _ ?_⟩ | (repeat (refine ⟨by first | omega | grind, ?_⟩)); refine h244 _ ?_
          clear h244 K244
          refine W_seqK fun K247 h247 => ?_
          refine W_drawS true (.op 0 (.op 2 (.fork 1 (.fork 3 (.fork 4 (.op 5 (.op 6 .nil)) 5 (.op 4 (.op 6 .nil))) 5 (.op 3 (.op 4 (.op 6 .nil)))) 5 (.op 1 (.op 3 (.op 4 (.op 6 .nil))))))) mixed (by decide +kernel) rfl ?_
          simp [go_sem, ty77, ty79, markE_add, mvCore, nvCore, mvHart, nvHart]
          refine ⟨?_, ?_⟩
          · try simp [go_sem, ty77, ty83, markE_add, mvCore, nvCore, mvHart, nvHart]
            refine callG_pc (fun hG => pc_laws_toCore c (by first | assumption | omega)) (by first | (simp; done) | (simp [inR_iff]; done) | (simp [inR_iff]; grind) | grind) (fun hG => by simp [go_sem, markE_add, mvCore, nvCore, mvHart, nvHart]) rfl rfl (by first | exact Or.inl rfl | exact Or.inr rfl) ?_
            simp [go_sem, markE_add, mvCore, nvCore, mvHart, nvHart]
            refine ⟨?_, ?_⟩
            · try simp [go_sem, ty79, ty86, markE_add, mvCore, nvCore, mvHart, nvHart]
              refine callG_pc (fun hG => pc_laws_toMsg m (by first | assumption | omega)) (by first | (simp; done) | (simp [inR_iff]; done) | (simp [inR_iff]; grind) | grind) (fun hG => by simp [go_sem, markE_add, mvCore, nvCore, mvHart, nvHart]) rfl rfl (by first | exact Or.inl rfl | exact Or.inr rfl) ?_
              simp [go_sem, markE_add, mvCore, nvCore, mvHart, nvHart]
              refine ⟨?_, ?_⟩
              · try simp [go_sem, ty83, ty86, markE_add, mvCore, nvCore, mvHart, nvHart]
                refine callG_pc (fun hG => pc_impl_CoreHear c m (by first | assumption | omega)) (by first | (simp; done) | (simp [inR_iff]; done) | (simp [inR_iff]; grind) | grind) (fun hG => by simp [go_sem, markE_add, mvCore, nvCore, mvHart, nvHart]) rfl rfl (by first | exact Or.inl rfl | exact Or.inr rfl) ?_
                simp [go_sem, ty83, markE_add, mvCore, nvCore, mvHart, nvHart]
                first | refine h247 _ ?_ | refine ⟨by omega, h247 _ ?_⟩ | refine ⟨by omega, by omega, h247 _ ?_⟩ | (repeat (refine ⟨by first | omega | grind, ?_⟩)); refine h247 _ ?_
                clear h247 K247
                refine W_seqK fun K248 h248 => ?_
                refine W_seqK fun K249 h249 => ?_
                refine W_reg ?_
                simp [go_sem, ty4, ty83, markE_add, mvCore, nvCore, mvHart, nvHart]
                refine callG_pc (fun hG => pc_laws_eqCore (coreHear c m) (coreHear c m) (by first | assumption | omega)) (by first | (simp; done) | (simp [inR_iff]; done) | (simp [inR_iff]; grind) | grind) (fun hG => by simp [go_sem, markE_add, mvCore, nvCore, mvHart, nvHart]) rfl rfl (by first | exact Or.inl rfl | exact Or.inr rfl) ?_
                simp [go_sem, ty4, markE_add, mvCore, nvCore, mvHart, nvHart]
                first | refine h249 _ ?_ | refine ⟨by omega, h249 _ ?_⟩ | refine ⟨by omega, by omega, h249 _ ?_⟩ | (repeat (refine ⟨by first | omega | grind, ?_⟩)); refine h249 _ ?_
                clear h249 K249
                refine W_cond rfl (fun hb250 => by first | (simp at hb250; done) | (simp at hb250; omega) | (simp at hb250; exact absurd hb250 (Int.not_lt.2 (markE_nn _ (by omega))))) fun hb250 => ?_
                clear hb250
                refine W_skip ?_
                first | refine h248 _ ?_ | refine ⟨by omega, h248 _ ?_⟩ | refine ⟨by omega, by omega, h248 _ ?_⟩ | (repeat (refine ⟨by first | omega | grind, ?_⟩)); refine h248 _ ?_
                clear h248 K248
                refine W_seqK fun K251 h251 => ?_
                refine W_reg ?_
                simp [go_sem, ty3, markE_add, mvCore, nvCore, mvHart, nvHart]
                first | refine h251 _ ?_ | refine ⟨by omega, h251 _ ?_⟩ | refine ⟨by omega, by omega, h251 _ ?_⟩ | (repeat (refine ⟨by first | omega | grind, ?_⟩)); refine h251 _ ?_
                clear h251 K251
                refine W_seqK fun K252 h252 => ?_
                refine W_reg ?_
                simp [go_sem, ty3, ty83, markE_add, mvCore, nvCore, mvHart, nvHart]
                refine callG_pc (fun hG => pc_laws_heldCore (coreHear c m) 1 (by first | assumption | omega) (fun m hm => by (try simp only [nvMsg, nvSender, nvPacket, nvFrame, nvHome, nvNode, nvWorld, nvHart, nvBlock, nvCore, nvFlock] at hm); first | exact hp m (by omega) | (rw [markE_add]; exact hp _ (by omega)) | exact markE_nn m (by omega) | (rw [markE_add]; exact markE_nn _ (by omega)))) (by first | (simp; done) | (simp [inR_iff]; done) | (simp [inR_iff]; grind) | grind) (fun hG => by simp [go_sem, markE_add, mvCore, nvCore, mvHart, nvHart]) rfl rfl (by first | exact Or.inl rfl | exact Or.inr rfl) ?_
                simp [go_sem, ty3, markE_add, mvCore, nvCore, mvHart, nvHart]
                first | refine h252 _ ?_ | refine ⟨by omega, h252 _ ?_⟩ | refine ⟨by omega, by omega, h252 _ ?_⟩ | (repeat (refine ⟨by first | omega | grind, ?_⟩)); refine h252 _ ?_
                clear h252 K252
                refine W_seqK fun K253 h253 => ?_
                refine W_seqK fun K254 h254 => ?_
                refine W_reg ?_
                simp [go_sem, ty3, ty4, markE_add, mvCore, nvCore, mvHart, nvHart]
                first | refine h254 _ ?_ | refine ⟨by omega, h254 _ ?_⟩ | refine ⟨by omega, by omega, h254 _ ?_⟩ | (repeat (refine ⟨by first | omega | grind, ?_⟩)); refine h254 _ ?_
                clear h254 K254
                refine W_cond rfl (fun hb255 => by first | (simp at hb255; done) | (simp at hb255; omega) | (simp at hb255; exact absurd hb255 (Int.not_lt.2 (markE_nn _ (by omega))))) fun hb255 => ?_
                clear hb255
                refine W_skip ?_
                first | refine h253 _ ?_ | refine ⟨by omega, h253 _ ?_⟩ | refine ⟨by omega, by omega, h253 _ ?_⟩ | (repeat (refine ⟨by first | omega | grind, ?_⟩)); refine h253 _ ?_
                clear h253 K253
                refine W_seqK fun K256 h256 => ?_
                refine W_seqK fun K257 h257 => ?_
                refine W_reg ?_
                simp [go_sem, ty3, ty4, markE_add, mvCore, nvCore, mvHart, nvHart]
                first | refine h257 _ ?_ | refine ⟨by omega, h257 _ ?_⟩ | refine ⟨by omega, by omega, h257 _ ?_⟩ | (repeat (refine ⟨by first | omega | grind, ?_⟩)); refine h257 _ ?_
                clear h257 K257
                refine W_cond rfl (fun hb258 => by first | (simp at hb258; done) | (simp at hb258; omega) | (simp at hb258; exact absurd hb258 (Int.not_lt.2 (markE_nn _ (by omega))))) fun hb258 => ?_
                clear hb258
                refine W_skip ?_
                first | refine h256 _ ?_ | refine ⟨by omega, h256 _ ?_⟩ | refine ⟨by omega, by omega, h256 _ ?_⟩ | (repeat (refine ⟨by first | omega | grind, ?_⟩)); refine h256 _ ?_
                clear h256 K256
                refine W_seqK fun K259 h259 => ?_
                refine W_reg ?_
                simp [go_sem, ty4, markE_add, mvCore, nvCore, mvHart, nvHart]
                first | refine h259 _ ?_ | refine ⟨by omega, h259 _ ?_⟩ | refine ⟨by omega, by omega, h259 _ ?_⟩ | (repeat (refine ⟨by first | omega | grind, ?_⟩)); refine h259 _ ?_
                clear h259 K259
                refine W_ret ?_
                simp [go_sem]
              · try simp [go_sem, ty83, ty86, markE_add, mvCore, nvCore, mvHart, nvHart]
                refine callG_pc (fun hG => pc_impl_CoreHear c m (by first | assumption | omega)) (by first | (simp; done) | (simp [inR_iff]; done) | (simp [inR_iff]; grind) | grind) (fun hG => by simp [go_sem, markE_add, mvCore, nvCore, mvHart, nvHart]) rfl rfl (by first | exact Or.inl rfl | exact Or.inr rfl) ?_
                simp [go_sem, ty83, markE_add, mvCore, nvCore, mvHart, nvHart]
                first | refine h247 _ ?_ | refine ⟨by omega, h247 _ ?_⟩ | refine ⟨by omega, by omega, h247 _ ?_⟩ | (repeat (refine ⟨by first | omega | grind, ?_⟩)); refine h247 _ ?_
                clear h247 K247
                refine W_seqK fun K260 h260 => ?_
                refine W_seqK fun K261 h261 => ?_
                refine W_reg ?_
                simp [go_sem, ty4, ty83, markE_add, mvCore, nvCore, mvHart, nvHart]
                refine callG_pc (fun hG => pc_laws_eqCore (coreHear c m) (coreHear c m) (by first | assumption | omega)) (by first | (simp; done) | (simp [inR_iff]; done) | (simp [inR_iff]; grind) | grind) (fun hG => by simp [go_sem, markE_add, mvCore, nvCore, mvHart, nvHart]) rfl rfl (by first | exact Or.inl rfl | exact Or.inr rfl) ?_
                simp [go_sem, ty4, markE_add, mvCore, nvCore, mvHart, nvHart]
                first | refine h261 _ ?_ | refine ⟨by omega, h261 _ ?_⟩ | refine ⟨by omega, by omega, h261 _ ?_⟩ | (repeat (refine ⟨by first | omega | grind, ?_⟩)); refine h261 _ ?_
                clear h261 K261
                refine W_cond rfl (fun hb262 => by first | (simp at hb262; done) | (simp at hb262; omega) | (simp at hb262; exact absurd hb262 (Int.not_lt.2 (markE_nn _ (by omega))))) fun hb262 => ?_
                clear hb262
                refine W_skip ?_
                first | refine h260 _ ?_ | refine ⟨by omega, h260 _ ?_⟩ | refine ⟨by omega, by omega, h260 _ ?_⟩ | (repeat (refine ⟨by first | omega | grind, ?_⟩)); refine h260 _ ?_
                clear h260 K260
                refine W_seqK fun K263 h263 => ?_
                refine W_reg ?_
                simp [go_sem, ty3, markE_add, mvCore, nvCore, mvHart, nvHart]
                first | refine h263 _ ?_ | refine ⟨by omega, h263 _ ?_⟩ | refine ⟨by omega, by omega, h263 _ ?_⟩ | (repeat (refine ⟨by first | omega | grind, ?_⟩)); refine h263 _ ?_
                clear h263 K263
                refine W_seqK fun K264 h264 => ?_
                refine W_reg ?_
                simp [go_sem, ty3, ty83, markE_add, mvCore, nvCore, mvHart, nvHart]
                refine callG_pc (fun hG => pc_laws_heldCore (coreHear c m) 1 (by first | assumption | omega) (fun m hm => by (try simp only [nvMsg, nvSender, nvPacket, nvFrame, nvHome, nvNode, nvWorld, nvHart, nvBlock, nvCore, nvFlock] at hm); first | exact hp m (by omega) | (rw [markE_add]; exact hp _ (by omega)) | exact markE_nn m (by omega) | (rw [markE_add]; exact markE_nn _ (by omega)))) (by first | (simp; done) | (simp [inR_iff]; done) | (simp [inR_iff]; grind) | grind) (fun hG => by simp [go_sem, markE_add, mvCore, nvCore, mvHart, nvHart]) rfl rfl (by first | exact Or.inl rfl | exact Or.inr rfl) ?_
                simp [go_sem, ty3, markE_add, mvCore, nvCore, mvHart, nvHart]
                first | refine h264 _ ?_ | refine ⟨by omega, h264 _ ?_⟩ | refine ⟨by omega, by omega, h264 _ ?_⟩ | (repeat (refine ⟨by first | omega | grind, ?_⟩)); refine h264 _ ?_
                clear h264 K264
                refine W_seqK fun K265 h265 => ?_
                refine W_seqK fun K266 h266 => ?_
                refine W_reg ?_
                simp [go_sem, ty3, ty4, markE_add, mvCore, nvCore, mvHart, nvHart]
                first | refine h266 _ ?_ | refine ⟨by omega, h266 _ ?_⟩ | refine ⟨by omega, by omega, h266 _ ?_⟩ | (repeat (refine ⟨by first | omega | grind, ?_⟩)); refine h266 _ ?_
                clear h266 K266
                refine W_cond rfl (fun hb267 => by first | (simp at hb267; done) | (simp at hb267; omega) | (simp at hb267; exact absurd hb267 (Int.not_lt.2 (markE_nn _ (by omega))))) fun hb267 => ?_
                clear hb267
                refine W_skip ?_
                first | refine h265 _ ?_ | refine ⟨by omega, h265 _ ?_⟩ | refine ⟨by omega, by omega, h265 _ ?_⟩ | (repeat (refine ⟨by first | omega | grind, ?_⟩)); refine h265 _ ?_
                clear h265 K265
                refine W_seqK fun K268 h268 => ?_
                refine W_seqK fun K269 h269 => ?_
                refine W_reg ?_
                simp [go_sem, ty3, ty4, markE_add, mvCore, nvCore, mvHart, nvHart]
                first | refine h269 _ ?_ | refine ⟨by omega, h269 _ ?_⟩ | refine ⟨by omega, by omega, h269 _ ?_⟩ | (repeat (refine ⟨by first | omega | grind, ?_⟩)); refine h269 _ ?_
                clear h269 K269
                refine W_cond rfl (fun hb270 => by first | (simp at hb270; done) | (simp at hb270; omega) | (simp at hb270; exact absurd hb270 (Int.not_lt.2 (markE_nn _ (by omega))))) fun hb270 => ?_
                clear hb270
                refine W_skip ?_
                first | refine h268 _ ?_ | refine ⟨by omega, h268 _ ?_⟩ | refine ⟨by omega, by omega, h268 _ ?_⟩ | (repeat (refine ⟨by first | omega | grind, ?_⟩)); refine h268 _ ?_
                clear h268 K268
                refine W_seqK fun K271 h271 => ?_
                refine W_reg ?_
                simp [go_sem, ty4, markE_add, mvCore, nvCore, mvHart, nvHart]
                first | refine h271 _ ?_ | refine ⟨by omega, h271 _ ?_⟩ | refine ⟨by omega, by omega, h271 _ ?_⟩ | (repeat (refine ⟨by first | omega | grind, ?_⟩)); refine h271 _ ?_
                clear h271 K271
                refine W_ret ?_
                simp [go_sem]
            · try simp [go_sem, ty79, ty83, ty86, markE_add, mvCore, nvCore, mvHart, nvHart]
              refine callG_pc (fun hG => pc_laws_toMsg m (by first | assumption | omega)) (by first | (simp; done) | (simp [inR_iff]; done) | (simp [inR_iff]; grind) | grind) (fun hG => by simp [go_sem, markE_add, mvCore, nvCore, mvHart, nvHart]) rfl rfl (by first | exact Or.inl rfl | exact Or.inr rfl) ?_
              simp [go_sem, ty83, ty86, markE_add, mvCore, nvCore, mvHart, nvHart]
              refine callG_pc (fun hG => pc_impl_CoreHear c m (by first | assumption | omega)) (by first | (simp; done) | (simp [inR_iff]; done) | (simp [inR_iff]; grind) | grind) (fun hG => by simp [go_sem, markE_add, mvCore, nvCore, mvHart, nvHart]) rfl rfl (by first | exact Or.inl rfl | exact Or.inr rfl) ?_
              simp [go_sem, ty83, markE_add, mvCore, nvCore, mvHart, nvHart]
              first | refine h247 _ ?_ | refine ⟨by omega, h247 _ ?_⟩ | refine ⟨by omega, by omega, h247 _ ?_⟩ | (repeat (refine ⟨by first | omega | grind, ?_⟩)); refine h247 _ ?_
              clear h247 K247
              refine W_seqK fun K272 h272 => ?_
              refine W_seqK fun K273 h273 => ?_
              refine W_reg ?_
              simp [go_sem, ty4, ty83, markE_add, mvCore, nvCore, mvHart, nvHart]
              refine callG_pc (fun hG => pc_laws_eqCore (coreHear c m) (coreHear c m) (by first | assumption | omega)) (by first | (simp; done) | (simp [inR_iff]; done) | (simp [inR_iff]; grind) | grind) (fun hG => by simp [go_sem, markE_add, mvCore, nvCore, mvHart, nvHart]) rfl rfl (by first | exact Or.inl rfl | exact Or.inr rfl) ?_
              simp [go_sem, ty4, markE_add, mvCore, nvCore, mvHart, nvHart]
              first | refine h273 _ ?_ | refine ⟨by omega, h273 _ ?_⟩ | refine ⟨by omega, by omega, h273 _ ?_⟩ | (repeat (refine ⟨by first | omega | grind, ?_⟩)); refine h273 _ ?_
              clear h273 K273
              refine W_cond rfl (fun hb274 => by first | (simp at hb274; done) | (simp at hb274; omega) | (simp at hb274; exact absurd hb274 (Int.not_lt.2 (markE_nn _ (by omega))))) fun hb274 => ?_
              clear hb274
              refine W_skip ?_
              first | refine h272 _ ?_ | refine ⟨by omega, h272 _ ?_⟩ | refine ⟨by omega, by omega, h272 _ ?_⟩ | (repeat (refine ⟨by first | omega | grind, ?_⟩)); refine h272 _ ?_
              clear h272 K272
              refine W_seqK fun K275 h275 => ?_
              refine W_reg ?_
              simp [go_sem, ty3, markE_add, mvCore, nvCore, mvHart, nvHart]
              first | refine h275 _ ?_ | refine ⟨by omega, h275 _ ?_⟩ | refine ⟨by omega, by omega, h275 _ ?_⟩ | (repeat (refine ⟨by first | omega | grind, ?_⟩)); refine h275 _ ?_
              clear h275 K275
              refine W_seqK fun K276 h276 => ?_
              refine W_reg ?_
              simp [go_sem, ty3, ty83, markE_add, mvCore, nvCore, mvHart, nvHart]
              refine callG_pc (fun hG => pc_laws_heldCore (coreHear c m) 1 (by first | assumption | omega) (fun m hm => by (try simp only [nvMsg, nvSender, nvPacket, nvFrame, nvHome, nvNode, nvWorld, nvHart, nvBlock, nvCore, nvFlock] at hm); first | exact hp m (by omega) | (rw [markE_add]; exact hp _ (by omega)) | exact markE_nn m (by omega) | (rw [markE_add]; exact markE_nn _ (by omega)))) (by first | (simp; done) | (simp [inR_iff]; done) | (simp [inR_iff]; grind) | grind) (fun hG => by simp [go_sem, markE_add, mvCore, nvCore, mvHart, nvHart]) rfl rfl (by first | exact Or.inl rfl | exact Or.inr rfl) ?_
              simp [go_sem, ty3, markE_add, mvCore, nvCore, mvHart, nvHart]
              first | refine h276 _ ?_ | refine ⟨by omega, h276 _ ?_⟩ | refine ⟨by omega, by omega, h276 _ ?_⟩ | (repeat (refine ⟨by first | omega | grind, ?_⟩)); refine h276 _ ?_
              clear h276 K276
              refine W_seqK fun K277 h277 => ?_
              refine W_seqK fun K278 h278 => ?_
              refine W_reg ?_
              simp [go_sem, ty3, ty4, markE_add, mvCore, nvCore, mvHart, nvHart]
              first | refine h278 _ ?_ | refine ⟨by omega, h278 _ ?_⟩ | refine ⟨by omega, by omega, h278 _ ?_⟩ | (repeat (refine ⟨by first | omega | grind, ?_⟩)); refine h278 _ ?_
              clear h278 K278
              refine W_cond rfl (fun hb279 => by first | (simp at hb279; done) | (simp at hb279; omega) | (simp at hb279; exact absurd hb279 (Int.not_lt.2 (markE_nn _ (by omega))))) fun hb279 => ?_
              clear hb279
              refine W_skip ?_
              first | refine h277 _ ?_ | refine ⟨by omega, h277 _ ?_⟩ | refine ⟨by omega, by omega, h277 _ ?_⟩ | (repeat (refine ⟨by first | omega | grind, ?_⟩)); refine h277 _ ?_
              clear h277 K277
              refine W_seqK fun K280 h280 => ?_
              refine W_seqK fun K281 h281 => ?_
              refine W_reg ?_
              simp [go_sem, ty3, ty4, markE_add, mvCore, nvCore, mvHart, nvHart]
              first | refine h281 _ ?_ | refine ⟨by omega, h281 _ ?_⟩ | refine ⟨by omega, by omega, h281 _ ?_⟩ | (repeat (refine ⟨by first | omega | grind, ?_⟩)); refine h281 _ ?_
              clear h281 K281
              refine W_cond rfl (fun hb282 => by first | (simp at hb282; done) | (simp at hb282; omega) | (simp at hb282; exact absurd hb282 (Int.not_lt.2 (markE_nn _ (by omega))))) fun hb282 => ?_
              clear hb282
              refine W_skip ?_
              first | refine h280 _ ?_ | refine ⟨by omega, h280 _ ?_⟩ | refine ⟨by omega, by omega, h280 _ ?_⟩ | (repeat (refine ⟨by first | omega | grind, ?_⟩)); refine h280 _ ?_
              clear h280 K280
              refine W_seqK fun K283 h283 => ?_
              refine W_reg ?_
              simp [go_sem, ty4, markE_add, mvCore, nvCore, mvHart, nvHart]
              first | refine h283 _ ?_ | refine ⟨by omega, h283 _ ?_⟩ | refine ⟨by omega, by omega, h283 _ ?_⟩ | (repeat (refine ⟨by first | omega | grind, ?_⟩)); refine h283 _ ?_
              clear h283 K283
              refine W_ret ?_
              simp [go_sem]
          · try simp [go_sem, ty77, ty83, markE_add, mvCore, nvCore, mvHart, nvHart]
            refine callG_pc (fun hG => pc_laws_toCore c (by first | assumption | omega)) (by first | (simp; done) | (simp [inR_iff]; done) | (simp [inR_iff]; grind) | grind) (fun hG => by simp [go_sem, markE_add, mvCore, nvCore, mvHart, nvHart]) rfl rfl (by first | exact Or.inl rfl | exact Or.inr rfl) ?_
            simp [go_sem, ty79, ty86, markE_add, mvCore, nvCore, mvHart, nvHart]
            refine callG_pc (fun hG => pc_laws_toMsg m (by first | assumption | omega)) (by first | (simp; done) | (simp [inR_iff]; done) | (simp [inR_iff]; grind) | grind) (fun hG => by simp [go_sem, markE_add, mvCore, nvCore, mvHart, nvHart]) rfl rfl (by first | exact Or.inl rfl | exact Or.inr rfl) ?_
            simp [go_sem, ty83, ty86, markE_add, mvCore, nvCore, mvHart, nvHart]
            refine callG_pc (fun hG => pc_impl_CoreHear c m (by first | assumption | omega)) (by first | (simp; done) | (simp [inR_iff]; done) | (simp [inR_iff]; grind) | grind) (fun hG => by simp [go_sem, markE_add, mvCore, nvCore, mvHart, nvHart]) rfl rfl (by first | exact Or.inl rfl | exact Or.inr rfl) ?_
            simp [go_sem, ty83, markE_add, mvCore, nvCore, mvHart, nvHart]
            first | refine h247 _ ?_ | refine ⟨by omega, h247 _ ?_⟩ | refine ⟨by omega, by omega, h247 _ ?_⟩ | (repeat (refine ⟨by first | omega | grind, ?_⟩)); refine h247 _ ?_
            clear h247 K247
            refine W_seqK fun K284 h284 => ?_
            refine W_seqK fun K285 h285 => ?_
            refine W_reg ?_
            simp [go_sem, ty4, ty83, markE_add, mvCore, nvCore, mvHart, nvHart]
            refine callG_pc (fun hG => pc_laws_eqCore (coreHear c m) (coreHear c m) (by first | assumption | omega)) (by first | (simp; done) | (simp [inR_iff]; done) | (simp [inR_iff]; grind) | grind) (fun hG => by simp [go_sem, markE_add, mvCore, nvCore, mvHart, nvHart]) rfl rfl (by first | exact Or.inl rfl | exact Or.inr rfl) ?_
            simp [go_sem, ty4, markE_add, mvCore, nvCore, mvHart, nvHart]
            first | refine h285 _ ?_ | refine ⟨by omega, h285 _ ?_⟩ | refine ⟨by omega, by omega, h285 _ ?_⟩ | (repeat (refine ⟨by first | omega | grind, ?_⟩)); refine h285 _ ?_
            clear h285 K285
            refine W_cond rfl (fun hb286 => by first | (simp at hb286; done) | (simp at hb286; omega) | (simp at hb286; exact absurd hb286 (Int.not_lt.2 (markE_nn _ (by omega))))) fun hb286 => ?_
            clear hb286
            refine W_skip ?_
            first | refine h284 _ ?_ | refine ⟨by omega, h284 _ ?_⟩ | refine ⟨by omega, by omega, h284 _ ?_⟩ | (repeat (refine ⟨by first | omega | grind, ?_⟩)); refine h284 _ ?_
            clear h284 K284
            refine W_seqK fun K287 h287 => ?_
            refine W_reg ?_
            simp [go_sem, ty3, markE_add, mvCore, nvCore, mvHart, nvHart]
            first | refine h287 _ ?_ | refine ⟨by omega, h287 _ ?_⟩ | refine ⟨by omega, by omega, h287 _ ?_⟩ | (repeat (refine ⟨by first | omega | grind, ?_⟩)); refine h287 _ ?_
            clear h287 K287
            refine W_seqK fun K288 h288 => ?_
            refine W_reg ?_
            simp [go_sem, ty3, ty83, markE_add, mvCore, nvCore, mvHart, nvHart]
            refine callG_pc (fun hG => pc_laws_heldCore (coreHear c m) 1 (by first | assumption | omega) (fun m hm => by (try simp only [nvMsg, nvSender, nvPacket, nvFrame, nvHome, nvNode, nvWorld, nvHart, nvBlock, nvCore, nvFlock] at hm); first | exact hp m (by omega) | (rw [markE_add]; exact hp _ (by omega)) | exact markE_nn m (by omega) | (rw [markE_add]; exact markE_nn _ (by omega)))) (by first | (simp; done) | (simp [inR_iff]; done) | (simp [inR_iff]; grind) | grind) (fun hG => by simp [go_sem, markE_add, mvCore, nvCore, mvHart, nvHart]) rfl rfl (by first | exact Or.inl rfl | exact Or.inr rfl) ?_
            simp [go_sem, ty3, markE_add, mvCore, nvCore, mvHart, nvHart]
            first | refine h288 _ ?_ | refine ⟨by omega, h288 _ ?_⟩ | refine ⟨by omega, by omega, h288 _ ?_⟩ | (repeat (refine ⟨by first | omega | grind, ?_⟩)); refine h288 _ ?_
            clear h288 K288
            refine W_seqK fun K289 h289 => ?_
            refine W_seqK fun K290 h290 => ?_
            refine W_reg ?_
            simp [go_sem, ty3, ty4, markE_add, mvCore, nvCore, mvHart, nvHart]
            first | refine h290 _ ?_ | refine ⟨by omega, h290 _ ?_⟩ | refine ⟨by omega, by omega, h290 _ ?_⟩ | (repeat (refine ⟨by first | omega | grind, ?_⟩)); refine h290 _ ?_
            clear h290 K290
            refine W_cond rfl (fun hb291 => by first | (simp at hb291; done) | (simp at hb291; omega) | (simp at hb291; exact absurd hb291 (Int.not_lt.2 (markE_nn _ (by omega))))) fun hb291 => ?_
            clear hb291
            refine W_skip ?_
            first | refine h289 _ ?_ | refine ⟨by omega, h289 _ ?_⟩ | refine ⟨by omega, by omega, h289 _ ?_⟩ | (repeat (refine ⟨by first | omega | grind, ?_⟩)); refine h289 _ ?_
            clear h289 K289
            refine W_seqK fun K292 h292 => ?_
            refine W_seqK fun K293 h293 => ?_
            refine W_reg ?_
            simp [go_sem, ty3, ty4, markE_add, mvCore, nvCore, mvHart, nvHart]
            first | refine h293 _ ?_ | refine ⟨by omega, h293 _ ?_⟩ | refine ⟨by omega, by omega, h293 _ ?_⟩ | (repeat (refine ⟨by first | omega | grind, ?_⟩)); refine h293 _ ?_
            clear h293 K293
            refine W_cond rfl (fun hb294 => by first | (simp at hb294; done) | (simp at hb294; omega) | (simp at hb294; exact absurd hb294 (Int.not_lt.2 (markE_nn _ (by omega))))) fun hb294 => ?_
            clear hb294
            refine W_skip ?_
            first | refine h292 _ ?_ | refine ⟨by omega, h292 _ ?_⟩ | refine ⟨by omega, by omega, h292 _ ?_⟩ | (repeat (refine ⟨by first | omega | grind, ?_⟩)); refine h292 _ ?_
            clear h292 K292
            refine W_seqK fun K295 h295 => ?_
            refine W_reg ?_
            simp [go_sem, ty4, markE_add, mvCore, nvCore, mvHart, nvHart]
            first | refine h295 _ ?_ | refine ⟨by omega, h295 _ ?_⟩ | refine ⟨by omega, by omega, h295 _ ?_⟩ | (repeat (refine ⟨by first | omega | grind, ?_⟩)); refine h295 _ ?_
            clear h295 K295
            refine W_ret ?_
            simp [go_sem]
      · try simp [go_sem, ty77, ty83, markE_add, mvCore, nvCore, mvHart, nvHart]
        refine callG_pc (fun hG => pc_laws_toCore c (by first | assumption | omega)) (by first | (simp; done) | (simp [inR_iff]; done) | (simp [inR_iff]; grind) | grind) (fun hG => by simp [go_sem, markE_add, mvCore, nvCore, mvHart, nvHart]) rfl rfl (by first | exact Or.inl rfl | exact Or.inr rfl) ?_
        simp [go_sem, ty79, ty86, markE_add, mvCore, nvCore, mvHart, nvHart]
        refine callG_pc (fun hG => pc_laws_toMsg m (by first | assumption | omega)) (by first | (simp; done) | (simp [inR_iff]; done) | (simp [inR_iff]; grind) | grind) (fun hG => by simp [go_sem, markE_add, mvCore, nvCore, mvHart, nvHart]) rfl rfl (by first | exact Or.inl rfl | exact Or.inr rfl) ?_
        simp [go_sem, ty83, ty86, markE_add, mvCore, nvCore, mvHart, nvHart]
        refine callG_pc (fun hG => pc_spec_CoreHear c m (by first | assumption | omega)) (by first | (simp; done) | (simp [inR_iff]; done) | (simp [inR_iff]; grind) | grind) (fun hG => by simp [go_sem, markE_add, mvCore, nvCore, mvHart, nvHart]) rfl rfl (by first | exact Or.inl rfl | exact Or.inr rfl) ?_
        simp [go_sem, ty83, markE_add, mvCore, nvCore, mvHart, nvHart]
        first | refine h13 _ ?_ | refine ⟨by omega, h13 _ ?_⟩ | refine ⟨by omega, by omega, h13 _ ?_⟩ | (repeat (refine ⟨by first | omega | grind, ?_⟩)); refine h13 _ ?_
        clear h13 K13
        refine W_seqK fun K296 h296 => ?_
        refine W_reg ?_
        simp [go_sem, ty77, ty83, markE_add, mvCore, nvCore, mvHart, nvHart]
        refine callG_pc (fun hG => pc_laws_toCore c (by first | assumption | omega)) (by first | (simp; done) | (simp [inR_iff]; done) | (simp [inR_iff]; grind) | grind) (fun hG => by simp [go_sem, markE_add, mvCore, nvCore, mvHart, nvHart]) rfl rfl (by first | exact Or.inl rfl | exact Or.inr rfl) ?_
        simp [go_sem, ty83, markE_add, mvCore, nvCore, mvHart, nvHart]
        first | refine h296 _ ?_ | refine ⟨by omega, h296 _ ?_⟩ | refine ⟨by omega, by omega, h296 _ ?_⟩ | (repeat (refine ⟨by first | omega | grind, ?_⟩)); refine h296 _ ?_
        clear h296 K296
        refine W_seqK fun K297 h297 => ?_
        refine W_reg ?_
        simp [go_sem, ty79, ty86, markE_add, mvCore, nvCore, mvHart, nvHart]
        refine callG_pc (fun hG => pc_laws_toMsg m (by first | assumption | omega)) (by first | (simp; done) | (simp [inR_iff]; done) | (simp [inR_iff]; grind) | grind) (fun hG => by simp [go_sem, markE_add, mvCore, nvCore, mvHart, nvHart]) rfl rfl (by first | exact Or.inl rfl | exact Or.inr rfl) ?_
        simp [go_sem, ty86, markE_add, mvCore, nvCore, mvHart, nvHart]
        first | refine h297 _ ?_ | refine ⟨by omega, h297 _ ?_⟩ | refine ⟨by omega, by omega, h297 _ ?_⟩ | (repeat (refine ⟨by first | omega | grind, ?_⟩)); refine h297 _ ?_
        clear h297 K297
        refine W_seqK fun K298 h298 => ?_
        refine W_reg ?_
        simp [go_sem, ty83, ty86, markE_add, mvCore, nvCore, mvHart, nvHart]
        refine callG_pc (fun hG => pc_impl_CoreHear c m (by first | assumption | omega)) (by first | (simp; done) | (simp [inR_iff]; done) | (simp [inR_iff]; grind) | grind) (fun hG => by simp [go_sem, markE_add, mvCore, nvCore, mvHart, nvHart]) rfl rfl (by first | exact Or.inl rfl | exact Or.inr rfl) ?_
        simp [go_sem, ty83, markE_add, mvCore, nvCore, mvHart, nvHart]
        first | refine h298 _ ?_ | refine ⟨by omega, h298 _ ?_⟩ | refine ⟨by omega, by omega, h298 _ ?_⟩ | (repeat (refine ⟨by first | omega | grind, ?_⟩)); refine h298 _ ?_
        clear h298 K298
        refine W_seqK fun K299 h299 => ?_
        refine W_seqK fun K300 h300 => ?_
        refine W_reg ?_
        simp [go_sem, ty4, ty83, markE_add, mvCore, nvCore, mvHart, nvHart]
        refine callG_pc (fun hG => pc_laws_eqCore (coreHear c m) (coreHear c m) (by first | assumption | omega)) (by first | (simp; done) | (simp [inR_iff]; done) | (simp [inR_iff]; grind) | grind) (fun hG => by simp [go_sem, markE_add, mvCore, nvCore, mvHart, nvHart]) rfl rfl (by first | exact Or.inl rfl | exact Or.inr rfl) ?_
        simp [go_sem, ty4, markE_add, mvCore, nvCore, mvHart, nvHart]
        first | refine h300 _ ?_ | refine ⟨by omega, h300 _ ?_⟩ | refine ⟨by omega, by omega, h300 _ ?_⟩ | (repeat (refine ⟨by first | omega | grind, ?_⟩)); refine h300 _ ?_
        clear h300 K300
        refine W_cond rfl (fun hb301 => by first | (simp at hb301; done) | (simp at hb301; omega) | (simp at hb301; exact absurd hb301 (Int.not_lt.2 (markE_nn _ (by omega))))) fun hb301 => ?_
        clear hb301
        refine W_skip ?_
        first | refine h299 _ ?_ | refine ⟨by omega, h299 _ ?_⟩ | refine ⟨by omega, by omega, h299 _ ?_⟩ | (repeat (refine ⟨by first | omega | grind, ?_⟩)); refine h299 _ ?_
        clear h299 K299
        refine W_seqK fun K302 h302 => ?_
        refine W_seqK fun K303 h303 => ?_
        refine W_drawT true mixed (by decide +kernel) ?_
        simp [go_sem, ty77, ty83, markE_add, mvCore, nvCore, mvHart, nvHart]
        refine callG_pc (fun hG => pc_laws_toCore c (by first | assumption | omega)) (by first | (simp; done) | (simp [inR_iff]; done) | (simp [inR_iff]; grind) | grind) (fun hG => by simp [go_sem, markE_add, mvCore, nvCore, mvHart, nvHart]) rfl rfl (by first | exact Or.inl rfl | exact Or.inr rfl) ?_
        simp [go_sem, ty4, ty83, markE_add, mvCore, nvCore, mvHart, nvHart]
        refine callG_pc (fun hG => pc_laws_eqCore c c (by first | assumption | omega)) (by first | (simp; done) | (simp [inR_iff]; done) | (simp [inR_iff]; grind) | grind) (fun hG => by simp [go_sem, markE_add, mvCore, nvCore, mvHart, nvHart]) rfl rfl (by first | exact Or.inl rfl | exact Or.inr rfl) ?_
        simp [go_sem, ty4, markE_add, mvCore, nvCore, mvHart, nvHart]
        first | refine h303 _ ?_ | refine ⟨by omega, h303 _ ?_⟩ | refine ⟨by omega, by omega, h303 _ ?_⟩ | (repeat (refine ⟨by first | omega | grind, ?_⟩)); refine h303 _ ?_
        clear h303 K303
        refine W_cond rfl (fun hb304 => by first | (simp at hb304; done) | (simp at hb304; omega) | (simp at hb304; exact absurd hb304 (Int.not_lt.2 (markE_nn _ (by omega))))) fun hb304 => ?_
        clear hb304
        refine W_skip ?_
        first | refine h302 _ ?_ | refine ⟨by omega, h302 _ ?_⟩ | refine ⟨by omega, by omega, h302 _ ?_⟩ | (repeat (refine ⟨by first | omega | grind, ?_⟩)); refine h302 _ ?_
        clear h302 K302
        refine W_seqK fun K305 h305 => ?_
        refine W_seqK fun K306 h306 => ?_
        refine W_drawT true mixed (by decide +kernel) ?_
        simp [go_sem, ty79, ty86, markE_add, mvCore, nvCore, mvHart, nvHart]
        refine callG_pc (fun hG => pc_laws_toMsg m (by first | assumption | omega)) (by first | (simp; done) | (simp [inR_iff]; done) | (simp [inR_iff]; grind) | grind) (fun hG => by simp [go_sem, markE_add, mvCore, nvCore, mvHart, nvHart]) rfl rfl (by first | exact Or.inl rfl | exact Or.inr rfl) ?_
        simp [go_sem, ty4, ty86, markE_add, mvCore, nvCore, mvHart, nvHart]
        refine callG_pc (fun hG => pc_laws_eqMsg m m (by first | assumption | omega)) (by first | (simp; done) | (simp [inR_iff]; done) | (simp [inR_iff]; grind) | grind) (fun hG => by simp [go_sem, markE_add, mvCore, nvCore, mvHart, nvHart]) rfl rfl (by first | exact Or.inl rfl | exact Or.inr rfl) ?_
        simp [go_sem, ty4, markE_add, mvCore, nvCore, mvHart, nvHart]
        first | refine h306 _ ?_ | refine ⟨by omega, h306 _ ?_⟩ | refine ⟨by omega, by omega, h306 _ ?_⟩ | (repeat (refine ⟨by first | omega | grind, ?_⟩)); refine h306 _ ?_
        clear h306 K306
        refine W_cond rfl (fun hb307 => by first | (simp at hb307; done) | (simp at hb307; omega) | (simp at hb307; exact absurd hb307 (Int.not_lt.2 (markE_nn _ (by omega))))) fun hb307 => ?_
        clear hb307
        refine W_skip ?_
        first | refine h305 _ ?_ | refine ⟨by omega, h305 _ ?_⟩ | refine ⟨by omega, by omega, h305 _ ?_⟩ | (repeat (refine ⟨by first | omega | grind, ?_⟩)); refine h305 _ ?_
        clear h305 K305
        refine W_seqK fun K308 h308 => ?_
        refine W_reg ?_
        simp [go_sem, ty3, markE_add, mvCore, nvCore, mvHart, nvHart]
        first | refine h308 _ ?_ | refine ⟨by omega, h308 _ ?_⟩ | refine ⟨by omega, by omega, h308 _ ?_⟩ | (repeat (refine ⟨by first | omega | grind, ?_⟩)); refine h308 _ ?_
        clear h308 K308
        refine W_seqK fun K309 h309 => ?_
        refine W_reg ?_
        simp [go_sem, ty3, ty83, markE_add, mvCore, nvCore, mvHart, nvHart]
        refine callG_true (by simp) ((CallW_inline (n := 14) Try.func55 rfl rfl rfl rfl (by simp) fun a_ => ?_))
        refine W_seqK fun K310 h310 => ?_
        refine W_reg ?_
        simp [go_sem, ty3, ty83, markE_add, mvCore, nvCore, mvHart, nvHart]
        first | refine h310 _ ?_ | refine ⟨by omega, h310 _ ?_⟩ | refine ⟨by omega, by omega, h310 _ ?_⟩ | (repeat (refine ⟨by first | omega | grind, ?_⟩)); refine h310 _ ?_
        clear h310 K310
        refine W_seqK fun K311 h311 => ?_
        refine W_reg ?_
        simp [go_sem, ty3, ty51, ty83, markE_add, mvCore, nvCore, mvHart, nvHart]
        refine callG_true (by simp) ((CallW_inline (n := 10) Try.func110 rfl rfl rfl rfl (by simp) fun a_ => ?_))
        refine W_seqK fun K312 h312 => ?_
        refine W_reg ?_
        simp [go_sem, ty3, ty51, markE_add, mvCore, nvCore, mvHart, nvHart]
        first | refine h312 _ ?_ | refine ⟨by omega, h312 _ ?_⟩ | refine ⟨by omega, by omega, h312 _ ?_⟩ | (repeat (refine ⟨by first | omega | grind, ?_⟩)); refine h312 _ ?_
        clear h312 K312
        refine W_seqK fun K313 h313 => ?_
        refine W_reg ?_
        simp [go_sem, ty3, ty42, ty51, markE_add, mvCore, nvCore, mvHart, nvHart]
        refine callG_true (by simp) (CallW_mut (mc_laws_markIntS c.hart.regs 1 (by first | assumption | omega)) rfl rfl rfl (by simp [go_sem, markE_add, mvCore, nvCore, mvHart, nvHart]) rfl ?_)
        simp [go_sem, ty3, markE_add, mvCore, nvCore, mvHart, nvHart]
        first | refine h313 _ ?_ | refine ⟨by omega, h313 _ ?_⟩ | refine ⟨by omega, by omega, h313 _ ?_⟩ | (repeat (refine ⟨by first | omega | grind, ?_⟩)); refine h313 _ ?_
        clear h313 K313
        refine W_seqK fun K314 h314 => ?_
        refine W_reg ?_
        simp [go_sem, ty3, markE_add, mvCore, nvCore, mvHart, nvHart]
        first | refine h314 _ ?_ | refine ⟨by omega, h314 _ ?_⟩ | refine ⟨by omega, by omega, h314 _ ?_⟩ | (repeat (refine ⟨by first | omega | grind, ?_⟩)); refine h314 _ ?_
        clear h314 K314
        refine W_ret ?_
        simp [go_sem]
        refine ⟨_, _, ⟨rfl, rfl⟩, ?_⟩
        simp [go_sem, ty3, markE_add, mvCore, nvCore, mvHart, nvHart]
        first | refine h311 _ ?_ | refine ⟨by omega, h311 _ ?_⟩ | refine ⟨by omega, by omega, h311 _ ?_⟩ | (repeat (refine ⟨by first | omega | grind, ?_⟩)); refine h311 _ ?_
        clear h311 K311
        refine W_seqK fun K315 h315 => ?_
        refine W_reg ?_
        simp [go_sem, ty3, ty28, ty33, ty83, markE_add, mvCore, nvCore, mvHart, nvHart]
        refine callG_true (by simp) (CallW_mut (mc_laws_markBlockS c.cache (markE 1 (c.hart.regs.length)) (by first | assumption | omega) (by first | assumption | omega)) rfl rfl rfl (by simp [go_sem, markE_add, mvCore, nvCore, mvHart, nvHart]) rfl ?_)
        simp [go_sem, ty3, markE_add, mvCore, nvCore, mvHart, nvHart]
        first | refine h315 _ ?_ | refine ⟨by omega, h315 _ ?_⟩ | refine ⟨by omega, by omega, h315 _ ?_⟩ | (repeat (refine ⟨by first | omega | grind, ?_⟩)); refine h315 _ ?_
        clear h315 K315
        refine W_seqK fun K316 h316 => ?_
        refine W_reg ?_
        simp [go_sem, ty3, markE_add, mvCore, nvCore, mvHart, nvHart]
        first | refine h316 _ ?_ | refine ⟨by omega, h316 _ ?_⟩ | refine ⟨by omega, by omega, h316 _ ?_⟩ | (repeat (refine ⟨by first | omega | grind, ?_⟩)); refine h316 _ ?_
        clear h316 K316
        refine W_ret ?_
        simp [go_sem]
        refine ⟨_, _, ⟨rfl, rfl⟩, ?_⟩
        simp [go_sem, ty3, markE_add, mvCore, nvCore, mvHart, nvHart]
        first | refine h309 _ ?_ | refine ⟨by omega, h309 _ ?_⟩ | refine ⟨by omega, by omega, h309 _ ?_⟩ | (repeat (refine ⟨by first | omega | grind, ?_⟩)); refine h309 _ ?_
        clear h309 K309
        refine W_seqK fun K317 h317 => ?_
        refine W_reg ?_
        simp [go_sem, ty3, ty86, markE_add, mvCore, nvCore, mvHart, nvHart]
        refine callG_true (by simp) ((CallW_inline (n := 10) Try.func56 rfl rfl rfl rfl (by simp) fun a_ => ?_))
        refine W_seqK fun K318 h318 => ?_
        refine W_reg ?_
        simp [go_sem, ty3, ty86, markE_add, mvCore, nvCore, mvHart, nvHart]
        first | refine h318 _ ?_ | refine ⟨by omega, h318 _ ?_⟩ | refine ⟨by omega, by omega, h318 _ ?_⟩ | (repeat (refine ⟨by first | omega | grind, ?_⟩)); refine h318 _ ?_
        clear h318 K318
        refine W_seqK fun K319 h319 => ?_
        refine W_reg ?_
        simp [go_sem, ty3, ty42, ty86, markE_add, mvCore, nvCore, mvHart, nvHart]
        refine callG_true (by simp) (CallW_mut (mc_laws_markIntS m.list (markE 1 (c.hart.regs.length + (c.cache.map nBlock).sum)) (by first | assumption | omega)) rfl rfl rfl (by simp [go_sem, markE_add, mvCore, nvCore, mvHart, nvHart]) rfl ?_)
        simp [go_sem, ty3, markE_add, mvCore, nvCore, mvHart, nvHart]
        first | refine h319 _ ?_ | refine ⟨by omega, h319 _ ?_⟩ | refine ⟨by omega, by omega, h319 _ ?_⟩ | (repeat (refine ⟨by first | omega | grind, ?_⟩)); refine h319 _ ?_
        clear h319 K319
        refine W_seqK fun K320 h320 => ?_
        refine W_reg ?_
        simp [go_sem, ty3, markE_add, mvCore, nvCore, mvHart, nvHart]
        first | refine h320 _ ?_ | refine ⟨by omega, h320 _ ?_⟩ | refine ⟨by omega, by omega, h320 _ ?_⟩ | (repeat (refine ⟨by first | omega | grind, ?_⟩)); refine h320 _ ?_
        clear h320 K320
        refine W_ret ?_
        simp [go_sem]
        refine ⟨_, _, ⟨rfl, rfl⟩, ?_⟩
        simp [go_sem, ty3, markE_add, mvCore, nvCore, mvHart, nvHart]
        first | refine h317 _ ?_ | refine ⟨by omega, h317 _ ?_⟩ | refine ⟨by omega, by omega, h317 _ ?_⟩ | (repeat (refine ⟨by first | omega | grind, ?_⟩)); refine h317 _ ?_
        clear h317 K317
        refine W_seqK fun K321 h321 => ?_
        refine W_seqK fun K322 h322 => ?_
        refine W_reg ?_
        simp [go_sem, ty3, ty4, ty83, markE_add, mvCore, nvCore, mvHart, nvHart]
        refine callG_pc (fun hG => pc_laws_eqCore (coreHear c m) (coreHear c m) (by first | assumption | omega)) (by first | (simp; done) | (simp [inR_iff]; done) | (simp [inR_iff]; grind) | grind) (fun hG => by simp [go_sem, markE_add, mvCore, nvCore, mvHart, nvHart]) rfl rfl (by first | exact Or.inl rfl | exact Or.inr rfl) ?_
        simp [go_sem, ty4, markE_add, mvCore, nvCore, mvHart, nvHart]
        first | refine h322 _ ?_ | refine ⟨by omega, h322 _ ?_⟩ | refine ⟨by omega, by omega, h322 _ ?_⟩ | (repeat (refine ⟨by first | omega | grind, ?_⟩)); refine h322 _ ?_
        clear h322 K322
        refine W_cond rfl (fun hb323 => by first | (simp at hb323; done) | (simp at hb323; omega) | (simp at hb323; exact absurd hb323 (Int.not_lt.2 (markE_nn _ (by omega))))) fun hb323 => ?_
        clear hb323
        refine W_skip ?_
        first | refine h321 _ ?_ | refine ⟨by omega, h321 _ ?_⟩ | refine ⟨by omega, by omega, h321 _ ?_⟩ | (repeat (refine ⟨by first | omega | grind, ?_⟩)); refine h321 _ ?_
        clear h321 K321
        refine W_seqK fun K324 h324 => ?_
        refine W_reg ?_
        simp [go_sem, ty3, markE_add, mvCore, nvCore, mvHart, nvHart]
        first | refine h324 _ ?_ | refine ⟨by omega, h324 _ ?_⟩ | refine ⟨by omega, by omega, h324 _ ?_⟩ | (repeat (refine ⟨by first | omega | grind, ?_⟩)); refine h324 _ ?_
        clear h324 K324
        refine W_seqK fun K325 h325 => ?_
        refine W_reg ?_
        simp [go_sem, ty3, ty83, markE_add, mvCore, nvCore, mvHart, nvHart]
        refine callG_true (by simp) ((CallW_inline (n := 14) Try.func55 rfl rfl rfl rfl (by simp) fun a_ => ?_))
        refine W_seqK fun K326 h326 => ?_
        refine W_reg ?_
        simp [go_sem, ty3, ty83, markE_add, mvCore, nvCore, mvHart, nvHart]
        first | refine h326 _ ?_ | refine ⟨by omega, h326 _ ?_⟩ | refine ⟨by omega, by omega, h326 _ ?_⟩ | (repeat (refine ⟨by first | omega | grind, ?_⟩)); refine h326 _ ?_
        clear h326 K326
        refine W_seqK fun K327 h327 => ?_
        refine W_reg ?_
        simp [go_sem, ty3, ty51, ty83, markE_add, mvCore, nvCore, mvHart, nvHart]
        refine callG_true (by simp) ((CallW_inline (n := 10) Try.func110 rfl rfl rfl rfl (by simp) fun a_ => ?_))
        refine W_seqK fun K328 h328 => ?_
        refine W_reg ?_
        simp [go_sem, ty3, ty51, markE_add, mvCore, nvCore, mvHart, nvHart]
        first | refine h328 _ ?_ | refine ⟨by omega, h328 _ ?_⟩ | refine ⟨by omega, by omega, h328 _ ?_⟩ | (repeat (refine ⟨by first | omega | grind, ?_⟩)); refine h328 _ ?_
        clear h328 K328
        refine W_seqK fun K329 h329 => ?_
        refine W_reg ?_
        simp [go_sem, ty3, ty42, ty51, markE_add, mvCore, nvCore, mvHart, nvHart]
        refine callG_true (by simp) (CallW_mut (mc_laws_markIntS (((coreHear c m).hart).regs) 1 (by first | assumption | omega)) rfl rfl rfl (by simp [go_sem, markE_add, mvCore, nvCore, mvHart, nvHart]) rfl ?_)
        simp [go_sem, ty3, markE_add, mvCore, nvCore, mvHart, nvHart]
        first | refine h329 _ ?_ | refine ⟨by omega, h329 _ ?_⟩ | refine ⟨by omega, by omega, h329 _ ?_⟩ | (repeat (refine ⟨by first | omega | grind, ?_⟩)); refine h329 _ ?_
        clear h329 K329
        refine W_seqK fun K330 h330 => ?_
        refine W_reg ?_
        simp [go_sem, ty3, markE_add, mvCore, nvCore, mvHart, nvHart]
        first | refine h330 _ ?_ | refine ⟨by omega, h330 _ ?_⟩ | refine ⟨by omega, by omega, h330 _ ?_⟩ | (repeat (refine ⟨by first | omega | grind, ?_⟩)); refine h330 _ ?_
        clear h330 K330
        refine W_ret ?_
        simp [go_sem]
        refine ⟨_, _, ⟨rfl, rfl⟩, ?_⟩
        simp [go_sem, ty3, markE_add, mvCore, nvCore, mvHart, nvHart]
        first | refine h327 _ ?_ | refine ⟨by omega, h327 _ ?_⟩ | refine ⟨by omega, by omega, h327 _ ?_⟩ | (repeat (refine ⟨by first | omega | grind, ?_⟩)); refine h327 _ ?_
        clear h327 K327
        refine W_seqK fun K331 h331 => ?_
        refine W_reg ?_
        simp [go_sem, ty3, ty28, ty33, ty83, markE_add, mvCore, nvCore, mvHart, nvHart]
        refine callG_true (by simp) (CallW_mut (mc_laws_markBlockS ((coreHear c m).cache) (markE 1 ((((coreHear c m).hart).regs).length)) (by first | assumption | omega) (by first | assumption | omega)) rfl rfl rfl (by simp [go_sem, markE_add, mvCore, nvCore, mvHart, nvHart]) rfl ?_)
        simp [go_sem, ty3, markE_add, mvCore, nvCore, mvHart, nvHart]
        first | refine h331 _ ?_ | refine ⟨by omega, h331 _ ?_⟩ | refine ⟨by omega, by omega, h331 _ ?_⟩ | (repeat (refine ⟨by first | omega | grind, ?_⟩)); refine h331 _ ?_
        clear h331 K331
        refine W_seqK fun K332 h332 => ?_
        refine W_reg ?_
        simp [go_sem, ty3, markE_add, mvCore, nvCore, mvHart, nvHart]
        first | refine h332 _ ?_ | refine ⟨by omega, h332 _ ?_⟩ | refine ⟨by omega, by omega, h332 _ ?_⟩ | (repeat (refine ⟨by first | omega | grind, ?_⟩)); refine h332 _ ?_
        clear h332 K332
        refine W_ret ?_
        simp [go_sem]
        refine ⟨_, _, ⟨rfl, rfl⟩, ?_⟩
        simp [go_sem, ty3, markE_add, mvCore, nvCore, mvHart, nvHart]
        first | refine h325 _ ?_ | refine ⟨by omega, h325 _ ?_⟩ | refine ⟨by omega, by omega, h325 _ ?_⟩ | (repeat (refine ⟨by first | omega | grind, ?_⟩)); refine h325 _ ?_
        clear h325 K325
        refine W_seqK fun K333 h333 => ?_
        refine W_reg ?_
        simp [go_sem, ty3, markE_add, mvCore, nvCore, mvHart, nvHart]
        first | refine h333 _ ?_ | refine ⟨by omega, h333 _ ?_⟩ | refine ⟨by omega, by omega, h333 _ ?_⟩ | (repeat (refine ⟨by first | omega | grind, ?_⟩)); refine h333 _ ?_
        clear h333 K333
        refine W_seqK fun K334 h334 => ?_
        refine W_reg ?_
        simp [go_sem, ty3, ty83, markE_add, mvCore, nvCore, mvHart, nvHart]
        refine callG_pc (fun hG => pc_laws_heldCore (coreHear c m) 1 (by first | assumption | omega) (fun m hm => by (try simp only [nvMsg, nvSender, nvPacket, nvFrame, nvHome, nvNode, nvWorld, nvHart, nvBlock, nvCore, nvFlock] at hm); first | exact hp m (by omega) | (rw [markE_add]; exact hp _ (by omega)) | exact markE_nn m (by omega) | (rw [markE_add]; exact markE_nn _ (by omega)))) (by first | (simp; done) | (simp [inR_iff]; done) | (simp [inR_iff]; grind) | grind) (fun hG => by simp [go_sem, markE_add, mvCore, nvCore, mvHart, nvHart]) rfl rfl (by first | exact Or.inl rfl | exact Or.inr rfl) ?_
        simp [go_sem, ty3, markE_add, mvCore, nvCore, mvHart, nvHart]
        first | refine h334 _ ?_ | refine ⟨by omega, h334 _ ?_⟩ | refine ⟨by omega, by omega, h334 _ ?_⟩ | (repeat (refine ⟨by first | omega | grind, ?_⟩)); refine h334 _ ?_
        clear h334 K334
        refine W_seqK fun K335 h335 => ?_
        refine W_seqK fun K336 h336 => ?_
        refine W_reg ?_
        simp [go_sem, ty3, ty4, markE_add, mvCore, nvCore, mvHart, nvHart]
        first | refine h336 _ ?_ | refine ⟨by omega, h336 _ ?_⟩ | refine ⟨by omega, by omega, h336 _ ?_⟩ | (repeat (refine ⟨by first | omega | grind, ?_⟩)); refine h336 _ ?_
        clear h336 K336
        refine W_cond rfl (fun hb337 => by first | (simp at hb337; done) | (simp at hb337; omega) | (simp at hb337; exact absurd hb337 (Int.not_lt.2 (markE_nn _ (by omega))))) fun hb337 => ?_
        clear hb337
        refine W_skip ?_
        first | refine h335 _ ?_ | refine ⟨by omega, h335 _ ?_⟩ | refine ⟨by omega, by omega, h335 _ ?_⟩ | (repeat (refine ⟨by first | omega | grind, ?_⟩)); refine h335 _ ?_
        clear h335 K335
        refine W_seqK fun K338 h338 => ?_
        refine W_seqK fun K339 h339 => ?_
        refine W_reg ?_
        simp [go_sem, ty3, ty4, markE_add, mvCore, nvCore, mvHart, nvHart]
        first | refine h339 _ ?_ | refine ⟨by omega, h339 _ ?_⟩ | refine ⟨by omega, by omega, h339 _ ?_⟩ | (repeat (refine ⟨by first | omega | grind, ?_⟩)); refine h339 _ ?_
        clear h339 K339
        refine W_cond rfl (fun hb340 => by first | (simp at hb340; done) | (simp at hb340; omega) | (simp at hb340; exact absurd hb340 (Int.not_lt.2 (markE_nn _ (by omega))))) fun hb340 => ?_
        clear hb340
        refine W_skip ?_
        first | refine h338 _ ?_ | refine ⟨by omega, h338 _ ?_⟩ | refine ⟨by omega, by omega, h338 _ ?_⟩ | (repeat (refine ⟨by first | omega | grind, ?_⟩)); refine h338 _ ?_
        clear h338 K338
        refine W_seqK fun K341 h341 => ?_
        refine W_drawS true (.op 0 (.op 2 (.fork 1 (.fork 3 (.fork 4 (.op 5 (.op 6 .nil)) 5 (.op 4 (.op 6 .nil))) 5 (.op 3 (.op 4 (.op 6 .nil)))) 5 (.op 1 (.op 3 (.op 4 (.op 6 .nil))))))) mixed (by decide +kernel) rfl ?_
        simp [go_sem, ty77, ty79, markE_add, mvCore, nvCore, mvHart, nvHart]
        refine ⟨?_, ?_⟩
        · try simp [go_sem, ty77, ty83, markE_add, mvCore, nvCore, mvHart, nvHart]
          refine callG_pc (fun hG => pc_laws_toCore c (by first | assumption | omega)) (by first | (simp; done) | (simp [inR_iff]; done) | (simp [inR_iff]; grind) | grind) (fun hG => by simp [go_sem, markE_add, mvCore, nvCore, mvHart, nvHart]) rfl rfl (by first | exact Or.inl rfl | exact Or.inr rfl) ?_
          simp [go_sem, markE_add, mvCore, nvCore, mvHart, nvHart]
          refine ⟨?_, ?_⟩
          · try simp [go_sem, ty79, ty86, markE_add, mvCore, nvCore, mvHart, nvHart]
            refine callG_pc (fun hG => pc_laws_toMsg m (by first | assumption | omega)) (by first | (simp; done) | (simp [inR_iff]; done) | (simp [inR_iff]; grind) | grind) (fun hG => by simp [go_sem, markE_add, mvCore, nvCore, mvHart, nvHart]) rfl rfl (by first | exact Or.inl rfl | exact Or.inr rfl) ?_
            simp [go_sem, markE_add, mvCore, nvCore, mvHart, nvHart]
            refine ⟨?_, ?_⟩
            · try simp [go_sem, ty83, ty86, markE_add, mvCore, nvCore, mvHart, nvHart]
              refine callG_pc (fun hG => pc_impl_CoreHear c m (by first | assumption | omega)) (by first | (simp; done) | (simp [inR_iff]; done) | (simp [inR_iff]; grind) | grind) (fun hG => by simp [go_sem, markE_add, mvCore, nvCore, mvHart, nvHart]) rfl rfl (by first | exact Or.inl rfl | exact Or.inr rfl) ?_
              simp [go_sem, ty83, markE_add, mvCore, nvCore, mvHart, nvHart]
              first | refine h341 _ ?_ | refine ⟨by omega, h341 _ ?_⟩ | refine ⟨by omega, by omega, h341 _ ?_⟩ | (repeat (refine ⟨by first | omega | grind, ?_⟩)); refine h341 _ ?_
              clear h341 K341
              refine W_seqK fun K342 h342 => ?_
              refine W_seqK fun K343 h343 => ?_
              refine W_reg ?_
              simp [go_sem, ty4, ty83, markE_add, mvCore, nvCore, mvHart, nvHart]
              refine callG_pc (fun hG => pc_laws_eqCore (coreHear c m) (coreHear c m) (by first | assumption | omega)) (by first | (simp; done) | (simp [inR_iff]; done) | (simp [inR_iff]; grind) | grind) (fun hG => by simp [go_sem, markE_add, mvCore, nvCore, mvHart, nvHart]) rfl rfl (by first | exact Or.inl rfl | exact Or.inr rfl) ?_
              simp [go_sem, ty4, markE_add, mvCore, nvCore, mvHart, nvHart]
              first | refine h343 _ ?_ | refine ⟨by omega, h343 _ ?_⟩ | refine ⟨by omega, by omega, h343 _ ?_⟩ | (repeat (refine ⟨by first | omega | grind, ?_⟩)); refine h343 _ ?_
              clear h343 K343
              refine W_cond rfl (fun hb344 => by first | (simp at hb344; done) | (simp at hb344; omega) | (simp at hb344; exact absurd hb344 (Int.not_lt.2 (markE_nn _ (by omega))))) fun hb344 => ?_
              clear hb344
              refine W_skip ?_
              first | refine h342 _ ?_ | refine ⟨by omega, h342 _ ?_⟩ | refine ⟨by omega, by omega, h342 _ ?_⟩ | (repeat (refine ⟨by first | omega | grind, ?_⟩)); refine h342 _ ?_
              clear h342 K342
              refine W_seqK fun K345 h345 => ?_
              refine W_reg ?_
              simp [go_sem, ty3, markE_add, mvCore, nvCore, mvHart, nvHart]
              first | refine h345 _ ?_ | refine ⟨by omega, h345 _ ?_⟩ | refine ⟨by omega, by omega, h345 _ ?_⟩ | (repeat (refine ⟨by first | omega | grind, ?_⟩)); refine h345 _ ?_
              clear h345 K345
              refine W_seqK fun K346 h346 => ?_
              refine W_reg ?_
              simp [go_sem, ty3, ty83, markE_add, mvCore, nvCore, mvHart, nvHart]
              refine callG_pc (fun hG => pc_laws_heldCore (coreHear c m) 1 (by first | assumption | omega) (fun m hm => by (try simp only [nvMsg, nvSender, nvPacket, nvFrame, nvHome, nvNode, nvWorld, nvHart, nvBlock, nvCore, nvFlock] at hm); first | exact hp m (by omega) | (rw [markE_add]; exact hp _ (by omega)) | exact markE_nn m (by omega) | (rw [markE_add]; exact markE_nn _ (by omega)))) (by first | (simp; done) | (simp [inR_iff]; done) | (simp [inR_iff]; grind) | grind) (fun hG => by simp [go_sem, markE_add, mvCore, nvCore, mvHart, nvHart]) rfl rfl (by first | exact Or.inl rfl | exact Or.inr rfl) ?_
              simp [go_sem, ty3, markE_add, mvCore, nvCore, mvHart, nvHart]
              first | refine h346 _ ?_ | refine ⟨by omega, h346 _ ?_⟩ | refine ⟨by omega, by omega, h346 _ ?_⟩ | (repeat (refine ⟨by first | omega | grind, ?_⟩)); refine h346 _ ?_
              clear h346 K346
              refine W_seqK fun K347 h347 => ?_
              refine W_seqK fun K348 h348 => ?_
              refine W_reg ?_
              simp [go_sem, ty3, ty4, markE_add, mvCore, nvCore, mvHart, nvHart]
              first | refine h348 _ ?_ | refine ⟨by omega, h348 _ ?_⟩ | refine ⟨by omega, by omega, h348 _ ?_⟩ | (repeat (refine ⟨by first | omega | grind, ?_⟩)); refine h348 _ ?_
              clear h348 K348
              refine W_cond rfl (fun hb349 => by first | (simp at hb349; done) | (simp at hb349; omega) | (simp at hb349; exact absurd hb349 (Int.not_lt.2 (markE_nn _ (by omega))))) fun hb349 => ?_
              clear hb349
              refine W_skip ?_
              first | refine h347 _ ?_ | refine ⟨by omega, h347 _ ?_⟩ | refine ⟨by omega, by omega, h347 _ ?_⟩ | (repeat (refine ⟨by first | omega | grind, ?_⟩)); refine h347 _ ?_
              clear h347 K347
              refine W_seqK fun K350 h350 => ?_
              refine W_seqK fun K351 h351 => ?_
              refine W_reg ?_
              simp [go_sem, ty3, ty4, markE_add, mvCore, nvCore, mvHart, nvHart]
              first | refine h351 _ ?_ | refine ⟨by omega, h351 _ ?_⟩ | refine ⟨by omega, by omega, h351 _ ?_⟩ | (repeat (refine ⟨by first | omega | grind, ?_⟩)); refine h351 _ ?_
              clear h351 K351
              refine W_cond rfl (fun hb352 => by first | (simp at hb352; done) | (simp at hb352; omega) | (simp at hb352; exact absurd hb352 (Int.not_lt.2 (markE_nn _ (by omega))))) fun hb352 => ?_
              clear hb352
              refine W_skip ?_
              first | refine h350 _ ?_ | refine ⟨by omega, h350 _ ?_⟩ | refine ⟨by omega, by omega, h350 _ ?_⟩ | (repeat (refine ⟨by first | omega | grind, ?_⟩)); refine h350 _ ?_
              clear h350 K350
              refine W_seqK fun K353 h353 => ?_
              refine W_reg ?_
              simp [go_sem, ty4, markE_add, mvCore, nvCore, mvHart, nvHart]
              first | refine h353 _ ?_ | refine ⟨by omega, h353 _ ?_⟩ | refine ⟨by omega, by omega, h353 _ ?_⟩ | (repeat (refine ⟨by first | omega | grind, ?_⟩)); refine h353 _ ?_
              clear h353 K353
              refine W_ret ?_
              simp [go_sem]
            · try simp [go_sem, ty83, ty86, markE_add, mvCore, nvCore, mvHart, nvHart]
              refine callG_pc (fun hG => pc_impl_CoreHear c m (by first | assumption | omega)) (by first | (simp; done) | (simp [inR_iff]; done) | (simp [inR_iff]; grind) | grind) (fun hG => by simp [go_sem, markE_add, mvCore, nvCore, mvHart, nvHart]) rfl rfl (by first | exact Or.inl rfl | exact Or.inr rfl) ?_
              simp [go_sem, ty83, markE_add, mvCore, nvCore, mvHart, nvHart]
              first | refine h341 _ ?_ | refine ⟨by omega, h341 _ ?_⟩ | refine ⟨by omega, by omega, h341 _ ?_⟩ | (repeat (refine ⟨by first | omega | grind, ?_⟩)); refine h341 _ ?_
              clear h341 K341
              refine W_seqK fun K354 h354 => ?_
              refine W_seqK fun K355 h355 => ?_
              refine W_reg ?_
              simp [go_sem, ty4, ty83, markE_add, mvCore, nvCore, mvHart, nvHart]
              refine callG_pc (fun hG => pc_laws_eqCore (coreHear c m) (coreHear c m) (by first | assumption | omega)) (by first | (simp; done) | (simp [inR_iff]; done) | (simp [inR_iff]; grind) | grind) (fun hG => by simp [go_sem, markE_add, mvCore, nvCore, mvHart, nvHart]) rfl rfl (by first | exact Or.inl rfl | exact Or.inr rfl) ?_
              simp [go_sem, ty4, markE_add, mvCore, nvCore, mvHart, nvHart]
              first | refine h355 _ ?_ | refine ⟨by omega, h355 _ ?_⟩ | refine ⟨by omega, by omega, h355 _ ?_⟩ | (repeat (refine ⟨by first | omega | grind, ?_⟩)); refine h355 _ ?_
              clear h355 K355
              refine W_cond rfl (fun hb356 => by first | (simp at hb356; done) | (simp at hb356; omega) | (simp at hb356; exact absurd hb356 (Int.not_lt.2 (markE_nn _ (by omega))))) fun hb356 => ?_
              clear hb356
              refine W_skip ?_
              first | refine h354 _ ?_ | refine ⟨by omega, h354 _ ?_⟩ | refine ⟨by omega, by omega, h354 _ ?_⟩ | (repeat (refine ⟨by first | omega | grind, ?_⟩)); refine h354 _ ?_
              clear h354 K354
              refine W_seqK fun K357 h357 => ?_
              refine W_reg ?_
              simp [go_sem, ty3, markE_add, mvCore, nvCore, mvHart, nvHart]
              first | refine h357 _ ?_ | refine ⟨by omega, h357 _ ?_⟩ | refine ⟨by omega, by omega, h357 _ ?_⟩ | (repeat (refine ⟨by first | omega | grind, ?_⟩)); refine h357 _ ?_
              clear h357 K357
              refine W_seqK fun K358 h358 => ?_
              refine W_reg ?_
              simp [go_sem, ty3, ty83, markE_add, mvCore, nvCore, mvHart, nvHart]
              refine callG_pc (fun hG => pc_laws_heldCore (coreHear c m) 1 (by first | assumption | omega) (fun m hm => by (try simp only [nvMsg, nvSender, nvPacket, nvFrame, nvHome, nvNode, nvWorld, nvHart, nvBlock, nvCore, nvFlock] at hm); first | exact hp m (by omega) | (rw [markE_add]; exact hp _ (by omega)) | exact markE_nn m (by omega) | (rw [markE_add]; exact markE_nn _ (by omega)))) (by first | (simp; done) | (simp [inR_iff]; done) | (simp [inR_iff]; grind) | grind) (fun hG => by simp [go_sem, markE_add, mvCore, nvCore, mvHart, nvHart]) rfl rfl (by first | exact Or.inl rfl | exact Or.inr rfl) ?_
              simp [go_sem, ty3, markE_add, mvCore, nvCore, mvHart, nvHart]
              first | refine h358 _ ?_ | refine ⟨by omega, h358 _ ?_⟩ | refine ⟨by omega, by omega, h358 _ ?_⟩ | (repeat (refine ⟨by first | omega | grind, ?_⟩)); refine h358 _ ?_
              clear h358 K358
              refine W_seqK fun K359 h359 => ?_
              refine W_seqK fun K360 h360 => ?_
              refine W_reg ?_
              simp [go_sem, ty3, ty4, markE_add, mvCore, nvCore, mvHart, nvHart]
              first | refine h360 _ ?_ | refine ⟨by omega, h360 _ ?_⟩ | refine ⟨by omega, by omega, h360 _ ?_⟩ | (repeat (refine ⟨by first | omega | grind, ?_⟩)); refine h360 _ ?_
              clear h360 K360
              refine W_cond rfl (fun hb361 => by first | (simp at hb361; done) | (simp at hb361; omega) | (simp at hb361; exact absurd hb361 (Int.not_lt.2 (markE_nn _ (by omega))))) fun hb361 => ?_
              clear hb361
              refine W_skip ?_
              first | refine h359 _ ?_ | refine ⟨by omega, h359 _ ?_⟩ | refine ⟨by omega, by omega, h359 _ ?_⟩ | (repeat (refine ⟨by first | omega | grind, ?_⟩)); refine h359 _ ?_
              clear h359 K359
              refine W_seqK fun K362 h362 => ?_
              refine W_seqK fun K363 h363 => ?_
              refine W_reg ?_
              simp [go_sem, ty3, ty4, markE_add, mvCore, nvCore, mvHart, nvHart]
              first | refine h363 _ ?_ | refine ⟨by omega, h363 _ ?_⟩ | refine ⟨by omega, by omega, h363 _ ?_⟩ | (repeat (refine ⟨by first | omega | grind, ?_⟩)); refine h363 _ ?_
              clear h363 K363
              refine W_cond rfl (fun hb364 => by first | (simp at hb364; done) | (simp at hb364; omega) | (simp at hb364; exact absurd hb364 (Int.not_lt.2 (markE_nn _ (by omega))))) fun hb364 => ?_
              clear hb364
              refine W_skip ?_
              first | refine h362 _ ?_ | refine ⟨by omega, h362 _ ?_⟩ | refine ⟨by omega, by omega, h362 _ ?_⟩ | (repeat (refine ⟨by first | omega | grind, ?_⟩)); refine h362 _ ?_
              clear h362 K362
              refine W_seqK fun K365 h365 => ?_
              refine W_reg ?_
              simp [go_sem, ty4, markE_add, mvCore, nvCore, mvHart, nvHart]
              first | refine h365 _ ?_ | refine ⟨by omega, h365 _ ?_⟩ | refine ⟨by omega, by omega, h365 _ ?_⟩ | (repeat (refine ⟨by first | omega | grind, ?_⟩)); refine h365 _ ?_
              clear h365 K365
              refine W_ret ?_
              simp [go_sem]
          · try simp [go_sem, ty79, ty83, ty86, markE_add, mvCore, nvCore, mvHart, nvHart]
            refine callG_pc (fun hG => pc_laws_toMsg m (by first | assumption | omega)) (by first | (simp; done) | (simp [inR_iff]; done) | (simp [inR_iff]; grind) | grind) (fun hG => by simp [go_sem, markE_add, mvCore, nvCore, mvHart, nvHart]) rfl rfl (by first | exact Or.inl rfl | exact Or.inr rfl) ?_
            simp [go_sem, ty83, ty86, markE_add, mvCore, nvCore, mvHart, nvHart]
            refine callG_pc (fun hG => pc_impl_CoreHear c m (by first | assumption | omega)) (by first | (simp; done) | (simp [inR_iff]; done) | (simp [inR_iff]; grind) | grind) (fun hG => by simp [go_sem, markE_add, mvCore, nvCore, mvHart, nvHart]) rfl rfl (by first | exact Or.inl rfl | exact Or.inr rfl) ?_
            simp [go_sem, ty83, markE_add, mvCore, nvCore, mvHart, nvHart]
            first | refine h341 _ ?_ | refine ⟨by omega, h341 _ ?_⟩ | refine ⟨by omega, by omega, h341 _ ?_⟩ | (repeat (refine ⟨by first | omega | grind, ?_⟩)); refine h341 _ ?_
            clear h341 K341
            refine W_seqK fun K366 h366 => ?_
            refine W_seqK fun K367 h367 => ?_
            refine W_reg ?_
            simp [go_sem, ty4, ty83, markE_add, mvCore, nvCore, mvHart, nvHart]
            refine callG_pc (fun hG => pc_laws_eqCore (coreHear c m) (coreHear c m) (by first | assumption | omega)) (by first | (simp; done) | (simp [inR_iff]; done) | (simp [inR_iff]; grind) | grind) (fun hG => by simp [go_sem, markE_add, mvCore, nvCore, mvHart, nvHart]) rfl rfl (by first | exact Or.inl rfl | exact Or.inr rfl) ?_
            simp [go_sem, ty4, markE_add, mvCore, nvCore, mvHart, nvHart]
            first | refine h367 _ ?_ | refine ⟨by omega, h367 _ ?_⟩ | refine ⟨by omega, by omega, h367 _ ?_⟩ | (repeat (refine ⟨by first | omega | grind, ?_⟩)); refine h367 _ ?_
            clear h367 K367
            refine W_cond rfl (fun hb368 => by first | (simp at hb368; done) | (simp at hb368; omega) | (simp at hb368; exact absurd hb368 (Int.not_lt.2 (markE_nn _ (by omega))))) fun hb368 => ?_
            clear hb368
            refine W_skip ?_
            first | refine h366 _ ?_ | refine ⟨by omega, h366 _ ?_⟩ | refine ⟨by omega, by omega, h366 _ ?_⟩ | (repeat (refine ⟨by first | omega | grind, ?_⟩)); refine h366 _ ?_
            clear h366 K366
            refine W_seqK fun K369 h369 => ?_
            refine W_reg ?_
            simp [go_sem, ty3, markE_add, mvCore, nvCore, mvHart, nvHart]
            first | refine h369 _ ?_ | refine ⟨by omega, h369 _ ?_⟩ | refine ⟨by omega, by omega, h369 _ ?_⟩ | (repeat (refine ⟨by first | omega | grind, ?_⟩)); refine h369 _ ?_
            clear h369 K369
            refine W_seqK fun K370 h370 => ?_
            refine W_reg ?_
            simp [go_sem, ty3, ty83, markE_add, mvCore, nvCore, mvHart, nvHart]
            refine callG_pc (fun hG => pc_laws_heldCore (coreHear c m) 1 (by first | assumption | omega) (fun m hm => by (try simp only [nvMsg, nvSender, nvPacket, nvFrame, nvHome, nvNode, nvWorld, nvHart, nvBlock, nvCore, nvFlock] at hm); first | exact hp m (by omega) | (rw [markE_add]; exact hp _ (by omega)) | exact markE_nn m (by omega) | (rw [markE_add]; exact markE_nn _ (by omega)))) (by first | (simp; done) | (simp [inR_iff]; done) | (simp [inR_iff]; grind) | grind) (fun hG => by simp [go_sem, markE_add, mvCore, nvCore, mvHart, nvHart]) rfl rfl (by first | exact Or.inl rfl | exact Or.inr rfl) ?_
            simp [go_sem, ty3, markE_add, mvCore, nvCore, mvHart, nvHart]
            first | refine h370 _ ?_ | refine ⟨by omega, h370 _ ?_⟩ | refine ⟨by omega, by omega, h370 _ ?_⟩ | (repeat (refine ⟨by first | omega | grind, ?_⟩)); refine h370 _ ?_
            clear h370 K370
            refine W_seqK fun K371 h371 => ?_
            refine W_seqK fun K372 h372 => ?_
            refine W_reg ?_
            simp [go_sem, ty3, ty4, markE_add, mvCore, nvCore, mvHart, nvHart]
            first | refine h372 _ ?_ | refine ⟨by omega, h372 _ ?_⟩ | refine ⟨by omega, by omega, h372 _ ?_⟩ | (repeat (refine ⟨by first | omega | grind, ?_⟩)); refine h372 _ ?_
            clear h372 K372
            refine W_cond rfl (fun hb373 => by first | (simp at hb373; done) | (simp at hb373; omega) | (simp at hb373; exact absurd hb373 (Int.not_lt.2 (markE_nn _ (by omega))))) fun hb373 => ?_
            clear hb373
            refine W_skip ?_
            first | refine h371 _ ?_ | refine ⟨by omega, h371 _ ?_⟩ | refine ⟨by omega, by omega, h371 _ ?_⟩ | (repeat (refine ⟨by first | omega | grind, ?_⟩)); refine h371 _ ?_
            clear h371 K371
            refine W_seqK fun K374 h374 => ?_
            refine W_seqK fun K375 h375 => ?_
            refine W_reg ?_
            simp [go_sem, ty3, ty4, markE_add, mvCore, nvCore, mvHart, nvHart]
            first | refine h375 _ ?_ | refine ⟨by omega, h375 _ ?_⟩ | refine ⟨by omega, by omega, h375 _ ?_⟩ | (repeat (refine ⟨by first | omega | grind, ?_⟩)); refine h375 _ ?_
            clear h375 K375
            refine W_cond rfl (fun hb376 => by first | (simp at hb376; done) | (simp at hb376; omega) | (simp at hb376; exact absurd hb376 (Int.not_lt.2 (markE_nn _ (by omega))))) fun hb376 => ?_
            clear hb376
            refine W_skip ?_
            first | refine h374 _ ?_ | refine ⟨by omega, h374 _ ?_⟩ | refine ⟨by omega, by omega, h374 _ ?_⟩ | (repeat (refine ⟨by first | omega | grind, ?_⟩)); refine h374 _ ?_
            clear h374 K374
            refine W_seqK fun K377 h377 => ?_
            refine W_reg ?_
            simp [go_sem, ty4, markE_add, mvCore, nvCore, mvHart, nvHart]
            first | refine h377 _ ?_ | refine ⟨by omega, h377 _ ?_⟩ | refine ⟨by omega, by omega, h377 _ ?_⟩ | (repeat (refine ⟨by first | omega | grind, ?_⟩)); refine h377 _ ?_
            clear h377 K377
            refine W_ret ?_
            simp [go_sem]
        · try simp [go_sem, ty77, ty83, markE_add, mvCore, nvCore, mvHart, nvHart]
          refine callG_pc (fun hG => pc_laws_toCore c (by first | assumption | omega)) (by first | (simp; done) | (simp [inR_iff]; done) | (simp [inR_iff]; grind) | grind) (fun hG => by simp [go_sem, markE_add, mvCore, nvCore, mvHart, nvHart]) rfl rfl (by first | exact Or.inl rfl | exact Or.inr rfl) ?_
          simp [go_sem, ty79, ty86, markE_add, mvCore, nvCore, mvHart, nvHart]
          refine callG_pc (fun hG => pc_laws_toMsg m (by first | assumption | omega)) (by first | (simp; done) | (simp [inR_iff]; done) | (simp [inR_iff]; grind) | grind) (fun hG => by simp [go_sem, markE_add, mvCore, nvCore, mvHart, nvHart]) rfl rfl (by first | exact Or.inl rfl | exact Or.inr rfl) ?_
          simp [go_sem, ty83, ty86, markE_add, mvCore, nvCore, mvHart, nvHart]
          refine callG_pc (fun hG => pc_impl_CoreHear c m (by first | assumption | omega)) (by first | (simp; done) | (simp [inR_iff]; done) | (simp [inR_iff]; grind) | grind) (fun hG => by simp [go_sem, markE_add, mvCore, nvCore, mvHart, nvHart]) rfl rfl (by first | exact Or.inl rfl | exact Or.inr rfl) ?_
          simp [go_sem, ty83, markE_add, mvCore, nvCore, mvHart, nvHart]
          first | refine h341 _ ?_ | refine ⟨by omega, h341 _ ?_⟩ | refine ⟨by omega, by omega, h341 _ ?_⟩ | (repeat (refine ⟨by first | omega | grind, ?_⟩)); refine h341 _ ?_
          clear h341 K341
          refine W_seqK fun K378 h378 => ?_
          refine W_seqK fun K379 h379 => ?_
          refine W_reg ?_
          simp [go_sem, ty4, ty83, markE_add, mvCore, nvCore, mvHart, nvHart]
          refine callG_pc (fun hG => pc_laws_eqCore (coreHear c m) (coreHear c m) (by first | assumption | omega)) (by first | (simp; done) | (simp [inR_iff]; done) | (simp [inR_iff]; grind) | grind) (fun hG => by simp [go_sem, markE_add, mvCore, nvCore, mvHart, nvHart]) rfl rfl (by first | exact Or.inl rfl | exact Or.inr rfl) ?_
          simp [go_sem, ty4, markE_add, mvCore, nvCore, mvHart, nvHart]
          first | refine h379 _ ?_ | refine ⟨by omega, h379 _ ?_⟩ | refine ⟨by omega, by omega, h379 _ ?_⟩ | (repeat (refine ⟨by first | omega | grind, ?_⟩)); refine h379 _ ?_
          clear h379 K379
          refine W_cond rfl (fun hb380 => by first | (simp at hb380; done) | (simp at hb380; omega) | (simp at hb380; exact absurd hb380 (Int.not_lt.2 (markE_nn _ (by omega))))) fun hb380 => ?_
          clear hb380
          refine W_skip ?_
          first | refine h378 _ ?_ | refine ⟨by omega, h378 _ ?_⟩ | refine ⟨by omega, by omega, h378 _ ?_⟩ | (repeat (refine ⟨by first | omega | grind, ?_⟩)); refine h378 _ ?_
          clear h378 K378
          refine W_seqK fun K381 h381 => ?_
          refine W_reg ?_
          simp [go_sem, ty3, markE_add, mvCore, nvCore, mvHart, nvHart]
          first | refine h381 _ ?_ | refine ⟨by omega, h381 _ ?_⟩ | refine ⟨by omega, by omega, h381 _ ?_⟩ | (repeat (refine ⟨by first | omega | grind, ?_⟩)); refine h381 _ ?_
          clear h381 K381
          refine W_seqK fun K382 h382 => ?_
          refine W_reg ?_
          simp [go_sem, ty3, ty83, markE_add, mvCore, nvCore, mvHart, nvHart]
          refine callG_pc (fun hG => pc_laws_heldCore (coreHear c m) 1 (by first | assumption | omega) (fun m hm => by (try simp only [nvMsg, nvSender, nvPacket, nvFrame, nvHome, nvNode, nvWorld, nvHart, nvBlock, nvCore, nvFlock] at hm); first | exact hp m (by omega) | (rw [markE_add]; exact hp _ (by omega)) | exact markE_nn m (by omega) | (rw [markE_add]; exact markE_nn _ (by omega)))) (by first | (simp; done) | (simp [inR_iff]; done) | (simp [inR_iff]; grind) | grind) (fun hG => by simp [go_sem, markE_add, mvCore, nvCore, mvHart, nvHart]) rfl rfl (by first | exact Or.inl rfl | exact Or.inr rfl) ?_
          simp [go_sem, ty3, markE_add, mvCore, nvCore, mvHart, nvHart]
          first | refine h382 _ ?_ | refine ⟨by omega, h382 _ ?_⟩ | refine ⟨by omega, by omega, h382 _ ?_⟩ | (repeat (refine ⟨by first | omega | grind, ?_⟩)); refine h382 _ ?_
          clear h382 K382
          refine W_seqK fun K383 h383 => ?_
          refine W_seqK fun K384 h384 => ?_
          refine W_reg ?_
          simp [go_sem, ty3, ty4, markE_add, mvCore, nvCore, mvHart, nvHart]
          first | refine h384 _ ?_ | refine ⟨by omega, h384 _ ?_⟩ | refine ⟨by omega, by omega, h384 _ ?_⟩ | (repeat (refine ⟨by first | omega | grind, ?_⟩)); refine h384 _ ?_
          clear h384 K384
          refine W_cond rfl (fun hb385 => by first | (simp at hb385; done) | (simp at hb385; omega) | (simp at hb385; exact absurd hb385 (Int.not_lt.2 (markE_nn _ (by omega))))) fun hb385 => ?_
          clear hb385
          refine W_skip ?_
          first | refine h383 _ ?_ | refine ⟨by omega, h383 _ ?_⟩ | refine ⟨by omega, by omega, h383 _ ?_⟩ | (repeat (refine ⟨by first | omega | grind, ?_⟩)); refine h383 _ ?_
          clear h383 K383
          refine W_seqK fun K386 h386 => ?_
          refine W_seqK fun K387 h387 => ?_
          refine W_reg ?_
          simp [go_sem, ty3, ty4, markE_add, mvCore, nvCore, mvHart, nvHart]
          first | refine h387 _ ?_ | refine ⟨by omega, h387 _ ?_⟩ | refine ⟨by omega, by omega, h387 _ ?_⟩ | (repeat (refine ⟨by first | omega | grind, ?_⟩)); refine h387 _ ?_
          clear h387 K387
          refine W_cond rfl (fun hb388 => by first | (simp at hb388; done) | (simp at hb388; omega) | (simp at hb388; exact absurd hb388 (Int.not_lt.2 (markE_nn _ (by omega))))) fun hb388 => ?_
          clear hb388
          refine W_skip ?_
          first | refine h386 _ ?_ | refine ⟨by omega, h386 _ ?_⟩ | refine ⟨by omega, by omega, h386 _ ?_⟩ | (repeat (refine ⟨by first | omega | grind, ?_⟩)); refine h386 _ ?_
          clear h386 K386
          refine W_seqK fun K389 h389 => ?_
          refine W_reg ?_
          simp [go_sem, ty4, markE_add, mvCore, nvCore, mvHart, nvHart]
          first | refine h389 _ ?_ | refine ⟨by omega, h389 _ ?_⟩ | refine ⟨by omega, by omega, h389 _ ?_⟩ | (repeat (refine ⟨by first | omega | grind, ?_⟩)); refine h389 _ ?_
          clear h389 K389
          refine W_ret ?_
          simp [go_sem]
end Go.Tw
