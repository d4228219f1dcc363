/- Walks of functions: spec.l16Names, spec.InsText -/
import Derived.Test.YtgcjdkgddnnlpaaE7Q
import Derived.Test.YtgcjdkgddnnlpaaBaseG
import Derived.Test.YtgcjdkgddnnlpaaE6g2
set_option linter.unusedSimpArgs false
set_option linter.unusedVariables false
set_option linter.unnecessarySimpa false
namespace Go.Tw
open Go.Proofs

set_option maxRecDepth 100000 in
set_option maxHeartbeats 4000000 in
theorem pc_spec_l16Names   : PC Try.prog 97 [] [(false, [.sl 1 (enc eStr opNames)])] := by
  refine PC_of (n := 2) Try.func97 rfl rfl rfl rfl (by simp) ?_
  refine W_seqK fun K1 h1 => ?_
  refine W_reg ?_
  simp [go_sem, ty9, ty122]
  repeat refine ⟨by first | omega | grind, ?_⟩
  refine h1 _ ?_
  clear h1 K1
  refine W_seqK fun K2 h2 => ?_
  refine W_reg ?_
  simp [go_sem, ty9, ty122]
  repeat refine ⟨by first | omega | grind, ?_⟩
  refine h2 _ ?_
  clear h2 K2
  refine W_ret ?_
  simp [go_sem, opNames, enc, eStr]

set_option maxRecDepth 100000 in
set_option maxHeartbeats 4000000 in
theorem pc_spec_InsText (x : GIns)  : PC Try.prog 37 [(true, eIns x)] [(false, [.str (insText x)])] := by
  refine PC_of (n := 53) Try.func37 rfl rfl rfl rfl (by simp) ?_
  refine W_seqK fun K1 h1 => ?_
  refine W_reg ?_
  simp [go_sem, ty9, ty68]
  repeat refine ⟨by first | omega | grind, ?_⟩
  refine h1 _ ?_
  clear h1 K1
  refine W_seqK fun K2 h2 => ?_
  refine W_seqK fun K3 h3 => ?_
  refine W_reg ?_
  simp [go_sem, ty4, ty68]
  refine callG_pc (fun hG => pc_spec_InsOk x) (by first | (simp; done) | (simp [inR_iff]; done) | (simp [inR_iff]; grind) | grind) (fun hG => by simp [go_sem]) rfl rfl (by first | exact Or.inl rfl | exact Or.inr rfl) ?_
  simp [go_sem, ty4]
  repeat refine ⟨by first | omega | grind, ?_⟩
  refine h3 _ ?_
  clear h3 K3
  refine W_cond rfl (fun hb4 => ?_) fun hb4 => ?_
  · have q : insText x = ⟨#[]⟩ := if_neg (by simpa using hb4)
    clear hb4
    refine W_seqK fun K5 h5 => ?_
    refine W_reg ?_
    simp [go_sem, ty9]
    repeat refine ⟨by first | omega | grind, ?_⟩
    refine h5 _ ?_
    clear h5 K5
    refine W_ret ?_
    simp [go_sem, q]
  · have q : insOk x = true := by simpa using hb4
    obtain ⟨hop, ⟨r0, r1⟩, ⟨a0, a1⟩, ⟨b0, b1⟩, n0, n1⟩ := insOk_ops q
    have z32 : (⟨#[32]⟩ : ByteArray).size = 1 := rfl
    have z2 : (⟨#[32, 114]⟩ : ByteArray).size = 2 := rfl
    have z1 : (⟨#[114]⟩ : ByteArray).size = 1 := rfl
    have zo := opName_size x.op
    have zr := dgB_small (n := x.r.toNat) (by omega)
    have za := dgB_small (n := x.a.toNat) (by omega)
    have zb := dgB_small (n := x.b.toNat) (by omega)
    have zn := dgB_small (n := x.n.toNat) (by omega)
    clear hb4
    obtain ⟨hb1, hb2, hb3, hb4⟩ := bits_has hop
    obtain ⟨zP1, zP2, zP3, zP4⟩ := insP_size q
    have qq := insText_spec q
    obtain ⟨hkz, hkl2, hkl, hke⟩ := opNames_to hop
    refine W_skip ?_
    repeat refine ⟨by first | omega | grind, ?_⟩
    refine h2 _ ?_
    clear h2 K2
    refine W_seqK fun K6 h6 => ?_
    refine W_reg ?_
    simp [go_sem, ty3, ty68]
    refine callG_pc (fun hG => pc_spec_l8Has x.op) (by first | (simp; done) | (simp [inR_iff]; done) | (simp [inR_iff]; grind) | grind) (fun hG => by simp [go_sem]) rfl rfl (by first | exact Or.inl rfl | exact Or.inr rfl) ?_
    simp [go_sem, ty3]
    repeat refine ⟨by first | omega | grind, ?_⟩
    refine h6 _ ?_
    clear h6 K6
    refine W_seqK fun K7 h7 => ?_
    refine W_drawO true [1, 2, 0, 3, 4, 5] mixed (by decide +kernel) ?_
    simp [go_sem, ty3, ty9, ty68, ty122, hkl, hkz, hkl2, hke]
    refine callG_pc (fun hG => pc_spec_l16Names ) (by first | (simp; done) | (simp [inR_iff]; done) | (simp [inR_iff]; grind) | grind) (fun hG => by simp [go_sem]) rfl rfl (by first | exact Or.inl rfl | exact Or.inr rfl) ?_
    simp [go_sem, ty9, ty122, hkl, hkz, hkl2, hke]
    repeat refine ⟨by first | omega | grind, ?_⟩
    refine h7 _ ?_
    clear h7 K7
    refine W_seqK fun K8 h8 => ?_
    refine W_seqK fun K9 h9 => ?_
    refine W_reg ?_
    simp [go_sem, ty3, ty4]
    repeat refine ⟨by first | omega | grind, ?_⟩
    refine h9 _ ?_
    clear h9 K9
    refine W_cond rfl (fun hb10 => ?_) fun hb10 => ?_
    · have hh : hasR x.op = true := by rw [← hb1, ← bit1 (hasBits x.op)]; exact hb10
      have hP1 : insP1 x = opName x.op ++ ⟨#[32, 114]⟩ ++ dgB x.r.toNat := if_pos hh
      clear hb10
      refine W_reg ?_
      simp [go_sem, ty3, ty9, ty68, ba_size, z2]
      repeat (refine ⟨by omega, ?_⟩)
      refine callG_pc (fun hG => pc_spec_l16Digits x.r (by first | assumption | omega)) (by first | (simp; done) | (simp [inR_iff]; done) | (simp [inR_iff]; grind) | grind) (fun hG => by simp [go_sem]) rfl rfl (by first | exact Or.inl rfl | exact Or.inr rfl) ?_
      simp [go_sem, ty9, ba_size, z2]
      refine ⟨by omega, ?_⟩
      repeat refine ⟨by first | omega | grind, ?_⟩
      refine h8 _ ?_
      clear h8 K8
      refine W_seqK fun K11 h11 => ?_
      refine W_seqK fun K12 h12 => ?_
      refine W_reg ?_
      simp [go_sem, ty3, ty4]
      repeat refine ⟨by first | omega | grind, ?_⟩
      refine h12 _ ?_
      clear h12 K12
      refine W_cond rfl (fun hb13 => ?_) fun hb13 => ?_
      · have hh : hasA x.op = true := by rw [← hb2, ← bit2 (hasBits x.op)]; exact hb13
        have hP2 : insP2 x = insP1 x ++ ⟨#[32, 114]⟩ ++ dgB x.a.toNat := if_pos hh
        clear hb13
        refine W_reg ?_
        simp [go_sem, ty3, ty9, ty68, ba_size, z2]
        repeat (refine ⟨by omega, ?_⟩)
        refine callG_pc (fun hG => pc_spec_l16Digits x.a (by first | assumption | omega)) (by first | (simp; done) | (simp [inR_iff]; done) | (simp [inR_iff]; grind) | grind) (fun hG => by simp [go_sem]) rfl rfl (by first | exact Or.inl rfl | exact Or.inr rfl) ?_
        simp [go_sem, ty9, ba_size, z2]
        refine ⟨by omega, ?_⟩
        repeat refine ⟨by first | omega | grind, ?_⟩
        refine h11 _ ?_
        clear h11 K11
        refine W_seqK fun K14 h14 => ?_
        refine W_seqK fun K15 h15 => ?_
        refine W_reg ?_
        simp [go_sem, ty3, ty4]
        repeat refine ⟨by first | omega | grind, ?_⟩
        refine h15 _ ?_
        clear h15 K15
        refine W_cond rfl (fun hb16 => ?_) fun hb16 => ?_
        · have hh : hasB x.op = true := by rw [← hb3, ← bit4 (hasBits x.op)]; exact hb16
          have hP3 : insP3 x = insP2 x ++ ⟨#[32, 114]⟩ ++ dgB x.b.toNat := if_pos hh
          clear hb16
          refine W_reg ?_
          simp [go_sem, ty3, ty9, ty68, ba_size, z2]
          repeat (refine ⟨by omega, ?_⟩)
          refine callG_pc (fun hG => pc_spec_l16Digits x.b (by first | assumption | omega)) (by first | (simp; done) | (simp [inR_iff]; done) | (simp [inR_iff]; grind) | grind) (fun hG => by simp [go_sem]) rfl rfl (by first | exact Or.inl rfl | exact Or.inr rfl) ?_
          simp [go_sem, ty9, ba_size, z2]
          refine ⟨by omega, ?_⟩
          repeat refine ⟨by first | omega | grind, ?_⟩
          refine h14 _ ?_
          clear h14 K14
          refine W_seqK fun K17 h17 => ?_
          refine W_seqK fun K18 h18 => ?_
          refine W_reg ?_
          simp [go_sem, ty3, ty4]
          repeat refine ⟨by first | omega | grind, ?_⟩
          refine h18 _ ?_
          clear h18 K18
          refine W_cond rfl (fun hb19 => ?_) fun hb19 => ?_
          · have hh : hasN x.op = true := by rw [← hb4, ← bit8 (hasBits x.op)]; exact hb19
            have hP4 : insP4 x = insP3 x ++ ⟨#[32]⟩ ++ dgB x.n.toNat := if_pos hh
            clear hb19
            refine W_reg ?_
            simp [go_sem, ty3, ty9, ty68, ba_size, z32]
            repeat (refine ⟨by omega, ?_⟩)
            refine callG_pc (fun hG => pc_spec_l16Digits x.n (by first | assumption | omega)) (by first | (simp; done) | (simp [inR_iff]; done) | (simp [inR_iff]; grind) | grind) (fun hG => by simp [go_sem]) rfl rfl (by first | exact Or.inl rfl | exact Or.inr rfl) ?_
            simp [go_sem, ty9, ba_size, z32]
            refine ⟨by omega, ?_⟩
            repeat refine ⟨by first | omega | grind, ?_⟩
            refine h17 _ ?_
            clear h17 K17
            refine W_seqK fun K20 h20 => ?_
            refine W_reg ?_
            simp [go_sem, ty9]
            repeat refine ⟨by first | omega | grind, ?_⟩
            refine h20 _ ?_
            clear h20 K20
            refine W_ret ?_
            have e := qq
            first | rw [hP4, hP3, hP2, hP1] at e | rw [hP4] at e
            simp [go_sem, e]
          · have hh : hasN x.op = false := by rw [← hb4, ← bit8 (hasBits x.op)]; exact hb19
            have hP4 : insP4 x = insP3 x := if_neg (by rw [hh]; decide)
            clear hb19
            refine W_skip ?_
            repeat refine ⟨by first | omega | grind, ?_⟩
            refine h17 _ ?_
            clear h17 K17
            refine W_seqK fun K21 h21 => ?_
            refine W_reg ?_
            simp [go_sem, ty9]
            repeat refine ⟨by first | omega | grind, ?_⟩
            refine h21 _ ?_
            clear h21 K21
            refine W_ret ?_
            have e := qq
            first | rw [hP4, hP3, hP2, hP1] at e | rw [hP4] at e
            simp [go_sem, e]
        · have hh : hasB x.op = false := by rw [← hb3, ← bit4 (hasBits x.op)]; exact hb16
          have hP3 : insP3 x = insP2 x := if_neg (by rw [hh]; decide)
          clear hb16
          refine W_skip ?_
          repeat refine ⟨by first | omega | grind, ?_⟩
          refine h14 _ ?_
          clear h14 K14
          refine W_seqK fun K22 h22 => ?_
          refine W_seqK fun K23 h23 => ?_
          refine W_reg ?_
          simp [go_sem, ty3, ty4]
          repeat refine ⟨by first | omega | grind, ?_⟩
          refine h23 _ ?_
          clear h23 K23
          refine W_cond rfl (fun hb24 => ?_) fun hb24 => ?_
          · have hh : hasN x.op = true := by rw [← hb4, ← bit8 (hasBits x.op)]; exact hb24
            have hP4 : insP4 x = insP3 x ++ ⟨#[32]⟩ ++ dgB x.n.toNat := if_pos hh
            clear hb24
            refine W_reg ?_
            simp [go_sem, ty3, ty9, ty68, ba_size, z32]
            repeat (refine ⟨by omega, ?_⟩)
            refine callG_pc (fun hG => pc_spec_l16Digits x.n (by first | assumption | omega)) (by first | (simp; done) | (simp [inR_iff]; done) | (simp [inR_iff]; grind) | grind) (fun hG => by simp [go_sem]) rfl rfl (by first | exact Or.inl rfl | exact Or.inr rfl) ?_
            simp [go_sem, ty9, ba_size, z32]
            refine ⟨by omega, ?_⟩
            repeat refine ⟨by first | omega | grind, ?_⟩
            refine h22 _ ?_
            clear h22 K22
            refine W_seqK fun K25 h25 => ?_
            refine W_reg ?_
            simp [go_sem, ty9]
            repeat refine ⟨by first | omega | grind, ?_⟩
            refine h25 _ ?_
            clear h25 K25
            refine W_ret ?_
            have e := qq
            first | rw [hP4, hP3, hP2, hP1] at e | rw [hP4] at e
            simp [go_sem, e]
          · have hh : hasN x.op = false := by rw [← hb4, ← bit8 (hasBits x.op)]; exact hb24
            have hP4 : insP4 x = insP3 x := if_neg (by rw [hh]; decide)
            clear hb24
            refine W_skip ?_
            repeat refine ⟨by first | omega | grind, ?_⟩
            refine h22 _ ?_
            clear h22 K22
            refine W_seqK fun K26 h26 => ?_
            refine W_reg ?_
            simp [go_sem, ty9]
            repeat refine ⟨by first | omega | grind, ?_⟩
            refine h26 _ ?_
            clear h26 K26
            refine W_ret ?_
            have e := qq
            first | rw [hP4, hP3, hP2, hP1] at e | rw [hP4] at e
            simp [go_sem, e]
      · have hh : hasA x.op = false := by rw [← hb2, ← bit2 (hasBits x.op)]; exact hb13
        have hP2 : insP2 x = insP1 x := if_neg (by rw [hh]; decide)
        clear hb13
        refine W_skip ?_
        repeat refine ⟨by first | omega | grind, ?_⟩
        refine h11 _ ?_
        clear h11 K11
        refine W_seqK fun K27 h27 => ?_
        refine W_seqK fun K28 h28 => ?_
        refine W_reg ?_
        simp [go_sem, ty3, ty4]
        repeat refine ⟨by first | omega | grind, ?_⟩
        refine h28 _ ?_
        clear h28 K28
        refine W_cond rfl (fun hb29 => ?_) fun hb29 => ?_
        · have hh : hasB x.op = true := by rw [← hb3, ← bit4 (hasBits x.op)]; exact hb29
          have hP3 : insP3 x = insP2 x ++ ⟨#[32, 114]⟩ ++ dgB x.b.toNat := if_pos hh
          clear hb29
          refine W_reg ?_
          simp [go_sem, ty3, ty9, ty68, ba_size, z2]
          repeat (refine ⟨by omega, ?_⟩)
          refine callG_pc (fun hG => pc_spec_l16Digits x.b (by first | assumption | omega)) (by first | (simp; done) | (simp [inR_iff]; done) | (simp [inR_iff]; grind) | grind) (fun hG => by simp [go_sem]) rfl rfl (by first | exact Or.inl rfl | exact Or.inr rfl) ?_
          simp [go_sem, ty9, ba_size, z2]
          refine ⟨by omega, ?_⟩
          repeat refine ⟨by first | omega | grind, ?_⟩
          refine h27 _ ?_
          clear h27 K27
          refine W_seqK fun K30 h30 => ?_
          refine W_seqK fun K31 h31 => ?_
          refine W_reg ?_
          simp [go_sem, ty3, ty4]
          repeat refine ⟨by first | omega | grind, ?_⟩
          refine h31 _ ?_
          clear h31 K31
          refine W_cond rfl (fun hb32 => ?_) fun hb32 => ?_
          · have hh : hasN x.op = true := by rw [← hb4, ← bit8 (hasBits x.op)]; exact hb32
            have hP4 : insP4 x = insP3 x ++ ⟨#[32]⟩ ++ dgB x.n.toNat := if_pos hh
            clear hb32
            refine W_reg ?_
            simp [go_sem, ty3, ty9, ty68, ba_size, z32]
            repeat (refine ⟨by omega, ?_⟩)
            refine callG_pc (fun hG => pc_spec_l16Digits x.n (by first | assumption | omega)) (by first | (simp; done) | (simp [inR_iff]; done) | (simp [inR_iff]; grind) | grind) (fun hG => by simp [go_sem]) rfl rfl (by first | exact Or.inl rfl | exact Or.inr rfl) ?_
            simp [go_sem, ty9, ba_size, z32]
            refine ⟨by omega, ?_⟩
            repeat refine ⟨by first | omega | grind, ?_⟩
            refine h30 _ ?_
            clear h30 K30
            refine W_seqK fun K33 h33 => ?_
            refine W_reg ?_
            simp [go_sem, ty9]
            repeat refine ⟨by first | omega | grind, ?_⟩
            refine h33 _ ?_
            clear h33 K33
            refine W_ret ?_
            have e := qq
            first | rw [hP4, hP3, hP2, hP1] at e | rw [hP4] at e
            simp [go_sem, e]
          · have hh : hasN x.op = false := by rw [← hb4, ← bit8 (hasBits x.op)]; exact hb32
            have hP4 : insP4 x = insP3 x := if_neg (by rw [hh]; decide)
            clear hb32
            refine W_skip ?_
            repeat refine ⟨by first | omega | grind, ?_⟩
            refine h30 _ ?_
            clear h30 K30
            refine W_seqK fun K34 h34 => ?_
            refine W_reg ?_
            simp [go_sem, ty9]
            repeat refine ⟨by first | omega | grind, ?_⟩
            refine h34 _ ?_
            clear h34 K34
            refine W_ret ?_
            have e := qq
            first | rw [hP4, hP3, hP2, hP1] at e | rw [hP4] at e
            simp [go_sem, e]
        · have hh : hasB x.op = false := by rw [← hb3, ← bit4 (hasBits x.op)]; exact hb29
          have hP3 : insP3 x = insP2 x := if_neg (by rw [hh]; decide)
          clear hb29
          refine W_skip ?_
          repeat refine ⟨by first | omega | grind, ?_⟩
          refine h27 _ ?_
          clear h27 K27
          refine W_seqK fun K35 h35 => ?_
          refine W_seqK fun K36 h36 => ?_
          refine W_reg ?_
          simp [go_sem, ty3, ty4]
          repeat refine ⟨by first | omega | grind, ?_⟩
          refine h36 _ ?_
          clear h36 K36
          refine W_cond rfl (fun hb37 => ?_) fun hb37 => ?_
          · have hh : hasN x.op = true := by rw [← hb4, ← bit8 (hasBits x.op)]; exact hb37
            have hP4 : insP4 x = insP3 x ++ ⟨#[32]⟩ ++ dgB x.n.toNat := if_pos hh
            clear hb37
            refine W_reg ?_
            simp [go_sem, ty3, ty9, ty68, ba_size, z32]
            repeat (refine ⟨by omega, ?_⟩)
            refine callG_pc (fun hG => pc_spec_l16Digits x.n (by first | assumption | omega)) (by first | (simp; done) | (simp [inR_iff]; done) | (simp [inR_iff]; grind) | grind) (fun hG => by simp [go_sem]) rfl rfl (by first | exact Or.inl rfl | exact Or.inr rfl) ?_
            simp [go_sem, ty9, ba_size, z32]
            refine ⟨by omega, ?_⟩
            repeat refine ⟨by first | omega | grind, ?_⟩
            refine h35 _ ?_
            clear h35 K35
            refine W_seqK fun K38 h38 => ?_
            refine W_reg ?_
            simp [go_sem, ty9]
            repeat refine ⟨by first | omega | grind, ?_⟩
            refine h38 _ ?_
            clear h38 K38
            refine W_ret ?_
            have e := qq
            first | rw [hP4, hP3, hP2, hP1] at e | rw [hP4] at e
            simp [go_sem, e]
          · have hh : hasN x.op = false := by rw [← hb4, ← bit8 (hasBits x.op)]; exact hb37
            have hP4 : insP4 x = insP3 x := if_neg (by rw [hh]; decide)
            clear hb37
            refine W_skip ?_
            repeat refine ⟨by first | omega | grind, ?_⟩
            refine h35 _ ?_
            clear h35 K35
            refine W_seqK fun K39 h39 => ?_
            refine W_reg ?_
            simp [go_sem, ty9]
            repeat refine ⟨by first | omega | grind, ?_⟩
            refine h39 _ ?_
            clear h39 K39
            refine W_ret ?_
            have e := qq
            first | rw [hP4, hP3, hP2, hP1] at e | rw [hP4] at e
            simp [go_sem, e]
    · have hh : hasR x.op = false := by rw [← hb1, ← bit1 (hasBits x.op)]; exact hb10
      have hP1 : insP1 x = opName x.op := if_neg (by rw [hh]; decide)
      clear hb10
      refine W_skip ?_
      repeat refine ⟨by first | omega | grind, ?_⟩
      refine h8 _ ?_
      clear h8 K8
      refine W_seqK fun K40 h40 => ?_
      refine W_seqK fun K41 h41 => ?_
      refine W_reg ?_
      simp [go_sem, ty3, ty4]
      repeat refine ⟨by first | omega | grind, ?_⟩
      refine h41 _ ?_
      clear h41 K41
      refine W_cond rfl (fun hb42 => ?_) fun hb42 => ?_
      · have hh : hasA x.op = true := by rw [← hb2, ← bit2 (hasBits x.op)]; exact hb42
        have hP2 : insP2 x = insP1 x ++ ⟨#[32, 114]⟩ ++ dgB x.a.toNat := if_pos hh
        clear hb42
        refine W_reg ?_
        simp [go_sem, ty3, ty9, ty68, ba_size, z2]
        repeat (refine ⟨by omega, ?_⟩)
        refine callG_pc (fun hG => pc_spec_l16Digits x.a (by first | assumption | omega)) (by first | (simp; done) | (simp [inR_iff]; done) | (simp [inR_iff]; grind) | grind) (fun hG => by simp [go_sem]) rfl rfl (by first | exact Or.inl rfl | exact Or.inr rfl) ?_
        simp [go_sem, ty9, ba_size, z2]
        refine ⟨by omega, ?_⟩
        repeat refine ⟨by first | omega | grind, ?_⟩
        refine h40 _ ?_
        clear h40 K40
        refine W_seqK fun K43 h43 => ?_
        refine W_seqK fun K44 h44 => ?_
        refine W_reg ?_
        simp [go_sem, ty3, ty4]
        repeat refine ⟨by first | omega | grind, ?_⟩
        refine h44 _ ?_
        clear h44 K44
        refine W_cond rfl (fun hb45 => ?_) fun hb45 => ?_
        · have hh : hasB x.op = true := by rw [← hb3, ← bit4 (hasBits x.op)]; exact hb45
          have hP3 : insP3 x = insP2 x ++ ⟨#[32, 114]⟩ ++ dgB x.b.toNat := if_pos hh
          clear hb45
          refine W_reg ?_
          simp [go_sem, ty3, ty9, ty68, ba_size, z2]
          repeat (refine ⟨by omega, ?_⟩)
          refine callG_pc (fun hG => pc_spec_l16Digits x.b (by first | assumption | omega)) (by first | (simp; done) | (simp [inR_iff]; done) | (simp [inR_iff]; grind) | grind) (fun hG => by simp [go_sem]) rfl rfl (by first | exact Or.inl rfl | exact Or.inr rfl) ?_
          simp [go_sem, ty9, ba_size, z2]
          refine ⟨by omega, ?_⟩
          repeat refine ⟨by first | omega | grind, ?_⟩
          refine h43 _ ?_
          clear h43 K43
          refine W_seqK fun K46 h46 => ?_
          refine W_seqK fun K47 h47 => ?_
          refine W_reg ?_
          simp [go_sem, ty3, ty4]
          repeat refine ⟨by first | omega | grind, ?_⟩
          refine h47 _ ?_
          clear h47 K47
          refine W_cond rfl (fun hb48 => ?_) fun hb48 => ?_
          · have hh : hasN x.op = true := by rw [← hb4, ← bit8 (hasBits x.op)]; exact hb48
            have hP4 : insP4 x = insP3 x ++ ⟨#[32]⟩ ++ dgB x.n.toNat := if_pos hh
            clear hb48
            refine W_reg ?_
            simp [go_sem, ty3, ty9, ty68, ba_size, z32]
            repeat (refine ⟨by omega, ?_⟩)
            refine callG_pc (fun hG => pc_spec_l16Digits x.n (by first | assumption | omega)) (by first | (simp; done) | (simp [inR_iff]; done) | (simp [inR_iff]; grind) | grind) (fun hG => by simp [go_sem]) rfl rfl (by first | exact Or.inl rfl | exact Or.inr rfl) ?_
            simp [go_sem, ty9, ba_size, z32]
            refine ⟨by omega, ?_⟩
            repeat refine ⟨by first | omega | grind, ?_⟩
            refine h46 _ ?_
            clear h46 K46
            refine W_seqK fun K49 h49 => ?_
            refine W_reg ?_
            simp [go_sem, ty9]
            repeat refine ⟨by first | omega | grind, ?_⟩
            refine h49 _ ?_
            clear h49 K49
            refine W_ret ?_
            have e := qq
            first | rw [hP4, hP3, hP2, hP1] at e | rw [hP4] at e
            simp [go_sem, e]
          · have hh : hasN x.op = false := by rw [← hb4, ← bit8 (hasBits x.op)]; exact hb48
            have hP4 : insP4 x = insP3 x := if_neg (by rw [hh]; decide)
            clear hb48
            refine W_skip ?_
            repeat refine ⟨by first | omega | grind, ?_⟩
            refine h46 _ ?_
            clear h46 K46
            refine W_seqK fun K50 h50 => ?_
            refine W_reg ?_
            simp [go_sem, ty9]
            repeat refine ⟨by first | omega | grind, ?_⟩
            refine h50 _ ?_
            clear h50 K50
            refine W_ret ?_
            have e := qq
            first | rw [hP4, hP3, hP2, hP1] at e | rw [hP4] at e
            simp [go_sem, e]
        · have hh : hasB x.op = false := by rw [← hb3, ← bit4 (hasBits x.op)]; exact hb45
          have hP3 : insP3 x = insP2 x := if_neg (by rw [hh]; decide)
          clear hb45
          refine W_skip ?_
          repeat refine ⟨by first | omega | grind, ?_⟩
          refine h43 _ ?_
          clear h43 K43
          refine W_seqK fun K51 h51 => ?_
          refine W_seqK fun K52 h52 => ?_
          refine W_reg ?_
          simp [go_sem, ty3, ty4]
          repeat refine ⟨by first | omega | grind, ?_⟩
          refine h52 _ ?_
          clear h52 K52
          refine W_cond rfl (fun hb53 => ?_) fun hb53 => ?_
          · have hh : hasN x.op = true := by rw [← hb4, ← bit8 (hasBits x.op)]; exact hb53
            have hP4 : insP4 x = insP3 x ++ ⟨#[32]⟩ ++ dgB x.n.toNat := if_pos hh
            clear hb53
            refine W_reg ?_
            simp [go_sem, ty3, ty9, ty68, ba_size, z32]
            repeat (refine ⟨by omega, ?_⟩)
            refine callG_pc (fun hG => pc_spec_l16Digits x.n (by first | assumption | omega)) (by first | (simp; done) | (simp [inR_iff]; done) | (simp [inR_iff]; grind) | grind) (fun hG => by simp [go_sem]) rfl rfl (by first | exact Or.inl rfl | exact Or.inr rfl) ?_
            simp [go_sem, ty9, ba_size, z32]
            refine ⟨by omega, ?_⟩
            repeat refine ⟨by first | omega | grind, ?_⟩
            refine h51 _ ?_
            clear h51 K51
            refine W_seqK fun K54 h54 => ?_
            refine W_reg ?_
            simp [go_sem, ty9]
            repeat refine ⟨by first | omega | grind, ?_⟩
            refine h54 _ ?_
            clear h54 K54
            refine W_ret ?_
            have e := qq
            first | rw [hP4, hP3, hP2, hP1] at e | rw [hP4] at e
            simp [go_sem, e]
          · have hh : hasN x.op = false := by rw [← hb4, ← bit8 (hasBits x.op)]; exact hb53
            have hP4 : insP4 x = insP3 x := if_neg (by rw [hh]; decide)
            clear hb53
            refine W_skip ?_
            repeat refine ⟨by first | omega | grind, ?_⟩
            refine h51 _ ?_
            clear h51 K51
            refine W_seqK fun K55 h55 => ?_
            refine W_reg ?_
            simp [go_sem, ty9]
            repeat refine ⟨by first | omega | grind, ?_⟩
            refine h55 _ ?_
            clear h55 K55
            refine W_ret ?_
            have e := qq
            first | rw [hP4, hP3, hP2, hP1] at e | rw [hP4] at e
            simp [go_sem, e]
      · have hh : hasA x.op = false := by rw [← hb2, ← bit2 (hasBits x.op)]; exact hb42
        have hP2 : insP2 x = insP1 x := if_neg (by rw [hh]; decide)
        clear hb42
        refine W_skip ?_
        repeat refine ⟨by first | omega | grind, ?_⟩
        refine h40 _ ?_
        clear h40 K40
        refine W_seqK fun K56 h56 => ?_
        refine W_seqK fun K57 h57 => ?_
        refine W_reg ?_
        simp [go_sem, ty3, ty4]
        repeat refine ⟨by first | omega | grind, ?_⟩
        refine h57 _ ?_
        clear h57 K57
        refine W_cond rfl (fun hb58 => ?_) fun hb58 => ?_
        · have hh : hasB x.op = true := by rw [← hb3, ← bit4 (hasBits x.op)]; exact hb58
          have hP3 : insP3 x = insP2 x ++ ⟨#[32, 114]⟩ ++ dgB x.b.toNat := if_pos hh
          clear hb58
          refine W_reg ?_
          simp [go_sem, ty3, ty9, ty68, ba_size, z2]
          repeat (refine ⟨by omega, ?_⟩)
          refine callG_pc (fun hG => pc_spec_l16Digits x.b (by first | assumption | omega)) (by first | (simp; done) | (simp [inR_iff]; done) | (simp [inR_iff]; grind) | grind) (fun hG => by simp [go_sem]) rfl rfl (by first | exact Or.inl rfl | exact Or.inr rfl) ?_
          simp [go_sem, ty9, ba_size, z2]
          refine ⟨by omega, ?_⟩
          repeat refine ⟨by first | omega | grind, ?_⟩
          refine h56 _ ?_
          clear h56 K56
          refine W_seqK fun K59 h59 => ?_
          refine W_seqK fun K60 h60 => ?_
          refine W_reg ?_
          simp [go_sem, ty3, ty4]
          repeat refine ⟨by first | omega | grind, ?_⟩
          refine h60 _ ?_
          clear h60 K60
          refine W_cond rfl (fun hb61 => ?_) fun hb61 => ?_
          · have hh : hasN x.op = true := by rw [← hb4, ← bit8 (hasBits x.op)]; exact hb61
            have hP4 : insP4 x = insP3 x ++ ⟨#[32]⟩ ++ dgB x.n.toNat := if_pos hh
            clear hb61
            refine W_reg ?_
            simp [go_sem, ty3, ty9, ty68, ba_size, z32]
            repeat (refine ⟨by omega, ?_⟩)
            refine callG_pc (fun hG => pc_spec_l16Digits x.n (by first | assumption | omega)) (by first | (simp; done) | (simp [inR_iff]; done) | (simp [inR_iff]; grind) | grind) (fun hG => by simp [go_sem]) rfl rfl (by first | exact Or.inl rfl | exact Or.inr rfl) ?_
            simp [go_sem, ty9, ba_size, z32]
            refine ⟨by omega, ?_⟩
            repeat refine ⟨by first | omega | grind, ?_⟩
            refine h59 _ ?_
            clear h59 K59
            refine W_seqK fun K62 h62 => ?_
            refine W_reg ?_
            simp [go_sem, ty9]
            repeat refine ⟨by first | omega | grind, ?_⟩
            refine h62 _ ?_
            clear h62 K62
            refine W_ret ?_
            have e := qq
            first | rw [hP4, hP3, hP2, hP1] at e | rw [hP4] at e
            simp [go_sem, e]
          · have hh : hasN x.op = false := by rw [← hb4, ← bit8 (hasBits x.op)]; exact hb61
            have hP4 : insP4 x = insP3 x := if_neg (by rw [hh]; decide)
            clear hb61
            refine W_skip ?_
            repeat refine ⟨by first | omega | grind, ?_⟩
            refine h59 _ ?_
            clear h59 K59
            refine W_seqK fun K63 h63 => ?_
            refine W_reg ?_
            simp [go_sem, ty9]
            repeat refine ⟨by first | omega | grind, ?_⟩
            refine h63 _ ?_
            clear h63 K63
            refine W_ret ?_
            have e := qq
            first | rw [hP4, hP3, hP2, hP1] at e | rw [hP4] at e
            simp [go_sem, e]
        · have hh : hasB x.op = false := by rw [← hb3, ← bit4 (hasBits x.op)]; exact hb58
          have hP3 : insP3 x = insP2 x := if_neg (by rw [hh]; decide)
          clear hb58
          refine W_skip ?_
          repeat refine ⟨by first | omega | grind, ?_⟩
          refine h56 _ ?_
          clear h56 K56
          refine W_seqK fun K64 h64 => ?_
          refine W_seqK fun K65 h65 => ?_
          refine W_reg ?_
          simp [go_sem, ty3, ty4]
          repeat refine ⟨by first | omega | grind, ?_⟩
          refine h65 _ ?_
          clear h65 K65
          refine W_cond rfl (fun hb66 => ?_) fun hb66 => ?_
          · have hh : hasN x.op = true := by rw [← hb4, ← bit8 (hasBits x.op)]; exact hb66
            have hP4 : insP4 x = insP3 x ++ ⟨#[32]⟩ ++ dgB x.n.toNat := if_pos hh
            clear hb66
            refine W_reg ?_
            simp [go_sem, ty3, ty9, ty68, ba_size, z32]
            repeat (refine ⟨by omega, ?_⟩)
            refine callG_pc (fun hG => pc_spec_l16Digits x.n (by first | assumption | omega)) (by first | (simp; done) | (simp [inR_iff]; done) | (simp [inR_iff]; grind) | grind) (fun hG => by simp [go_sem]) rfl rfl (by first | exact Or.inl rfl | exact Or.inr rfl) ?_
            simp [go_sem, ty9, ba_size, z32]
            refine ⟨by omega, ?_⟩
            repeat refine ⟨by first | omega | grind, ?_⟩
            refine h64 _ ?_
            clear h64 K64
            refine W_seqK fun K67 h67 => ?_
            refine W_reg ?_
            simp [go_sem, ty9]
            repeat refine ⟨by first | omega | grind, ?_⟩
            refine h67 _ ?_
            clear h67 K67
            refine W_ret ?_
            have e := qq
            first | rw [hP4, hP3, hP2, hP1] at e | rw [hP4] at e
            simp [go_sem, e]
          · have hh : hasN x.op = false := by rw [← hb4, ← bit8 (hasBits x.op)]; exact hb66
            have hP4 : insP4 x = insP3 x := if_neg (by rw [hh]; decide)
            clear hb66
            refine W_skip ?_
            repeat refine ⟨by first | omega | grind, ?_⟩
            refine h64 _ ?_
            clear h64 K64
            refine W_seqK fun K68 h68 => ?_
            refine W_reg ?_
            simp [go_sem, ty9]
            repeat refine ⟨by first | omega | grind, ?_⟩
            refine h68 _ ?_
            clear h68 K68
            refine W_ret ?_
            have e := qq
            first | rw [hP4, hP3, hP2, hP1] at e | rw [hP4] at e
            simp [go_sem, e]
end Go.Tw
