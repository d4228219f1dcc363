/- Walks of functions: spec.l10Draw -/
import Derived.Test.YtfjoibkopjdomaaE6G
import Derived.Test.YtfjoibkopjdomaaE6H
set_option linter.unusedSimpArgs false
set_option linter.unusedVariables false
set_option linter.unnecessarySimpa false
namespace Go.Tw
open Go.Proofs

set_option maxRecDepth 100000 in
set_option maxHeartbeats 4000000 in
theorem pd_spec_l10Draw (cs : List Int) (hcs : cs.length ≤ 1048576)   : PD Try.prog 111 (enc eU cs) [] (fun (x : GBlock) => x.few) (fun (x : GBlock) => [(true, eBlock x)]) := by
  refine PD_of (n := 50) Try.func111 rfl rfl rfl rfl (by simp) fun a0 ci ch hci => ?_
  refine W_seqK fun K1 h1 => ?_
  refine W_reg ?_
  simp [go_sem, ty62]
  first | refine h1 _ ?_ | refine ⟨by omega, h1 _ ?_⟩ | refine ⟨by omega, by omega, h1 _ ?_⟩ | (repeat (refine ⟨by first | omega | grind, ?_⟩)); refine h1 _ ?_
  clear h1 K1
  refine W_seqK fun K2 h2 => ?_
  refine W_reg ?_
  simp [go_sem, ty3, ty24]
  refine callG_true (by simp) (CallW_draw (pd_spec_l9DrawMem cs hcs ) rfl rfl (by simp [go_sem]) hci (by simp [go_sem]) _ (fun _ => rfl) rfl ?_)
  rintro i3 g3 hi3 xs3 hq3
  try dsimp only at hq3
  simp [go_sem, ty3, ty24]
  first | refine h2 _ ?_ | refine ⟨by omega, h2 _ ?_⟩ | refine ⟨by omega, by omega, h2 _ ?_⟩ | (repeat (refine ⟨by first | omega | grind, ?_⟩)); refine h2 _ ?_
  clear h2 K2
  refine W_seqK fun K4 h4 => ?_
  refine W_reg ?_
  simp [go_sem, ty3]
  refine callG_true (by simp) (CallW_draw (pd_spec_l1Below cs hcs 24) rfl rfl (by simp [go_sem]) hi3 (by simp [go_sem]) _ (fun _ => rfl) rfl ?_)
  rintro i5 g5 hi5 x5 hq5
  try dsimp only at hq5
  simp [go_sem, ty3]
  first | refine h4 _ ?_ | refine ⟨by omega, h4 _ ?_⟩ | refine ⟨by omega, by omega, h4 _ ?_⟩ | (repeat (refine ⟨by first | omega | grind, ?_⟩)); refine h4 _ ?_
  clear h4 K4
  refine W_seqK fun K6 h6 => ?_
  refine W_reg ?_
  obtain ⟨pg, hpg, hpl⟩ : ∃ pg : Nat, (x5).tdiv 4 = (pg : Int) ∧ pg ≤ 5 := ⟨(x5 / 4).toNat, by rw [tdiv_pos (by omega)]; omega, by omega⟩
  have hw0 : IntKind.wrap .i64 (pg : Int) = (pg : Int) := wrap_ok (by omega) (by omega)
  have hw1 : IntKind.wrap .i64 ((pg : Int) * 4) = (pg : Int) * 4 := wrap_ok (by omega) (by omega)
  have hw2 : IntKind.wrap .i64 ((pg : Int) * 4 + 4) = (pg : Int) * 4 + 4 := wrap_ok (by omega) (by omega)
  have hs1 : (0 : Int) ≤ (pg : Int) * 4 := by omega
  have hs2 : (pg : Int) * 4 ≤ (pg : Int) * 4 + 4 := by omega
  have hs3 : (pg : Int) * 4 + 4 ≤ (xs3.length : Int) := by omega
  have ht1 : ((pg : Int) * 4).toNat = pg * 4 := by omega
  have ht2 : ((pg : Int) * 4 + 4).toNat = pg * 4 + 4 := by omega
  have ht3 : pg * 4 + 4 - pg * 4 = 4 := by omega
  have hs4 : pg * 4 + 4 ≤ xs3.length := by omega
  have hs5 : (0 : Int) ≤ (pg : Int) * 4 + 4 := by omega
  have hbf : (blockOf ((xs3.drop (pg * 4)).take 4) x5).list.length ≤ 4 := blockOf_len (by simp; omega)
  have hbp := blockOf_pos (ws := (xs3.drop (pg * 4)).take 4) (s := x5) (by simp; omega) (by omega) (by omega)
  have hbg : (blockOf ((xs3.drop (pg * 4)).take 4) x5).list[0]?.getD ⟨0, 0, 0, 0, 0⟩ = (blockOf ((xs3.drop (pg * 4)).take 4) x5).list[0] := by rw [List.getElem?_eq_getElem (by omega)]; rfl
  simp [go_sem, ty3, hpg, hw0]
  first | refine h6 _ ?_ | refine ⟨by omega, h6 _ ?_⟩ | refine ⟨by omega, by omega, h6 _ ?_⟩ | (repeat (refine ⟨by first | omega | grind, ?_⟩)); refine h6 _ ?_
  clear h6 K6
  refine W_seqK fun K7 h7 => ?_
  refine W_reg ?_
  simp [go_sem, ty3, ty24, ty62, hw0, hw1, hw2, hs1, hs2, hs3, ht1, ht2, ht3, hs4, hs5]
  refine callG_pc (fun hG => pc_spec_BlockOf ((xs3.drop (pg * 4)).take 4) x5 (by simp; omega)) (by first | (simp; done) | (simp [inR_iff]; done) | (simp [inR_iff]; grind) | grind) (fun hG => by simp [go_sem, hw0, hw1, hw2, hs1, hs2, hs3, ht1, ht2, ht3, hs4, hs5]) rfl rfl (by first | exact Or.inl rfl | exact Or.inr rfl) ?_
  simp [go_sem, ty62, hw0, hw1, hw2, hs1, hs2, hs3, ht1, ht2, ht3, hs4, hs5]
  first | refine h7 _ ?_ | refine ⟨by omega, h7 _ ?_⟩ | refine ⟨by omega, by omega, h7 _ ?_⟩ | (repeat (refine ⟨by first | omega | grind, ?_⟩)); refine h7 _ ?_
  clear h7 K7
  refine W_seqK fun K8 h8 => ?_
  refine W_seqK fun K9 h9 => ?_
  refine W_reg ?_
  simp [go_sem, ty3]
  refine callG_true (by simp) (CallW_draw (pd_spec_l1Below cs hcs 12) rfl rfl (by simp [go_sem]) hi5 (by simp [go_sem]) _ (fun _ => rfl) rfl ?_)
  rintro i10 g10 hi10 x10 hq10
  try dsimp only at hq10
  simp [go_sem]
  first | refine h9 _ ?_ | refine ⟨by omega, h9 _ ?_⟩ | refine ⟨by omega, by omega, h9 _ ?_⟩ | (repeat (refine ⟨by first | omega | grind, ?_⟩)); refine h9 _ ?_
  clear h9 K9
  refine W_block ?_
  refine W_seqK fun K11 h11 => ?_
  refine W_reg ?_
  simp [go_sem, ty3, ty4]
  first | refine h11 _ ?_ | refine ⟨by omega, h11 _ ?_⟩ | refine ⟨by omega, by omega, h11 _ ?_⟩ | (repeat (refine ⟨by first | omega | grind, ?_⟩)); refine h11 _ ?_
  clear h11 K11
  refine W_cond rfl (fun hb12 => ?_) fun hb12 => ?_
  · clear hb12
    refine W_reg ?_
    simp [go_sem, ty3, ty24]
    refine callG_true (by simp) (CallW_draw (pd_spec_l1PickInt cs hcs ([(-1), 23, 24]) (by first | omega | (simp; done) | (simp; omega)) (by first | omega | (simp; done) | (simp; omega))) rfl rfl (by simp [go_sem]) hi10 (by simp [go_sem, enc, eI]) _ (fun _ => rfl) rfl ?_)
    rintro i13 g13 hi13 x13 hq13
    try dsimp only at hq13
    simp [go_sem, ty3, ty62]
    first | refine h8 _ ?_ | refine ⟨by omega, h8 _ ?_⟩ | refine ⟨by omega, by omega, h8 _ ?_⟩ | (repeat (refine ⟨by first | omega | grind, ?_⟩)); refine h8 _ ?_
    clear h8 K8
    refine W_seqK fun K14 h14 => ?_
    refine W_reg ?_
    simp [go_sem, ty62]
    first | refine h14 _ ?_ | refine ⟨by omega, h14 _ ?_⟩ | refine ⟨by omega, by omega, h14 _ ?_⟩ | (repeat (refine ⟨by first | omega | grind, ?_⟩)); refine h14 _ ?_
    clear h14 K14
    refine W_ret ?_
    refine OutD_in (⟨x13, (blockOf ((xs3.drop (pg * 4)).take 4) x5).list⟩ : GBlock) (by unfold GBlock.few; first | omega | (dsimp only; omega) | (simp; done) | (simp; omega)) ⟨_, _, _, _, _, _, _, rfl, rfl, rfl, rfl, rfl, by simp [go_sem], hi13⟩ ?_
    simp [go_sem, ty62, hbg]
  · clear hb12
    refine W_seqK fun K15 h15 => ?_
    refine W_reg ?_
    simp [go_sem, ty3, ty4]
    first | refine h15 _ ?_ | refine ⟨by omega, h15 _ ?_⟩ | refine ⟨by omega, by omega, h15 _ ?_⟩ | (repeat (refine ⟨by first | omega | grind, ?_⟩)); refine h15 _ ?_
    clear h15 K15
    refine W_cond rfl (fun hb16 => ?_) fun hb16 => ?_
    · clear hb16
      refine W_reg ?_
      simp [go_sem, ty60, ty62, ty69]
      first | refine h8 _ ?_ | refine ⟨by omega, h8 _ ?_⟩ | refine ⟨by omega, by omega, h8 _ ?_⟩ | (repeat (refine ⟨by first | omega | grind, ?_⟩)); refine h8 _ ?_
      clear h8 K8
      refine W_seqK fun K17 h17 => ?_
      refine W_reg ?_
      simp [go_sem, ty62]
      first | refine h17 _ ?_ | refine ⟨by omega, h17 _ ?_⟩ | refine ⟨by omega, by omega, h17 _ ?_⟩ | (repeat (refine ⟨by first | omega | grind, ?_⟩)); refine h17 _ ?_
      clear h17 K17
      refine W_ret ?_
      refine OutD_in (⟨(blockOf ((xs3.drop (pg * 4)).take 4) x5).start, []⟩ : GBlock) (by unfold GBlock.few; first | omega | (dsimp only; omega) | (simp; done) | (simp; omega)) ⟨_, _, _, _, _, _, _, rfl, rfl, rfl, rfl, rfl, by simp [go_sem], hi10⟩ ?_
      simp [go_sem, ty62, hbg]
    · clear hb16
      refine W_seqK fun K18 h18 => ?_
      refine W_reg ?_
      simp [go_sem, ty3, ty4]
      first | refine h18 _ ?_ | refine ⟨by omega, h18 _ ?_⟩ | refine ⟨by omega, by omega, h18 _ ?_⟩ | (repeat (refine ⟨by first | omega | grind, ?_⟩)); refine h18 _ ?_
      clear h18 K18
      refine W_cond rfl (fun hb19 => ?_) fun hb19 => ?_
      · clear hb19
        refine W_reg ?_
        simp [go_sem, ty60, ty62, ty69, fw69]
        first | refine h8 _ ?_ | refine ⟨by omega, h8 _ ?_⟩ | refine ⟨by omega, by omega, h8 _ ?_⟩ | (repeat (refine ⟨by first | omega | grind, ?_⟩)); refine h8 _ ?_
        clear h8 K8
        refine W_seqK fun K20 h20 => ?_
        refine W_reg ?_
        simp [go_sem, ty62]
        first | refine h20 _ ?_ | refine ⟨by omega, h20 _ ?_⟩ | refine ⟨by omega, by omega, h20 _ ?_⟩ | (repeat (refine ⟨by first | omega | grind, ?_⟩)); refine h20 _ ?_
        clear h20 K20
        refine W_ret ?_
        refine OutD_in (⟨(blockOf ((xs3.drop (pg * 4)).take 4) x5).start, (((blockOf ((xs3.drop (pg * 4)).take 4) x5).list) ++ ([(⟨9, 0, 0, 0, 0⟩ : GIns)]))⟩ : GBlock) (by unfold GBlock.few; first | omega | (dsimp only; omega) | (simp; done) | (simp; omega)) ⟨_, _, _, _, _, _, _, rfl, rfl, rfl, rfl, rfl, by simp [go_sem], hi10⟩ ?_
        simp [go_sem, ty62, hbg]
      · clear hb19
        refine W_seqK fun K21 h21 => ?_
        refine W_reg ?_
        simp [go_sem, ty3, ty4]
        first | refine h21 _ ?_ | refine ⟨by omega, h21 _ ?_⟩ | refine ⟨by omega, by omega, h21 _ ?_⟩ | (repeat (refine ⟨by first | omega | grind, ?_⟩)); refine h21 _ ?_
        clear h21 K21
        refine W_cond rfl (fun hb22 => ?_) fun hb22 => ?_
        · clear hb22
          refine W_drawS false (.op 0 (.op 2 (.fork 1 (.op 3 (.op 4 (.op 5 (.op 6 .nil)))) 3 (.op 1 (.op 4 (.op 5 (.op 6 .nil))))))) mixed (by decide +kernel) rfl ?_
          simp (config := {maxSteps := 10000000}) [go_sem, ty62, hbp, hbg]
          refine ⟨?_, ?_⟩
          · try simp (config := {maxSteps := 10000000}) [go_sem, ty3, ty60, ty69, hbp, hbg]
            refine callG_true (by simp) (CallW_draw (pd_spec_l1Below cs hcs 12) rfl rfl (by simp [go_sem]) hi10 (by simp [go_sem]) _ (fun _ => rfl) rfl ?_)
            rintro i23 g23 hi23 x23 hq23
            try dsimp only at hq23
            simp (config := {maxSteps := 10000000}) [go_sem, ty3, ty60, ty69, hbp, hbg, hbp, hbg]
            first | refine h8 _ ?_ | refine ⟨by omega, h8 _ ?_⟩ | refine ⟨by omega, by omega, h8 _ ?_⟩ | (repeat (refine ⟨by first | omega | grind, ?_⟩)); refine h8 _ ?_
            clear h8 K8
            refine W_seqK fun K24 h24 => ?_
            refine W_reg ?_
            simp [go_sem, ty62]
            first | refine h24 _ ?_ | refine ⟨by omega, h24 _ ?_⟩ | refine ⟨by omega, by omega, h24 _ ?_⟩ | (repeat (refine ⟨by first | omega | grind, ?_⟩)); refine h24 _ ?_
            clear h24 K24
            refine W_ret ?_
            refine OutD_in (⟨(blockOf ((xs3.drop (pg * 4)).take 4) x5).start, (((blockOf ((xs3.drop (pg * 4)).take 4) x5).list).set 0 (⟨x23, (((blockOf ((xs3.drop (pg * 4)).take 4) x5).list)[0]).r, (((blockOf ((xs3.drop (pg * 4)).take 4) x5).list)[0]).a, (((blockOf ((xs3.drop (pg * 4)).take 4) x5).list)[0]).b, (((blockOf ((xs3.drop (pg * 4)).take 4) x5).list)[0]).n⟩ : GIns))⟩ : GBlock) (by unfold GBlock.few; first | omega | (dsimp only; omega) | (simp; done) | (simp; omega)) ⟨_, _, _, _, _, _, _, rfl, rfl, rfl, rfl, rfl, by simp [go_sem], hi23⟩ ?_
            simp [go_sem, ty62, hbg]
          · try simp (config := {maxSteps := 10000000}) [go_sem, ty3, hbp, hbg, hbp, hbg]
            refine callG_true (by simp) (CallW_draw (pd_spec_l1Below cs hcs 12) rfl rfl (by simp [go_sem]) hi10 (by simp [go_sem]) _ (fun _ => rfl) rfl ?_)
            rintro i25 g25 hi25 x25 hq25
            try dsimp only at hq25
            simp (config := {maxSteps := 10000000}) [go_sem, ty3, ty60, ty69, hbp, hbg, hbp, hbg, hbp, hbg]
            first | refine h8 _ ?_ | refine ⟨by omega, h8 _ ?_⟩ | refine ⟨by omega, by omega, h8 _ ?_⟩ | (repeat (refine ⟨by first | omega | grind, ?_⟩)); refine h8 _ ?_
            clear h8 K8
            refine W_seqK fun K26 h26 => ?_
            refine W_reg ?_
            simp [go_sem, ty62]
            first | refine h26 _ ?_ | refine ⟨by omega, h26 _ ?_⟩ | refine ⟨by omega, by omega, h26 _ ?_⟩ | (repeat (refine ⟨by first | omega | grind, ?_⟩)); refine h26 _ ?_
            clear h26 K26
            refine W_ret ?_
            refine OutD_in (⟨(blockOf ((xs3.drop (pg * 4)).take 4) x5).start, (((blockOf ((xs3.drop (pg * 4)).take 4) x5).list).set 0 (⟨x25, (((blockOf ((xs3.drop (pg * 4)).take 4) x5).list)[0]).r, (((blockOf ((xs3.drop (pg * 4)).take 4) x5).list)[0]).a, (((blockOf ((xs3.drop (pg * 4)).take 4) x5).list)[0]).b, (((blockOf ((xs3.drop (pg * 4)).take 4) x5).list)[0]).n⟩ : GIns))⟩ : GBlock) (by unfold GBlock.few; first | omega | (dsimp only; omega) | (simp; done) | (simp; omega)) ⟨_, _, _, _, _, _, _, rfl, rfl, rfl, rfl, rfl, by simp [go_sem], hi25⟩ ?_
            simp [go_sem, ty62, hbg]
        · clear hb22
          refine W_skip ?_
          first | refine h8 _ ?_ | refine ⟨by omega, h8 _ ?_⟩ | refine ⟨by omega, by omega, h8 _ ?_⟩ | (repeat (refine ⟨by first | omega | grind, ?_⟩)); refine h8 _ ?_
          clear h8 K8
          refine W_seqK fun K27 h27 => ?_
          refine W_reg ?_
          simp [go_sem, ty62]
          first | refine h27 _ ?_ | refine ⟨by omega, h27 _ ?_⟩ | refine ⟨by omega, by omega, h27 _ ?_⟩ | (repeat (refine ⟨by first | omega | grind, ?_⟩)); refine h27 _ ?_
          clear h27 K27
          refine W_ret ?_
          refine OutD_in (blockOf ((xs3.drop (pg * 4)).take 4) x5) (by unfold GBlock.few; first | omega | (dsimp only; omega) | (simp; done) | (simp; omega)) ⟨_, _, _, _, _, _, _, rfl, rfl, rfl, rfl, rfl, by simp [go_sem], hi10⟩ ?_
          simp [go_sem, ty62, hbg]
end Go.Tw
