/- Walks of functions: spec.l18DrawTrace -/
import Derived.Test.YtgcjdkgddnnlpaaE8A
import Derived.Test.YtgcjdkgddnnlpaaE8v
import Derived.Test.YtgcjdkgddnnlpaaBaseG
set_option linter.unusedSimpArgs false
set_option linter.unusedVariables false
set_option linter.unnecessarySimpa false
namespace Go.Tw
open Go.Proofs

set_option maxRecDepth 100000 in
set_option maxHeartbeats 4000000 in
theorem pd_spec_l18DrawTrace (cs : List Int) (hcs : cs.length ≤ 1048576)   : PD Try.prog 116 (enc eU cs) [] (fun (x : List Int × List GEvent) => x.1.length = 24 ∧ x.2.length ≤ 2000 ∧ ∀ a ∈ x.2, a.ok) (fun (x : List Int × List GEvent) => [(false, [.sl 1 (enc eI x.1)]), (false, [.sl 5 (enc eEvent x.2)])]) := by
  refine PD_of (n := 66) Try.func116 rfl rfl rfl rfl (by simp) fun a0 ci ch hci => ?_
  refine W_seqK fun K1 h1 => ?_
  refine W_reg ?_
  simp [go_sem, ty3, ty22, ty41, ty54]
  repeat refine ⟨by first | omega | grind, ?_⟩
  refine h1 _ ?_
  clear h1 K1
  refine W_seqK fun K2 h2 => ?_
  refine W_reg ?_
  simp [go_sem, ty3]
  refine callG_true (by simp) (CallW_draw (pd_spec_l18DrawRun cs hcs 24 (by first | first | omega | (simp; done) | (simp; done) | (simp; omega))) rfl rfl (by simp [go_sem]) hci (by simp [go_sem]) _ (fun _ => rfl) rfl ?_)
  rintro i3 g3 hi3 ⟨m3, hs3, o3⟩ hq3
  try dsimp only at hq3
  simp [go_sem, ty2, ty3, ty22, ty61, ty73]
  repeat refine ⟨by first | omega | grind, ?_⟩
  refine h2 _ ?_
  clear h2 K2
  refine W_seqK fun K4 h4 => ?_
  refine W_reg ?_
  simp [go_sem, ty3, ty22, ty41, ty54, ty61, ty73]
  refine callG_pc (fun hG => pc_spec_Trace m3 hs3 o3 (by omega) (by omega) (by exact fun a ha => by have := hq3.2.2.2.1 a ha; omega) (by omega)) (by first | (simp; done) | (simp [inR_iff]; done) | (simp [inR_iff]; grind) | grind) (fun hG => by simp [go_sem]) rfl rfl (by first | exact Or.inl rfl | exact Or.inr rfl) ?_
  simp [go_sem, ty41, ty54]
  repeat refine ⟨by first | omega | grind, ?_⟩
  refine h4 _ ?_
  clear h4 K4
  refine W_seqK fun K5 h5 => ?_
  refine W_seqK fun K6 h6 => ?_
  refine W_reg ?_
  simp [go_sem, ty3, ty4, ty41, ty54]
  refine callG_draw (fun hG => pd_spec_l1Once cs hcs 4) (by first | (simp; done) | grind) rfl rfl (by simp [go_sem]) hi3 (fun hG => by simp [go_sem]) _ (fun _ => rfl) rfl (fun _ => rfl) ?_
  rintro i7 g7 hi7 b7 hq7
  simp [go_sem, ty4]
  repeat refine ⟨by first | omega | grind, ?_⟩
  refine h6 _ ?_
  clear h6 K6
  refine W_cond rfl (fun hb8 => ?_) fun hb8 => ?_
  · have hnn : 0 < (trace m3 hs3 o3).length := by simp at hb8; omega
    clear hb8
    refine W_seqK fun K9 h9 => ?_
    refine W_reg ?_
    simp [go_sem, ty3, ty41, ty54]
    refine callG_true (by simp) (CallW_draw (pd_spec_l1Below cs hcs ((trace m3 hs3 o3).length : Int)) rfl rfl (by simp [go_sem]) hi7 (by simp [go_sem]) _ (fun _ => rfl) rfl ?_)
    rintro i10 g10 hi10 x10 hq10
    try dsimp only at hq10
    have hix : x10.toNat < (trace m3 hs3 o3).length := by have := hq10; omega
    have hix0 : (0 : Int) ≤ x10 := by have := hq10; omega
    have hix1 : x10 < ((trace m3 hs3 o3).length : Int) := by have := hq10; omega
    simp [go_sem, ty41, ty54, hix, hix0, hix1]
    repeat refine ⟨by first | omega | grind, ?_⟩
    refine h9 _ ?_
    clear h9 K9
    refine W_seqK fun K11 h11 => ?_
    refine W_reg ?_
    simp [go_sem, ty3]
    refine callG_true (by simp) (CallW_draw (pd_spec_l1Below cs hcs 4) rfl rfl (by simp [go_sem]) hi10 (by simp [go_sem]) _ (fun _ => rfl) rfl ?_)
    rintro i12 g12 hi12 x12 hq12
    try dsimp only at hq12
    simp [go_sem]
    repeat refine ⟨by first | omega | grind, ?_⟩
    refine h11 _ ?_
    clear h11 K11
    refine W_block ?_
    refine W_seqK fun K13 h13 => ?_
    refine W_reg ?_
    simp [go_sem, ty3, ty4]
    repeat refine ⟨by first | omega | grind, ?_⟩
    refine h13 _ ?_
    clear h13 K13
    refine W_cond rfl (fun hb14 => ?_) fun hb14 => ?_
    · clear hb14
      refine W_reg ?_
      simp [go_sem, ty3]
      refine callG_true (by simp) (CallW_draw (pd_spec_l1Below cs hcs 9) rfl rfl (by simp [go_sem]) hi12 (by simp [go_sem]) _ (fun _ => rfl) rfl ?_)
      rintro i15 g15 hi15 x15 hq15
      try dsimp only at hq15
      simp [go_sem, ty3, ty54]
      repeat refine ⟨by first | omega | grind, ?_⟩
      refine h5 _ ?_
      clear h5 K5
      refine W_seqK fun K16 h16 => ?_
      refine W_reg ?_
      simp [go_sem, ty3, ty22, ty41, ty54]
      repeat refine ⟨by first | omega | grind, ?_⟩
      refine h16 _ ?_
      clear h16 K16
      refine W_ret ?_
      refine OutD_in (⟨m3, ((trace m3 hs3 o3).set x10.toNat (⟨((trace m3 hs3 o3)[x10.toNat]).who, ((trace m3 hs3 o3)[x10.toNat]).pc, ((trace m3 hs3 o3)[x10.toNat]).at_, (IntKind.wrap .i64 (x15 - 1)), ((trace m3 hs3 o3)[x10.toNat]).put⟩ : GEvent))⟩) (by dsimp only; refine ⟨hq3.1, by have := trace_len m3 hs3 o3; simp; omega, oks_set (trace_oks (by omega)) ?_⟩; (have h9 := trace_oks (m := m3) (hs := hs3) (order := o3) (by omega) _ (List.getElem_mem hix)); unfold GEvent.ok at h9 ⊢; have w9 := wrap64_range (x15 - 1); (have w8 := hq15); try simp at w8; simp only at h9 ⊢; omega) ⟨_, _, _, _, _, _, _, rfl, rfl, rfl, rfl, rfl, by simp [go_sem], hi15⟩ ?_
      simp [go_sem, hnn, hix]
    · clear hb14
      refine W_seqK fun K17 h17 => ?_
      refine W_reg ?_
      simp [go_sem, ty3, ty4]
      repeat refine ⟨by first | omega | grind, ?_⟩
      refine h17 _ ?_
      clear h17 K17
      refine W_cond rfl (fun hb18 => ?_) fun hb18 => ?_
      · clear hb18
        refine W_reg ?_
        simp [go_sem, ty3]
        refine callG_true (by simp) (CallW_draw (pd_spec_l1Below cs hcs 9) rfl rfl (by simp [go_sem]) hi12 (by simp [go_sem]) _ (fun _ => rfl) rfl ?_)
        rintro i19 g19 hi19 x19 hq19
        try dsimp only at hq19
        simp [go_sem, ty3, ty54]
        repeat refine ⟨by first | omega | grind, ?_⟩
        refine h5 _ ?_
        clear h5 K5
        refine W_seqK fun K20 h20 => ?_
        refine W_reg ?_
        simp [go_sem, ty3, ty22, ty41, ty54]
        repeat refine ⟨by first | omega | grind, ?_⟩
        refine h20 _ ?_
        clear h20 K20
        refine W_ret ?_
        refine OutD_in (⟨m3, ((trace m3 hs3 o3).set x10.toNat (⟨((trace m3 hs3 o3)[x10.toNat]).who, ((trace m3 hs3 o3)[x10.toNat]).pc, ((trace m3 hs3 o3)[x10.toNat]).at_, ((trace m3 hs3 o3)[x10.toNat]).got, (IntKind.wrap .i64 (x19 - 1))⟩ : GEvent))⟩) (by dsimp only; refine ⟨hq3.1, by have := trace_len m3 hs3 o3; simp; omega, oks_set (trace_oks (by omega)) ?_⟩; (have h9 := trace_oks (m := m3) (hs := hs3) (order := o3) (by omega) _ (List.getElem_mem hix)); unfold GEvent.ok at h9 ⊢; have w9 := wrap64_range (x19 - 1); (have w8 := hq19); try simp at w8; simp only at h9 ⊢; omega) ⟨_, _, _, _, _, _, _, rfl, rfl, rfl, rfl, rfl, by simp [go_sem], hi19⟩ ?_
        simp [go_sem, hnn, hix]
      · clear hb18
        refine W_seqK fun K21 h21 => ?_
        refine W_reg ?_
        simp [go_sem, ty3, ty4]
        repeat refine ⟨by first | omega | grind, ?_⟩
        refine h21 _ ?_
        clear h21 K21
        refine W_cond rfl (fun hb22 => ?_) fun hb22 => ?_
        · clear hb22
          refine W_reg ?_
          simp [go_sem, ty3, ty22]
          refine callG_true (by simp) (CallW_draw (pd_spec_l1PickInt cs hcs ([(-1), 3, 24]) (by first | first | omega | (simp; done) | (simp; done) | (simp; omega)) (by first | first | omega | (simp; done) | (simp; done) | (simp; omega))) rfl rfl (by simp [go_sem]) hi12 (by simp [go_sem, enc, eI]) _ (fun _ => rfl) rfl ?_)
          rintro i23 g23 hi23 x23 hq23
          try dsimp only at hq23
          simp [go_sem, ty3, ty54]
          repeat refine ⟨by first | omega | grind, ?_⟩
          refine h5 _ ?_
          clear h5 K5
          refine W_seqK fun K24 h24 => ?_
          refine W_reg ?_
          simp [go_sem, ty3, ty22, ty41, ty54]
          repeat refine ⟨by first | omega | grind, ?_⟩
          refine h24 _ ?_
          clear h24 K24
          refine W_ret ?_
          refine OutD_in (⟨m3, ((trace m3 hs3 o3).set x10.toNat (⟨((trace m3 hs3 o3)[x10.toNat]).who, ((trace m3 hs3 o3)[x10.toNat]).pc, x23, ((trace m3 hs3 o3)[x10.toNat]).got, ((trace m3 hs3 o3)[x10.toNat]).put⟩ : GEvent))⟩) (by dsimp only; refine ⟨hq3.1, by have := trace_len m3 hs3 o3; simp; omega, oks_set (trace_oks (by omega)) ?_⟩; (have h9 := trace_oks (m := m3) (hs := hs3) (order := o3) (by omega) _ (List.getElem_mem hix)); unfold GEvent.ok at h9 ⊢; have w9 := wrap64_range (x23 - 1); (have w8 := hq23); try simp at w8; simp only at h9 ⊢; omega) ⟨_, _, _, _, _, _, _, rfl, rfl, rfl, rfl, rfl, by simp [go_sem], hi23⟩ ?_
          simp [go_sem, hnn, hix]
        · clear hb22
          refine W_reg ?_
          simp [go_sem, ty3]
          refine callG_true (by simp) (CallW_draw (pd_spec_l1Below cs hcs 4) rfl rfl (by simp [go_sem]) hi12 (by simp [go_sem]) _ (fun _ => rfl) rfl ?_)
          rintro i25 g25 hi25 x25 hq25
          try dsimp only at hq25
          simp [go_sem, ty3, ty54]
          repeat refine ⟨by first | omega | grind, ?_⟩
          refine h5 _ ?_
          clear h5 K5
          refine W_seqK fun K26 h26 => ?_
          refine W_reg ?_
          simp [go_sem, ty3, ty22, ty41, ty54]
          repeat refine ⟨by first | omega | grind, ?_⟩
          refine h26 _ ?_
          clear h26 K26
          refine W_ret ?_
          refine OutD_in (⟨m3, ((trace m3 hs3 o3).set x10.toNat (⟨(IntKind.wrap .i64 (x25 - 1)), ((trace m3 hs3 o3)[x10.toNat]).pc, ((trace m3 hs3 o3)[x10.toNat]).at_, ((trace m3 hs3 o3)[x10.toNat]).got, ((trace m3 hs3 o3)[x10.toNat]).put⟩ : GEvent))⟩) (by dsimp only; refine ⟨hq3.1, by have := trace_len m3 hs3 o3; simp; omega, oks_set (trace_oks (by omega)) ?_⟩; (have h9 := trace_oks (m := m3) (hs := hs3) (order := o3) (by omega) _ (List.getElem_mem hix)); unfold GEvent.ok at h9 ⊢; have w9 := wrap64_range (x25 - 1); (have w8 := hq25); try simp at w8; simp only at h9 ⊢; omega) ⟨_, _, _, _, _, _, _, rfl, rfl, rfl, rfl, rfl, by simp [go_sem], hi25⟩ ?_
          simp [go_sem, hnn, hix]
  · clear hb8
    refine W_skip ?_
    repeat refine ⟨by first | omega | grind, ?_⟩
    refine h5 _ ?_
    clear h5 K5
    refine W_seqK fun K27 h27 => ?_
    refine W_reg ?_
    simp [go_sem, ty3, ty22, ty41, ty54]
    repeat refine ⟨by first | omega | grind, ?_⟩
    refine h27 _ ?_
    clear h27 K27
    refine W_ret ?_
    refine OutD_in (⟨m3, trace m3 hs3 o3⟩) (by dsimp only; exact ⟨hq3.1, by have := trace_len m3 hs3 o3; omega, trace_oks (by omega)⟩) ⟨_, _, _, _, _, _, _, rfl, rfl, rfl, rfl, rfl, by simp [go_sem], hi7⟩ ?_
    simp [go_sem, hq3]
end Go.Tw
