/- Walks of functions: spec.DrawRedo, spec.DrawTraceOk, spec.DrawEventText, spec.DrawTrace, spec.DrawEventOf -/
import Derived.Test.YtgcjdkgddnnlpaaE8B
import Derived.Test.YtgcjdkgddnnlpaaE8o
set_option linter.unusedSimpArgs false
set_option linter.unusedVariables false
set_option linter.unnecessarySimpa false
namespace Go.Tw
open Go.Proofs

set_option maxRecDepth 100000 in
set_option maxHeartbeats 4000000 in
theorem pe_spec_DrawRedo (code : List Int) (hcs : code.length ≤ 1048576) : PE Try.prog 47 [(false, [.sl 1 (enc eU code)])] (fun (x : List Int × List GEvent) => x.1.length = 24 ∧ x.2.length ≤ 2000 ∧ ∀ a ∈ x.2, a.ok) (fun (x : List Int × List GEvent) => [(false, [.sl 1 (enc eI x.1)]), (false, [.sl 5 (enc eEvent x.2)])]) := by
  refine PE_of (n := 14) Try.func47 rfl rfl rfl rfl (by simp) ?_
  refine W_seqK fun K1 h1 => ?_
  refine W_reg ?_
  simp [go_sem, ty3, ty22, ty41, ty54]
  repeat refine ⟨by first | omega | grind, ?_⟩
  refine h1 _ ?_
  clear h1 K1
  refine W_seqK fun K2 h2 => ?_
  refine W_reg ?_
  simp [go_sem, ty5, ty71]
  refine callG_true (by simp) (CallW_new (pnew_spec_l1New code hcs) rfl (by simp [go_sem]) rfl fun g3 => ?_)
  simp [go_sem]
  refine callG_true (by simp) (CallW_draw (pd_spec_l18DrawTrace code hcs ) rfl rfl (by simp [go_sem]) (Int.le_refl 0) (by simp [go_sem]) _ (fun _ => rfl) rfl ?_)
  rintro i4 g4 hi4 ⟨m4, es4⟩ hq4
  try dsimp only at hq4
  simp [go_sem, ty3, ty22, ty41, ty54]
  repeat refine ⟨by first | omega | grind, ?_⟩
  refine h2 _ ?_
  clear h2 K2
  refine W_seqK fun K5 h5 => ?_
  refine W_reg ?_
  simp [go_sem, ty3, ty22, ty41, ty54]
  repeat refine ⟨by first | omega | grind, ?_⟩
  refine h5 _ ?_
  clear h5 K5
  refine W_ret ?_
  refine OutE_in (⟨m4, es4⟩) (by (try dsimp only); exact hq4) ?_
  simp [go_sem]

set_option maxRecDepth 100000 in
set_option maxHeartbeats 4000000 in
theorem pe_spec_DrawTraceOk (code : List Int) (hcs : code.length ≤ 1048576) : PE Try.prog 48 [(false, [.sl 1 (enc eU code)])] (fun (x : List Int × List GEvent) => x.1.length = 24 ∧ x.2.length ≤ 2000 ∧ ∀ a ∈ x.2, a.ok) (fun (x : List Int × List GEvent) => [(false, [.sl 1 (enc eI x.1)]), (false, [.sl 5 (enc eEvent x.2)])]) := by
  refine PE_of (n := 14) Try.func48 rfl rfl rfl rfl (by simp) ?_
  refine W_seqK fun K1 h1 => ?_
  refine W_reg ?_
  simp [go_sem, ty3, ty22, ty41, ty54]
  repeat refine ⟨by first | omega | grind, ?_⟩
  refine h1 _ ?_
  clear h1 K1
  refine W_seqK fun K2 h2 => ?_
  refine W_reg ?_
  simp [go_sem, ty5, ty71]
  refine callG_true (by simp) (CallW_new (pnew_spec_l1New code hcs) rfl (by simp [go_sem]) rfl fun g3 => ?_)
  simp [go_sem]
  refine callG_true (by simp) (CallW_draw (pd_spec_l18DrawTrace code hcs ) rfl rfl (by simp [go_sem]) (Int.le_refl 0) (by simp [go_sem]) _ (fun _ => rfl) rfl ?_)
  rintro i4 g4 hi4 ⟨m4, es4⟩ hq4
  try dsimp only at hq4
  simp [go_sem, ty3, ty22, ty41, ty54]
  repeat refine ⟨by first | omega | grind, ?_⟩
  refine h2 _ ?_
  clear h2 K2
  refine W_seqK fun K5 h5 => ?_
  refine W_reg ?_
  simp [go_sem, ty3, ty22, ty41, ty54]
  repeat refine ⟨by first | omega | grind, ?_⟩
  refine h5 _ ?_
  clear h5 K5
  refine W_ret ?_
  refine OutE_in (⟨m4, es4⟩) (by (try dsimp only); exact hq4) ?_
  simp [go_sem]

set_option maxRecDepth 100000 in
set_option maxHeartbeats 4000000 in
theorem pe_spec_DrawEventText (code : List Int) (hcs : code.length ≤ 1048576) : PE Try.prog 49 [(false, [.sl 1 (enc eU code)])] (fun (x : GEvent) => x.ok) (fun (x : GEvent) => [(true, eEvent x)]) := by
  refine PE_of (n := 18) Try.func49 rfl rfl rfl rfl (by simp) ?_
  refine W_seqK fun K1 h1 => ?_
  refine W_reg ?_
  simp [go_sem, ty54]
  repeat refine ⟨by first | omega | grind, ?_⟩
  refine h1 _ ?_
  clear h1 K1
  refine W_seqK fun K2 h2 => ?_
  refine W_reg ?_
  simp [go_sem, ty5, ty71]
  refine callG_true (by simp) (CallW_new (pnew_spec_l1New code hcs) rfl (by simp [go_sem]) rfl fun g3 => ?_)
  simp [go_sem]
  refine callG_true (by simp) (CallW_draw (pd_spec_l18DrawTrace code hcs ) rfl rfl (by simp [go_sem]) (Int.le_refl 0) (by simp [go_sem]) _ (fun _ => rfl) rfl ?_)
  rintro i4 g4 hi4 ⟨m4, es4⟩ hq4
  try dsimp only at hq4
  simp [go_sem, ty3, ty22, ty41, ty54]
  repeat refine ⟨by first | omega | grind, ?_⟩
  refine h2 _ ?_
  clear h2 K2
  refine W_seqK fun K5 h5 => ?_
  refine W_seqK fun K6 h6 => ?_
  refine W_reg ?_
  simp [go_sem, ty3, ty4, ty41, ty54]
  repeat refine ⟨by first | omega | grind, ?_⟩
  refine h6 _ ?_
  clear h6 K6
  refine W_cond rfl (fun hb7 => ?_) fun hb7 => ?_
  · clear hb7
    refine W_seqK fun K8 h8 => ?_
    refine W_reg ?_
    simp [go_sem, ty54, fw54]
    repeat refine ⟨by first | omega | grind, ?_⟩
    refine h8 _ ?_
    clear h8 K8
    refine W_ret ?_
    refine OutE_in (⟨0, 0, (-1), (-1), (-1)⟩ : GEvent) (by (try dsimp only); first | (unfold GEvent.ok; simp; done) | exact hq4.2.2 _ (List.getElem_mem _)) ?_
    simp [go_sem, ty54, hq4]
  · have hz : 0 < es4.length := by simp at hb7; first | omega | exact List.length_pos_iff.2 hb7
    clear hb7
    refine W_skip ?_
    repeat refine ⟨by first | omega | grind, ?_⟩
    refine h5 _ ?_
    clear h5 K5
    refine W_seqK fun K9 h9 => ?_
    refine W_reg ?_
    simp [go_sem, ty41, ty54, hz]
    repeat refine ⟨by first | omega | grind, ?_⟩
    refine h9 _ ?_
    clear h9 K9
    refine W_ret ?_
    refine OutE_in es4[0] (by (try dsimp only); first | (unfold GEvent.ok; simp; done) | exact hq4.2.2 _ (List.getElem_mem _)) ?_
    simp [go_sem, ty54, hz]

set_option maxRecDepth 100000 in
set_option maxHeartbeats 4000000 in
theorem pe_spec_DrawTrace (code : List Int) (hcs : code.length ≤ 1048576) : PE Try.prog 41 [(false, [.sl 1 (enc eU code)])] (fun (x : List Int × List GHart × List Int) => x.1.length ≤ 24 ∧ x.2.1.length ≤ 3 ∧ (∀ a ∈ x.2.1, a.regs.length ≤ 4) ∧ x.2.2.length ≤ 2001) (fun (x : List Int × List GHart × List Int) => [(false, [.sl 1 (enc eI x.1)]), (false, [.sl 3 (enc eHart x.2.1)]), (false, [.sl 1 (enc eI x.2.2)])]) := by
  refine PE_of (n := 17) Try.func41 rfl rfl rfl rfl (by simp) ?_
  refine W_seqK fun K1 h1 => ?_
  refine W_reg ?_
  simp [go_sem, ty3, ty22, ty61, ty73]
  repeat refine ⟨by first | omega | grind, ?_⟩
  refine h1 _ ?_
  clear h1 K1
  refine W_seqK fun K2 h2 => ?_
  refine W_reg ?_
  simp [go_sem, ty5, ty71]
  refine callG_true (by simp) (CallW_E (pe_spec_DrawFlatRun code (by first | omega | (simp; done) | (simp; omega))) (by simp [go_sem]) _ (fun _ => rfl) rfl ?_)
  rintro ⟨m3, hs3, o3⟩ hq3
  try dsimp only at hq3
  simp [go_sem, ty2, ty3, ty22, ty61, ty73]
  repeat refine ⟨by first | omega | grind, ?_⟩
  refine h2 _ ?_
  clear h2 K2
  refine W_seqK fun K4 h4 => ?_
  refine W_reg ?_
  simp [go_sem, ty3, ty22, ty61, ty73]
  repeat refine ⟨by first | omega | grind, ?_⟩
  refine h4 _ ?_
  clear h4 K4
  refine W_ret ?_
  refine OutE_in (⟨m3, hs3, o3⟩) (by (try dsimp only); exact hq3) ?_
  simp [go_sem]

set_option maxRecDepth 100000 in
set_option maxHeartbeats 4000000 in
theorem pe_spec_DrawEventOf (code : List Int) (hcs : code.length ≤ 1048576) : PE Try.prog 44 [(false, [.sl 1 (enc eU code)])] (fun (x : List Int × GHart × Int) => x.1.length ≤ 24 ∧ x.2.1.regs.length ≤ 4) (fun (x : List Int × GHart × Int) => [(false, [.sl 1 (enc eI x.1)]), (true, eHart x.2.1), (false, [.int .i64 x.2.2])]) := by
  refine PE_of (n := 22) Try.func44 rfl rfl rfl rfl (by simp) ?_
  refine W_seqK fun K1 h1 => ?_
  refine W_reg ?_
  simp [go_sem, ty3, ty22, ty61]
  repeat refine ⟨by first | omega | grind, ?_⟩
  refine h1 _ ?_
  clear h1 K1
  refine W_seqK fun K2 h2 => ?_
  refine W_reg ?_
  simp [go_sem, ty5, ty71]
  refine callG_true (by simp) (CallW_new (pnew_spec_l1New code hcs) rfl (by simp [go_sem]) rfl fun g3 => ?_)
  simp [go_sem]
  repeat refine ⟨by first | omega | grind, ?_⟩
  refine h2 _ ?_
  clear h2 K2
  refine W_seqK fun K4 h4 => ?_
  refine W_reg ?_
  simp [go_sem, ty3, ty22]
  refine callG_true (by simp) (CallW_draw (pd_spec_l9DrawMem code hcs ) rfl rfl (by simp [go_sem]) (Int.le_refl 0) (by simp [go_sem]) _ (fun _ => rfl) rfl ?_)
  rintro i5 g5 hi5 xs5 hq5
  try dsimp only at hq5
  simp [go_sem, ty3, ty22]
  repeat refine ⟨by first | omega | grind, ?_⟩
  refine h4 _ ?_
  clear h4 K4
  refine W_seqK fun K6 h6 => ?_
  refine W_reg ?_
  simp [go_sem, ty61]
  refine callG_true (by simp) (CallW_draw (pd_spec_l9DrawHart code hcs ) rfl rfl (by simp [go_sem]) hi5 (by simp [go_sem]) _ (fun _ => rfl) rfl ?_)
  rintro i7 g7 hi7 h7 hq7
  try dsimp only at hq7
  simp [go_sem, ty61]
  repeat refine ⟨by first | omega | grind, ?_⟩
  refine h6 _ ?_
  clear h6 K6
  refine W_seqK fun K8 h8 => ?_
  refine W_seqK fun K9 h9 => ?_
  refine W_reg ?_
  simp [go_sem, ty3, ty4]
  refine callG_true (by simp) (CallW_draw (pd_spec_l1Once code hcs 12) rfl rfl (by simp [go_sem]) hi7 (by simp [go_sem]) _ (fun _ => rfl) rfl ?_)
  rintro i10 g10 hi10 b10 hq10
  simp [go_sem]
  repeat refine ⟨by first | omega | grind, ?_⟩
  refine h9 _ ?_
  clear h9 K9
  refine W_cond rfl (fun hb11 => ?_) fun hb11 => ?_
  · clear hb11
    refine W_reg ?_
    simp [go_sem, ty3, ty22]
    repeat refine ⟨by first | omega | grind, ?_⟩
    refine h8 _ ?_
    clear h8 K8
    refine W_seqK fun K12 h12 => ?_
    refine W_drawS false (.op 0 (.op 2 (.fork 1 (.op 3 (.op 4 (.op 5 (.op 6 .nil)))) 3 (.op 1 (.op 4 (.op 5 (.op 6 .nil))))))) mixed (by decide +kernel) rfl ?_
    simp (config := {maxSteps := 10000000}) [go_sem, ty3, ty22]
    refine ⟨?_, ?_⟩
    · try simp (config := {maxSteps := 10000000}) [go_sem, ty3, ty61]
      refine callG_true (by simp) (CallW_draw (pd_spec_l1Below code hcs 4) rfl rfl (by simp [go_sem]) hi10 (by simp [go_sem]) _ (fun _ => rfl) rfl ?_)
      rintro i13 g13 hi13 x13 hq13
      try dsimp only at hq13
      simp (config := {maxSteps := 10000000}) [go_sem, ty3, ty22, ty61]
      repeat refine ⟨by first | omega | grind, ?_⟩
      refine h12 _ ?_
      clear h12 K12
      refine W_ret ?_
      refine OutE_in (⟨(xs5.drop 1), h7, x13⟩) (by (try dsimp only); first | (refine ⟨by omega, ?_⟩; omega) | (simp; omega)) ?_
      simp [go_sem, ty61]
    · try simp (config := {maxSteps := 10000000}) [go_sem, ty3]
      refine callG_true (by simp) (CallW_draw (pd_spec_l1Below code hcs 4) rfl rfl (by simp [go_sem]) hi10 (by simp [go_sem]) _ (fun _ => rfl) rfl ?_)
      rintro i14 g14 hi14 x14 hq14
      try dsimp only at hq14
      simp (config := {maxSteps := 10000000}) [go_sem, ty3, ty22, ty61]
      repeat refine ⟨by first | omega | grind, ?_⟩
      refine h12 _ ?_
      clear h12 K12
      refine W_ret ?_
      refine OutE_in (⟨(xs5.drop 1), h7, x14⟩) (by (try dsimp only); first | (refine ⟨by omega, ?_⟩; omega) | (simp; omega)) ?_
      simp [go_sem, ty61]
  · clear hb11
    refine W_skip ?_
    repeat refine ⟨by first | omega | grind, ?_⟩
    refine h8 _ ?_
    clear h8 K8
    refine W_seqK fun K15 h15 => ?_
    refine W_drawS false (.op 0 (.op 2 (.fork 1 (.op 3 (.op 4 (.op 5 (.op 6 .nil)))) 3 (.op 1 (.op 4 (.op 5 (.op 6 .nil))))))) mixed (by decide +kernel) rfl ?_
    simp (config := {maxSteps := 10000000}) [go_sem, ty3, ty22]
    refine ⟨?_, ?_⟩
    · try simp (config := {maxSteps := 10000000}) [go_sem, ty3, ty61]
      refine callG_true (by simp) (CallW_draw (pd_spec_l1Below code hcs 4) rfl rfl (by simp [go_sem]) hi10 (by simp [go_sem]) _ (fun _ => rfl) rfl ?_)
      rintro i16 g16 hi16 x16 hq16
      try dsimp only at hq16
      simp (config := {maxSteps := 10000000}) [go_sem, ty3, ty22, ty61]
      repeat refine ⟨by first | omega | grind, ?_⟩
      refine h15 _ ?_
      clear h15 K15
      refine W_ret ?_
      refine OutE_in (⟨xs5, h7, x16⟩) (by (try dsimp only); first | (refine ⟨by omega, ?_⟩; omega) | (simp; omega)) ?_
      simp [go_sem, ty61]
    · try simp (config := {maxSteps := 10000000}) [go_sem, ty3]
      refine callG_true (by simp) (CallW_draw (pd_spec_l1Below code hcs 4) rfl rfl (by simp [go_sem]) hi10 (by simp [go_sem]) _ (fun _ => rfl) rfl ?_)
      rintro i17 g17 hi17 x17 hq17
      try dsimp only at hq17
      simp (config := {maxSteps := 10000000}) [go_sem, ty3, ty22, ty61]
      repeat refine ⟨by first | omega | grind, ?_⟩
      refine h15 _ ?_
      clear h15 K15
      refine W_ret ?_
      refine OutE_in (⟨xs5, h7, x17⟩) (by (try dsimp only); first | (refine ⟨by omega, ?_⟩; omega) | (simp; omega)) ?_
      simp [go_sem, ty61]
end Go.Tw
