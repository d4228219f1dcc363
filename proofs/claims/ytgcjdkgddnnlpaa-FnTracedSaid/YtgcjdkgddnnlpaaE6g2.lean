/- Walks of functions: spec.Decode, impl.Decode, spec.HartOk, impl.HartOk, impl.copyHart, impl.memOk, impl.goes -/
import Derived.Test.YtgcjdkgddnnlpaaE6f
import Derived.Test.YtgcjdkgddnnlpaaE6g
set_option linter.unusedSimpArgs false
set_option linter.unusedVariables false
set_option linter.unnecessarySimpa false
namespace Go.Tw
open Go.Proofs

set_option maxRecDepth 100000 in
set_option maxHeartbeats 4000000 in
theorem pc_spec_Decode (w : Int)  : PC Try.prog 113 [(false, [.int .i64 w])] [(true, eIns (decode w)), (false, [.bool (decOk w)])] := by
  refine PC_of (n := 28) Try.func113 rfl rfl rfl rfl (by simp) ?_
  refine W_seqK fun K1 h1 => ?_
  refine W_reg ?_
  simp [go_sem, ty4, ty68]
  repeat refine ⟨by first | omega | grind, ?_⟩
  refine h1 _ ?_
  clear h1 K1
  refine W_seqK fun K2 h2 => ?_
  refine W_seqK fun K3 h3 => ?_
  refine W_reg ?_
  simp [go_sem, ty3, ty4]
  refine callG_pc (fun hG => pc_spec_l1In w 0 65535) (by first | (simp; done) | (simp [inR_iff]; done) | (simp [inR_iff]; grind) | grind) (fun hG => by simp [go_sem]) rfl rfl (by first | exact Or.inl rfl | exact Or.inr rfl) ?_
  simp [go_sem, ty4]
  repeat refine ⟨by first | omega | grind, ?_⟩
  refine h3 _ ?_
  clear h3 K3
  refine W_cond rfl (fun hb4 => ?_) fun hb4 => ?_
  · have q : isW w = false := by simpa [isW] using hb4
    have qo : decOk w = false := by unfold decOk; rw [q]; rfl
    have qd : decode w = ⟨0, 0, 0, 0, 0⟩ := by unfold decode; rw [if_neg (by simp [qo])]
    clear hb4
    refine W_seqK fun K5 h5 => ?_
    refine W_reg ?_
    simp [go_sem, ty4, ty68, fw68]
    repeat refine ⟨by first | omega | grind, ?_⟩
    refine h5 _ ?_
    clear h5 K5
    refine W_ret ?_
    simp [go_sem, ty68, qo, qd, decIns]
  · have q0 : 0 ≤ w ∧ w ≤ 65535 := by simpa [inR] using hb4
    have qw : isW w = true := by simpa [isW] using hb4
    clear hb4
    have f1 : w.tmod 16 = w % 16 := tmod_pos q0.1
    have f2 : IntKind.wrap .i64 (w.tdiv 16) = w / 16 := by rw [tdiv_pos q0.1, wrap_ok (by omega) (by omega)]
    have f3 : IntKind.wrap .i64 (w.tdiv 64) = w / 64 := by rw [tdiv_pos q0.1, wrap_ok (by omega) (by omega)]
    have f4 : IntKind.wrap .i64 (w.tdiv 256) = w / 256 := by rw [tdiv_pos q0.1, wrap_ok (by omega) (by omega)]
    have f5 : IntKind.wrap .i64 (w.tdiv 1024) = w / 1024 := by rw [tdiv_pos q0.1, wrap_ok (by omega) (by omega)]
    have g2 : (w / 16).tmod 4 = w / 16 % 4 := tmod_pos (by omega)
    have g3 : (w / 64).tmod 4 = w / 64 % 4 := tmod_pos (by omega)
    have g4 : (w / 256).tmod 4 = w / 256 % 4 := tmod_pos (by omega)
    refine W_skip ?_
    repeat refine ⟨by first | omega | grind, ?_⟩
    refine h2 _ ?_
    clear h2 K2
    refine W_seqK fun K6 h6 => ?_
    refine W_reg ?_
    simp [go_sem, ty3, ty68, fw68, f1, f2, f3, f4, f5, g2, g3, g4]
    repeat refine ⟨by first | omega | grind, ?_⟩
    refine h6 _ ?_
    clear h6 K6
    refine W_seqK fun K7 h7 => ?_
    refine W_seqK fun K8 h8 => ?_
    refine W_reg ?_
    simp [go_sem, ty4, ty68]
    refine callG_pc (fun hG => pc_spec_InsOk (decIns w)) (by first | (simp; done) | (simp [inR_iff]; done) | (simp [inR_iff]; grind) | grind) (fun hG => by simp [go_sem, decIns]) rfl rfl (by first | exact Or.inl rfl | exact Or.inr rfl) ?_
    simp [go_sem, ty4]
    repeat refine ⟨by first | omega | grind, ?_⟩
    refine h8 _ ?_
    clear h8 K8
    refine W_cond rfl (fun hb9 => ?_) fun hb9 => ?_
    · have qo : decOk w = false := by unfold decOk; rw [qw]; simpa using hb9
      have qd : decode w = ⟨0, 0, 0, 0, 0⟩ := by unfold decode; rw [if_neg (by simp [qo])]
      clear hb9
      refine W_seqK fun K10 h10 => ?_
      refine W_reg ?_
      simp [go_sem, ty4, ty68, fw68]
      repeat refine ⟨by first | omega | grind, ?_⟩
      refine h10 _ ?_
      clear h10 K10
      refine W_ret ?_
      simp [go_sem, ty68, qo, qd, decIns]
    · have qo : decOk w = true := by unfold decOk; rw [qw]; simpa using hb9
      have qd : decode w = decIns w := by unfold decode; rw [if_pos qo]
      clear hb9
      refine W_skip ?_
      repeat refine ⟨by first | omega | grind, ?_⟩
      refine h7 _ ?_
      clear h7 K7
      refine W_seqK fun K11 h11 => ?_
      refine W_reg ?_
      simp [go_sem, ty4, ty68]
      repeat refine ⟨by first | omega | grind, ?_⟩
      refine h11 _ ?_
      clear h11 K11
      refine W_ret ?_
      simp [go_sem, ty68, qo, qd, decIns]

set_option maxRecDepth 100000 in
set_option maxHeartbeats 4000000 in
theorem pc_impl_Decode (w : Int)  : PC Try.prog 142 [(false, [.int .i64 w])] [(true, eIns (decode w)), (false, [.bool (decOk w)])] := by
  refine PC_of (n := 28) Try.func142 rfl rfl rfl rfl (by simp) ?_
  refine W_seqK fun K1 h1 => ?_
  refine W_reg ?_
  simp [go_sem, ty4, ty68]
  repeat refine ⟨by first | omega | grind, ?_⟩
  refine h1 _ ?_
  clear h1 K1
  refine W_seqK fun K2 h2 => ?_
  refine W_seqK fun K3 h3 => ?_
  refine W_reg ?_
  simp [go_sem, ty3, ty4]
  refine callG_pc (fun hG => pc_impl_isWord w) (by first | (simp; done) | (simp [inR_iff]; done) | (simp [inR_iff]; grind) | grind) (fun hG => by simp [go_sem]) rfl rfl (by first | exact Or.inl rfl | exact Or.inr rfl) ?_
  simp [go_sem, ty4]
  repeat refine ⟨by first | omega | grind, ?_⟩
  refine h3 _ ?_
  clear h3 K3
  refine W_cond rfl (fun hb4 => ?_) fun hb4 => ?_
  · have q : isW w = false := by simpa [isW] using hb4
    have qo : decOk w = false := by unfold decOk; rw [q]; rfl
    have qd : decode w = ⟨0, 0, 0, 0, 0⟩ := by unfold decode; rw [if_neg (by simp [qo])]
    clear hb4
    refine W_seqK fun K5 h5 => ?_
    refine W_reg ?_
    simp [go_sem, ty4, ty68, fw68]
    repeat refine ⟨by first | omega | grind, ?_⟩
    refine h5 _ ?_
    clear h5 K5
    refine W_ret ?_
    simp [go_sem, ty68, qo, qd, decIns]
  · have q0 : 0 ≤ w ∧ w ≤ 65535 := by simpa [inR] using hb4
    have qw : isW w = true := by simpa [isW] using hb4
    clear hb4
    have f1 : w.tmod 16 = w % 16 := tmod_pos q0.1
    have f2 : IntKind.wrap .i64 (w.tdiv 16) = w / 16 := by rw [tdiv_pos q0.1, wrap_ok (by omega) (by omega)]
    have f3 : IntKind.wrap .i64 (w.tdiv 64) = w / 64 := by rw [tdiv_pos q0.1, wrap_ok (by omega) (by omega)]
    have f4 : IntKind.wrap .i64 (w.tdiv 256) = w / 256 := by rw [tdiv_pos q0.1, wrap_ok (by omega) (by omega)]
    have f5 : IntKind.wrap .i64 (w.tdiv 1024) = w / 1024 := by rw [tdiv_pos q0.1, wrap_ok (by omega) (by omega)]
    have g2 : (w / 16).tmod 4 = w / 16 % 4 := tmod_pos (by omega)
    have g3 : (w / 64).tmod 4 = w / 64 % 4 := tmod_pos (by omega)
    have g4 : (w / 256).tmod 4 = w / 256 % 4 := tmod_pos (by omega)
    refine W_skip ?_
    repeat refine ⟨by first | omega | grind, ?_⟩
    refine h2 _ ?_
    clear h2 K2
    refine W_seqK fun K6 h6 => ?_
    refine W_reg ?_
    simp [go_sem, ty3, ty68, fw68, f1, f2, f3, f4, f5, g2, g3, g4]
    repeat refine ⟨by first | omega | grind, ?_⟩
    refine h6 _ ?_
    clear h6 K6
    refine W_seqK fun K7 h7 => ?_
    refine W_seqK fun K8 h8 => ?_
    refine W_reg ?_
    simp [go_sem, ty4, ty68]
    refine callG_pc (fun hG => pc_impl_InsOk (decIns w)) (by first | (simp; done) | (simp [inR_iff]; done) | (simp [inR_iff]; grind) | grind) (fun hG => by simp [go_sem, decIns]) rfl rfl (by first | exact Or.inl rfl | exact Or.inr rfl) ?_
    simp [go_sem, ty4]
    repeat refine ⟨by first | omega | grind, ?_⟩
    refine h8 _ ?_
    clear h8 K8
    refine W_cond rfl (fun hb9 => ?_) fun hb9 => ?_
    · have qo : decOk w = false := by unfold decOk; rw [qw]; simpa using hb9
      have qd : decode w = ⟨0, 0, 0, 0, 0⟩ := by unfold decode; rw [if_neg (by simp [qo])]
      clear hb9
      refine W_seqK fun K10 h10 => ?_
      refine W_reg ?_
      simp [go_sem, ty4, ty68, fw68]
      repeat refine ⟨by first | omega | grind, ?_⟩
      refine h10 _ ?_
      clear h10 K10
      refine W_ret ?_
      simp [go_sem, ty68, qo, qd, decIns]
    · have qo : decOk w = true := by unfold decOk; rw [qw]; simpa using hb9
      have qd : decode w = decIns w := by unfold decode; rw [if_pos qo]
      clear hb9
      refine W_skip ?_
      repeat refine ⟨by first | omega | grind, ?_⟩
      refine h7 _ ?_
      clear h7 K7
      refine W_seqK fun K11 h11 => ?_
      refine W_reg ?_
      simp [go_sem, ty4, ty68]
      repeat refine ⟨by first | omega | grind, ?_⟩
      refine h11 _ ?_
      clear h11 K11
      refine W_ret ?_
      simp [go_sem, ty68, qo, qd, decIns]

set_option maxRecDepth 100000 in
set_option maxHeartbeats 4000000 in
theorem pc_spec_HartOk (h : GHart) (hx : h.regs.length ≤ 9223372036854775806) : PC Try.prog 90 [(true, eHart h)] [(false, [.bool (hartOk h)])] := by
  refine PC_of (n := 16) Try.func90 rfl rfl rfl rfl (by simp) ?_
  refine W_seqK fun K1 h1 => ?_
  refine W_reg ?_
  simp [go_sem, ty4, ty61]
  repeat refine ⟨by first | omega | grind, ?_⟩
  refine h1 _ ?_
  clear h1 K1
  refine W_seqK fun K2 h2 => ?_
  refine W_reg ?_
  simp [go_sem, ty3, ty4, ty22, ty61]
  refine callG_pc (fun hG => pc_spec_l1Words h.regs 4 (by omega)) (by first | (simp; done) | (simp [inR_iff]; done) | (simp [inR_iff]; grind) | grind) (fun hG => by simp [go_sem]) rfl rfl (by first | exact Or.inl rfl | exact Or.inr rfl) ?_
  simp [go_sem, ty3, ty4, ty61]
  refine callG_pc (fun hG => pc_spec_l1In h.pc 0 23) (by first | (simp; done) | (simp [inR_iff]; done) | (simp [inR_iff]; grind) | grind) (fun hG => by simp [go_sem]) rfl rfl (by first | exact Or.inl rfl | exact Or.inr rfl) ?_
  simp [go_sem, ty3, ty4, ty61]
  refine callG_pc (fun hG => pc_spec_l1In h.state 0 2) (by first | (simp; done) | (simp [inR_iff]; done) | (simp [inR_iff]; grind) | grind) (fun hG => by simp [go_sem]) rfl rfl (by first | exact Or.inl rfl | exact Or.inr rfl) ?_
  simp [go_sem, ty4]
  repeat refine ⟨by first | omega | grind, ?_⟩
  refine h2 _ ?_
  clear h2 K2
  refine W_ret ?_
  simp [go_sem, hartOk]

set_option maxRecDepth 100000 in
set_option maxHeartbeats 4000000 in
theorem pc_impl_HartOk (h : GHart) (hx : h.regs.length ≤ 9223372036854775806) : PC Try.prog 92 [(true, eHart h)] [(false, [.bool (hartOk h)])] := by
  refine PC_of (n := 16) Try.func92 rfl rfl rfl rfl (by simp) ?_
  refine W_seqK fun K1 h1 => ?_
  refine W_reg ?_
  simp [go_sem, ty4, ty61]
  repeat refine ⟨by first | omega | grind, ?_⟩
  refine h1 _ ?_
  clear h1 K1
  refine W_seqK fun K2 h2 => ?_
  refine W_reg ?_
  simp [go_sem, ty3, ty4, ty22, ty61]
  refine callG_pc (fun hG => pc_impl_wordsOk h.regs 4 (by omega)) (by first | (simp; done) | (simp [inR_iff]; done) | (simp [inR_iff]; grind) | grind) (fun hG => by simp [go_sem]) rfl rfl (by first | exact Or.inl rfl | exact Or.inr rfl) ?_
  simp [go_sem, ty3, ty4, ty61]
  refine callG_pc (fun hG => pc_impl_isCell h.pc) (by first | (simp; done) | (simp [inR_iff]; done) | (simp [inR_iff]; grind) | grind) (fun hG => by simp [go_sem]) rfl rfl (by first | exact Or.inl rfl | exact Or.inr rfl) ?_
  simp [go_sem, ty3, ty4, ty61]
  refine callG_pc (fun hG => pc_impl_from h.state 0 2) (by first | (simp; done) | (simp [inR_iff]; done) | (simp [inR_iff]; grind) | grind) (fun hG => by simp [go_sem]) rfl rfl (by first | exact Or.inl rfl | exact Or.inr rfl) ?_
  simp [go_sem, ty4]
  repeat refine ⟨by first | omega | grind, ?_⟩
  refine h2 _ ?_
  clear h2 K2
  refine W_ret ?_
  simp [go_sem, hartOk]

set_option maxRecDepth 100000 in
set_option maxHeartbeats 4000000 in
theorem pc_impl_copyHart (h : GHart) (hx : h.regs.length ≤ 1048576) : PC Try.prog 141 [(true, eHart h)] [(true, eHart h)] := by
  refine PC_of (n := 8) Try.func141 rfl rfl rfl rfl (by simp) ?_
  refine W_seqK fun K1 h1 => ?_
  refine W_reg ?_
  simp [go_sem, ty61]
  repeat refine ⟨by first | omega | grind, ?_⟩
  refine h1 _ ?_
  clear h1 K1
  refine W_seqK fun K2 h2 => ?_
  refine W_reg ?_
  simp [go_sem, ty3, ty22, ty61]
  refine callG_pc (fun hG => pc_slices_Clone_int_int h.regs (by omega)) (by first | (simp; done) | (simp [inR_iff]; done) | (simp [inR_iff]; grind) | grind) (fun hG => by simp [go_sem]) rfl rfl (by first | exact Or.inl rfl | exact Or.inr rfl) ?_
  simp [go_sem, ty3, ty22, ty61]
  repeat refine ⟨by first | omega | grind, ?_⟩
  refine h2 _ ?_
  clear h2 K2
  refine W_seqK fun K3 h3 => ?_
  refine W_reg ?_
  simp [go_sem, ty61]
  repeat refine ⟨by first | omega | grind, ?_⟩
  refine h3 _ ?_
  clear h3 K3
  refine W_ret ?_
  simp [go_sem, ty61]

set_option maxRecDepth 100000 in
set_option maxHeartbeats 4000000 in
theorem pc_impl_memOk (xs : List Int) (hx : xs.length ≤ 9223372036854775806) : PC Try.prog 62 [(false, [.sl 1 (enc eI xs)])] [(false, [.bool (wordsOk xs 24)])] := by
  refine PC_of (n := 5) Try.func62 rfl rfl rfl rfl (by simp) ?_
  refine W_seqK fun K1 h1 => ?_
  refine W_reg ?_
  simp [go_sem, ty4]
  repeat refine ⟨by first | omega | grind, ?_⟩
  refine h1 _ ?_
  clear h1 K1
  refine W_seqK fun K2 h2 => ?_
  refine W_reg ?_
  simp [go_sem, ty3, ty4, ty22]
  refine callG_pc (fun hG => pc_impl_wordsOk xs 24 (by omega)) (by first | (simp; done) | (simp [inR_iff]; done) | (simp [inR_iff]; grind) | grind) (fun hG => by simp [go_sem]) rfl rfl (by first | exact Or.inl rfl | exact Or.inr rfl) ?_
  simp [go_sem, ty4]
  repeat refine ⟨by first | omega | grind, ?_⟩
  refine h2 _ ?_
  clear h2 K2
  refine W_ret ?_
  simp [go_sem]

set_option maxRecDepth 100000 in
set_option maxHeartbeats 4000000 in
theorem pc_impl_goes (h : GHart) (hx : h.regs.length ≤ 9223372036854775806) : PC Try.prog 104 [(true, eHart h)] [(false, [.bool (goes h)])] := by
  refine PC_of (n := 10) Try.func104 rfl rfl rfl rfl (by simp) ?_
  refine W_seqK fun K1 h1 => ?_
  refine W_reg ?_
  simp [go_sem, ty4, ty61]
  repeat refine ⟨by first | omega | grind, ?_⟩
  refine h1 _ ?_
  clear h1 K1
  refine W_seqK fun K2 h2 => ?_
  refine W_reg ?_
  simp [go_sem, ty4, ty61]
  refine callG_pc (fun hG => pc_impl_HartOk h (by omega)) (by first | (simp; done) | (simp [inR_iff]; done) | (simp [inR_iff]; grind) | grind) (fun hG => by simp [go_sem]) rfl rfl (by first | exact Or.inl rfl | exact Or.inr rfl) ?_
  simp [go_sem, ty3, ty4, ty61]
  repeat refine ⟨by first | omega | grind, ?_⟩
  refine h2 _ ?_
  clear h2 K2
  refine W_ret ?_
  simp [go_sem, goes]
  first | done | (rw [Bool.eq_iff_iff]; simp)
end Go.Tw
