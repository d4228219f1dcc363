/- Walks of functions: impl.opWord, impl.InsText -/
import Derived.Test.YtgcjdkgddnnlpaaE7Q
import Derived.Test.YtgcjdkgddnnlpaaBaseG
import Derived.Test.YtgcjdkgddnnlpaaE6g2
set_option linter.unusedSimpArgs false
set_option linter.unusedVariables false
set_option linter.unnecessarySimpa false
namespace Go.Tw
open Go.Proofs

set_option maxRecDepth 100000 in
set_option maxHeartbeats 4000000 in
theorem pc_impl_opWord (op : Int)  : PC Try.prog 99 [(false, [.int .i64 op])] [(false, [.str (opName op)])] := by
  refine PC_of (n := 11) Try.func99 rfl rfl rfl rfl (by simp) ?_
  refine W_seqK fun K1 h1 => ?_
  refine W_reg ?_
  simp [go_sem, ty9]
  repeat refine ⟨by first | omega | grind, ?_⟩
  refine h1 _ ?_
  clear h1 K1
  refine W_seqK fun K2 h2 => ?_
  refine W_seqK fun K3 h3 => ?_
  refine W_reg ?_
  simp [go_sem, ty3, ty4]
  refine callG_pc (fun hG => pc_impl_from op 1 10) (by first | (simp; done) | (simp [inR_iff]; done) | (simp [inR_iff]; grind) | grind) (fun hG => by simp [go_sem]) rfl rfl (by first | exact Or.inl rfl | exact Or.inr rfl) ?_
  simp [go_sem, ty4]
  repeat refine ⟨by first | omega | grind, ?_⟩
  refine h3 _ ?_
  clear h3 K3
  refine W_cond rfl (fun hb4 => ?_) fun hb4 => ?_
  · have q : opName op = ⟨#[]⟩ := by unfold opName; unfold inR at hb4; simp at hb4; repeat rw [if_neg (by omega)]
    clear hb4
    refine W_seqK fun K5 h5 => ?_
    refine W_reg ?_
    simp [go_sem, ty9]
    repeat refine ⟨by first | omega | grind, ?_⟩
    refine h5 _ ?_
    clear h5 K5
    refine W_ret ?_
    simp [go_sem, q]
  · have q10 : op = 1 ∨ op = 2 ∨ op = 3 ∨ op = 4 ∨ op = 5 ∨ op = 6 ∨ op = 7 ∨ op = 8 ∨ op = 9 ∨ op = 10 := by unfold inR at hb4; simp at hb4; omega
    clear hb4
    refine W_skip ?_
    repeat refine ⟨by first | omega | grind, ?_⟩
    refine h2 _ ?_
    clear h2 K2
    refine W_seqK fun K6 h6 => ?_
    rcases q10 with rfl | rfl | rfl | rfl | rfl | rfl | rfl | rfl | rfl | rfl
    · refine W_reg ?_
      simp [go_sem, ty3, ty9, ty122, wrap_ok]
      repeat refine ⟨by first | omega | grind, ?_⟩
      refine h6 _ ?_
      clear h6 K6
      refine W_ret ?_
      simp [go_sem, opName]
    · refine W_reg ?_
      simp [go_sem, ty3, ty9, ty122, wrap_ok]
      repeat refine ⟨by first | omega | grind, ?_⟩
      refine h6 _ ?_
      clear h6 K6
      refine W_ret ?_
      simp [go_sem, opName]
    · refine W_reg ?_
      simp [go_sem, ty3, ty9, ty122, wrap_ok]
      repeat refine ⟨by first | omega | grind, ?_⟩
      refine h6 _ ?_
      clear h6 K6
      refine W_ret ?_
      simp [go_sem, opName]
    · refine W_reg ?_
      simp [go_sem, ty3, ty9, ty122, wrap_ok]
      repeat refine ⟨by first | omega | grind, ?_⟩
      refine h6 _ ?_
      clear h6 K6
      refine W_ret ?_
      simp [go_sem, opName]
    · refine W_reg ?_
      simp [go_sem, ty3, ty9, ty122, wrap_ok]
      repeat refine ⟨by first | omega | grind, ?_⟩
      refine h6 _ ?_
      clear h6 K6
      refine W_ret ?_
      simp [go_sem, opName]
    · refine W_reg ?_
      simp [go_sem, ty3, ty9, ty122, wrap_ok]
      repeat refine ⟨by first | omega | grind, ?_⟩
      refine h6 _ ?_
      clear h6 K6
      refine W_ret ?_
      simp [go_sem, opName]
    · refine W_reg ?_
      simp [go_sem, ty3, ty9, ty122, wrap_ok]
      repeat refine ⟨by first | omega | grind, ?_⟩
      refine h6 _ ?_
      clear h6 K6
      refine W_ret ?_
      simp [go_sem, opName]
    · refine W_reg ?_
      simp [go_sem, ty3, ty9, ty122, wrap_ok]
      repeat refine ⟨by first | omega | grind, ?_⟩
      refine h6 _ ?_
      clear h6 K6
      refine W_ret ?_
      simp [go_sem, opName]
    · refine W_reg ?_
      simp [go_sem, ty3, ty9, ty122, wrap_ok]
      repeat refine ⟨by first | omega | grind, ?_⟩
      refine h6 _ ?_
      clear h6 K6
      refine W_ret ?_
      simp [go_sem, opName]
    · refine W_reg ?_
      simp [go_sem, ty3, ty9, ty122, wrap_ok]
      repeat refine ⟨by first | omega | grind, ?_⟩
      refine h6 _ ?_
      clear h6 K6
      refine W_ret ?_
      simp [go_sem, opName]

set_option maxRecDepth 100000 in
set_option maxHeartbeats 4000000 in
theorem pc_impl_InsText (x : GIns)  : PC Try.prog 39 [(true, eIns x)] [(false, [.str (insText x)])] := by
  refine PC_of (n := 46) Try.func39 rfl rfl rfl rfl (by simp) ?_
  refine W_seqK fun K1 h1 => ?_
  refine W_reg ?_
  simp [go_sem, ty9, ty68]
  repeat refine ⟨by first | omega | grind, ?_⟩
  refine h1 _ ?_
  clear h1 K1
  refine W_seqK fun K2 h2 => ?_
  refine W_seqK fun K3 h3 => ?_
  refine W_reg ?_
  simp [go_sem, ty4, ty68]
  refine callG_pc (fun hG => pc_impl_InsOk x) (by first | (simp; done) | (simp [inR_iff]; done) | (simp [inR_iff]; grind) | grind) (fun hG => by simp [go_sem]) rfl rfl (by first | exact Or.inl rfl | exact Or.inr rfl) ?_
  simp [go_sem, ty4]
  repeat refine ⟨by first | omega | grind, ?_⟩
  refine h3 _ ?_
  clear h3 K3
  refine W_cond rfl (fun hb4 => ?_) fun hb4 => ?_
  · have q : insText x = ⟨#[]⟩ := if_neg (by simpa using hb4)
    clear hb4
    refine W_seqK fun K5 h5 => ?_
    refine W_reg ?_
    simp [go_sem, ty9]
    repeat refine ⟨by first | omega | grind, ?_⟩
    refine h5 _ ?_
    clear h5 K5
    refine W_ret ?_
    simp [go_sem, q]
  · have q : insOk x = true := by simpa using hb4
    obtain ⟨hop, ⟨r0, r1⟩, ⟨a0, a1⟩, ⟨b0, b1⟩, n0, n1⟩ := insOk_ops q
    have z32 : (⟨#[32]⟩ : ByteArray).size = 1 := rfl
    have z2 : (⟨#[32, 114]⟩ : ByteArray).size = 2 := rfl
    have z1 : (⟨#[114]⟩ : ByteArray).size = 1 := rfl
    have zo := opName_size x.op
    have zr := dgB_small (n := x.r.toNat) (by omega)
    have za := dgB_small (n := x.a.toNat) (by omega)
    have zb := dgB_small (n := x.b.toNat) (by omega)
    have zn := dgB_small (n := x.n.toNat) (by omega)
    clear hb4
    refine W_skip ?_
    repeat refine ⟨by first | omega | grind, ?_⟩
    refine h2 _ ?_
    clear h2 K2
    refine W_seqK fun K6 h6 => ?_
    refine W_reg ?_
    simp [go_sem, ty3, ty9, ty68]
    refine callG_pc (fun hG => pc_impl_opWord x.op) (by first | (simp; done) | (simp [inR_iff]; done) | (simp [inR_iff]; grind) | grind) (fun hG => by simp [go_sem]) rfl rfl (by first | exact Or.inl rfl | exact Or.inr rfl) ?_
    simp [go_sem, ty9, ty122]
    repeat refine ⟨by first | omega | grind, ?_⟩
    refine h6 _ ?_
    clear h6 K6
    refine W_seqK fun K7 h7 => ?_
    refine W_reg ?_
    simp [go_sem, ty3, ty68]
    refine callG_pc (fun hG => pc_impl_form x.op) (by first | (simp; done) | (simp [inR_iff]; done) | (simp [inR_iff]; grind) | grind) (fun hG => by simp [go_sem]) rfl rfl (by first | exact Or.inl rfl | exact Or.inr rfl) ?_
    simp [go_sem, ty4, ty9]
    repeat refine ⟨by first | omega | grind, ?_⟩
    refine h7 _ ?_
    clear h7 K7
    refine W_seqK fun K8 h8 => ?_
    refine W_seqK fun K9 h9 => ?_
    refine W_reg ?_
    simp [go_sem, ty3, ty9]
    repeat refine ⟨by first | omega | grind, ?_⟩
    refine h9 _ ?_
    clear h9 K9
    refine W_block ?_
    refine W_loopI (α := Nat) (fun i => ({ env := [(1, true, .l (.ptr 5 0)), (3, true, .l (.ref 40 [] 1 0 (((wordsI x i)).length))), (4, true, .l (.t (.str (formS x.op)))), (22, true, .l (.t (.int .i64 ((formS x.op).size)))), (23, true, .l (.t (.int .i64 (i))))], box := [(5, [.t (.int .i64 x.op), .t (.int .i64 x.r), .t (.int .i64 x.a), .t (.int .i64 x.b), .t (.int .i64 x.n)])], row := [(40, ⟨.own, 1, enc eStr (wordsI x i)⟩)], nxt := 60, sav := [] } : St)) (fun i => i ≤ (formS x.op).size) (fun i => (formS x.op).size - i) 0 ?_ ?_ ?_
    · exact (Sub.swp_row 8 40 rfl).trans (Sub.of_neat [1, 3, 4, 22, 23] [40] [5] 60 (by decide) (by simp [go_sem, wordsI_zero, enc, eStr]))
    · exact Nat.zero_le _
    rintro i hinv
    have hsz := formS_size x.op
    refine W_seqK fun K11 h11 => ?_
    refine W_reg ?_
    simp [go_sem, ty3, ty4]
    repeat refine ⟨by first | omega | grind, ?_⟩
    refine h11 _ ?_
    clear h11 K11
    refine W_seqK fun K12 h12 => ?_
    refine W_cond rfl (fun hb13 => ?_) fun hb13 => ?_
    · have hlt : i < (formS x.op).size := by simpa using hb13
      have hcd : chr (formS x.op) i = (((formS x.op).data[i]'(by simpa using hlt)).toNat : Int) := by simp [chr, hlt]
      have hwl := wordsI_len x i
      clear hb13
      refine W_skip ?_
      repeat refine ⟨by first | omega | grind, ?_⟩
      refine h12 _ ?_
      clear h12 K12
      refine W_seqK fun K14 h14 => ?_
      refine W_block ?_
      refine W_seqK fun K15 h15 => ?_
      refine W_reg ?_
      simp [go_sem, ty3, hlt]
      repeat refine ⟨by first | omega | grind, ?_⟩
      refine h15 _ ?_
      clear h15 K15
      refine W_seqK fun K16 h16 => ?_
      rcases offL_cases (chr (formS x.op) i) with ⟨hc, ho⟩ | ⟨hc, ho⟩ | ⟨hc, ho⟩ | ⟨hc, ho⟩
      · refine W_reg ?_
        rw [hcd] at ho
        simp [go_sem, ty3, ty5, ty9, ty68, hlt, ho, hlt]
        refine callG_true (by simp) (q_place  ?_)
        simp [go_sem, ty3, ty9, hlt, ho, hlt]
        refine callG_pc (fun hG => pc_impl_digits x.r (by omega) (by omega)) (by first | (simp; done) | (simp [inR_iff]; done) | (simp [inR_iff]; grind) | grind) (fun hG => by simp [go_sem, hlt]) rfl rfl (by first | exact Or.inl rfl | exact Or.inr rfl) ?_
        simp [go_sem, ty9, hlt, ho, hlt]
        repeat refine ⟨by first | omega | grind, ?_⟩
        refine h16 _ ?_
        clear h16 K16
        refine W_seqK fun K17 h17 => ?_
        refine W_seqK fun K18 h18 => ?_
        refine W_reg ?_
        simp [go_sem, ty3, ty4, ty5, ty9, hlt]
        repeat refine ⟨by first | omega | grind, ?_⟩
        refine h18 _ ?_
        clear h18 K18
        refine W_cond rfl (fun hb19 => ?_) fun hb19 => ?_
        · have hne : chr (formS x.op) i ≠ 78 := by rw [hcd]; simpa [hlt] using hb19
          have hw : wordI x (chr (formS x.op) i) = ⟨#[114]⟩ ++ dgB x.r.toNat := by unfold wordI fieldI; simp [hc, hne]
          have hst : wordsI x i ++ [⟨#[114]⟩ ++ dgB x.r.toNat] = wordsI x (i + 1) := by rw [wordsI_succ, hw]
          clear hb19
          refine W_reg ?_
          simp [go_sem, ty9, ba_size, z1, hlt]
          refine ⟨by omega, ?_⟩
          repeat refine ⟨by first | omega | grind, ?_⟩
          refine h17 _ ?_
          clear h17 K17
          refine W_reg ?_
          simp [go_sem, ty9, ty122, hlt]
          refine ⟨by omega, ?_⟩
          repeat refine ⟨by first | omega | grind, ?_⟩
          refine h14 _ ?_
          clear h14 K14
          refine W_reg ?_
          simp [go_sem, ty3, hlt]
          refine ⟨i + 1, ?_, ?_, ?_⟩
          · exact (Sub.swp_row 62 40 rfl).trans (Sub.of_neat [1, 3, 4, 22, 23] [40] [5] 60 (by decide) (by simp [go_sem, wrap_succ (show i < 9223372036854775807 by omega), hst, hwl, wordsI_len]))
          · exact hlt
          · omega
        · have he : chr (formS x.op) i = 78 := by rw [hcd]; simpa [hlt] using hb19
          have hw : wordI x (chr (formS x.op) i) = dgB x.r.toNat := by first | (exfalso; omega) | (unfold wordI fieldI; simp [hc, he])
          have hst : wordsI x i ++ [dgB x.r.toNat] = wordsI x (i + 1) := by rw [wordsI_succ, hw]
          clear hb19
          refine W_skip ?_
          repeat refine ⟨by first | omega | grind, ?_⟩
          refine h17 _ ?_
          clear h17 K17
          refine W_reg ?_
          simp [go_sem, ty9, ty122, hlt]
          refine ⟨by omega, ?_⟩
          repeat refine ⟨by first | omega | grind, ?_⟩
          refine h14 _ ?_
          clear h14 K14
          refine W_reg ?_
          simp [go_sem, ty3, hlt]
          refine ⟨i + 1, ?_, ?_, ?_⟩
          · exact (Sub.swp_row 62 40 rfl).trans (Sub.of_neat [1, 3, 4, 22, 23] [40] [5] 60 (by decide) (by simp [go_sem, wrap_succ (show i < 9223372036854775807 by omega), hst, hwl, wordsI_len]))
          · exact hlt
          · omega
      · refine W_reg ?_
        rw [hcd] at ho
        simp [go_sem, ty3, ty5, ty9, ty68, hlt, ho, hlt]
        refine callG_true (by simp) (q_place  ?_)
        simp [go_sem, ty3, ty9, hlt, ho, hlt]
        refine callG_pc (fun hG => pc_impl_digits x.a (by omega) (by omega)) (by first | (simp; done) | (simp [inR_iff]; done) | (simp [inR_iff]; grind) | grind) (fun hG => by simp [go_sem, hlt]) rfl rfl (by first | exact Or.inl rfl | exact Or.inr rfl) ?_
        simp [go_sem, ty9, hlt, ho, hlt]
        repeat refine ⟨by first | omega | grind, ?_⟩
        refine h16 _ ?_
        clear h16 K16
        refine W_seqK fun K20 h20 => ?_
        refine W_seqK fun K21 h21 => ?_
        refine W_reg ?_
        simp [go_sem, ty3, ty4, ty5, ty9, hlt]
        repeat refine ⟨by first | omega | grind, ?_⟩
        refine h21 _ ?_
        clear h21 K21
        refine W_cond rfl (fun hb22 => ?_) fun hb22 => ?_
        · have hne : chr (formS x.op) i ≠ 78 := by rw [hcd]; simpa [hlt] using hb22
          have hw : wordI x (chr (formS x.op) i) = ⟨#[114]⟩ ++ dgB x.a.toNat := by unfold wordI fieldI; simp [hc, hne]
          have hst : wordsI x i ++ [⟨#[114]⟩ ++ dgB x.a.toNat] = wordsI x (i + 1) := by rw [wordsI_succ, hw]
          clear hb22
          refine W_reg ?_
          simp [go_sem, ty9, ba_size, z1, hlt]
          refine ⟨by omega, ?_⟩
          repeat refine ⟨by first | omega | grind, ?_⟩
          refine h20 _ ?_
          clear h20 K20
          refine W_reg ?_
          simp [go_sem, ty9, ty122, hlt]
          refine ⟨by omega, ?_⟩
          repeat refine ⟨by first | omega | grind, ?_⟩
          refine h14 _ ?_
          clear h14 K14
          refine W_reg ?_
          simp [go_sem, ty3, hlt]
          refine ⟨i + 1, ?_, ?_, ?_⟩
          · exact (Sub.swp_row 62 40 rfl).trans (Sub.of_neat [1, 3, 4, 22, 23] [40] [5] 60 (by decide) (by simp [go_sem, wrap_succ (show i < 9223372036854775807 by omega), hst, hwl, wordsI_len]))
          · exact hlt
          · omega
        · have he : chr (formS x.op) i = 78 := by rw [hcd]; simpa [hlt] using hb22
          have hw : wordI x (chr (formS x.op) i) = dgB x.a.toNat := by first | (exfalso; omega) | (unfold wordI fieldI; simp [hc, he])
          have hst : wordsI x i ++ [dgB x.a.toNat] = wordsI x (i + 1) := by rw [wordsI_succ, hw]
          clear hb22
          refine W_skip ?_
          repeat refine ⟨by first | omega | grind, ?_⟩
          refine h20 _ ?_
          clear h20 K20
          refine W_reg ?_
          simp [go_sem, ty9, ty122, hlt]
          refine ⟨by omega, ?_⟩
          repeat refine ⟨by first | omega | grind, ?_⟩
          refine h14 _ ?_
          clear h14 K14
          refine W_reg ?_
          simp [go_sem, ty3, hlt]
          refine ⟨i + 1, ?_, ?_, ?_⟩
          · exact (Sub.swp_row 62 40 rfl).trans (Sub.of_neat [1, 3, 4, 22, 23] [40] [5] 60 (by decide) (by simp [go_sem, wrap_succ (show i < 9223372036854775807 by omega), hst, hwl, wordsI_len]))
          · exact hlt
          · omega
      · refine W_reg ?_
        rw [hcd] at ho
        simp [go_sem, ty3, ty5, ty9, ty68, hlt, ho, hlt]
        refine callG_true (by simp) (q_place  ?_)
        simp [go_sem, ty3, ty9, hlt, ho, hlt]
        refine callG_pc (fun hG => pc_impl_digits x.b (by omega) (by omega)) (by first | (simp; done) | (simp [inR_iff]; done) | (simp [inR_iff]; grind) | grind) (fun hG => by simp [go_sem, hlt]) rfl rfl (by first | exact Or.inl rfl | exact Or.inr rfl) ?_
        simp [go_sem, ty9, hlt, ho, hlt]
        repeat refine ⟨by first | omega | grind, ?_⟩
        refine h16 _ ?_
        clear h16 K16
        refine W_seqK fun K23 h23 => ?_
        refine W_seqK fun K24 h24 => ?_
        refine W_reg ?_
        simp [go_sem, ty3, ty4, ty5, ty9, hlt]
        repeat refine ⟨by first | omega | grind, ?_⟩
        refine h24 _ ?_
        clear h24 K24
        refine W_cond rfl (fun hb25 => ?_) fun hb25 => ?_
        · have hne : chr (formS x.op) i ≠ 78 := by rw [hcd]; simpa [hlt] using hb25
          have hw : wordI x (chr (formS x.op) i) = ⟨#[114]⟩ ++ dgB x.b.toNat := by unfold wordI fieldI; simp [hc, hne]
          have hst : wordsI x i ++ [⟨#[114]⟩ ++ dgB x.b.toNat] = wordsI x (i + 1) := by rw [wordsI_succ, hw]
          clear hb25
          refine W_reg ?_
          simp [go_sem, ty9, ba_size, z1, hlt]
          refine ⟨by omega, ?_⟩
          repeat refine ⟨by first | omega | grind, ?_⟩
          refine h23 _ ?_
          clear h23 K23
          refine W_reg ?_
          simp [go_sem, ty9, ty122, hlt]
          refine ⟨by omega, ?_⟩
          repeat refine ⟨by first | omega | grind, ?_⟩
          refine h14 _ ?_
          clear h14 K14
          refine W_reg ?_
          simp [go_sem, ty3, hlt]
          refine ⟨i + 1, ?_, ?_, ?_⟩
          · exact (Sub.swp_row 62 40 rfl).trans (Sub.of_neat [1, 3, 4, 22, 23] [40] [5] 60 (by decide) (by simp [go_sem, wrap_succ (show i < 9223372036854775807 by omega), hst, hwl, wordsI_len]))
          · exact hlt
          · omega
        · have he : chr (formS x.op) i = 78 := by rw [hcd]; simpa [hlt] using hb25
          have hw : wordI x (chr (formS x.op) i) = dgB x.b.toNat := by first | (exfalso; omega) | (unfold wordI fieldI; simp [hc, he])
          have hst : wordsI x i ++ [dgB x.b.toNat] = wordsI x (i + 1) := by rw [wordsI_succ, hw]
          clear hb25
          refine W_skip ?_
          repeat refine ⟨by first | omega | grind, ?_⟩
          refine h23 _ ?_
          clear h23 K23
          refine W_reg ?_
          simp [go_sem, ty9, ty122, hlt]
          refine ⟨by omega, ?_⟩
          repeat refine ⟨by first | omega | grind, ?_⟩
          refine h14 _ ?_
          clear h14 K14
          refine W_reg ?_
          simp [go_sem, ty3, hlt]
          refine ⟨i + 1, ?_, ?_, ?_⟩
          · exact (Sub.swp_row 62 40 rfl).trans (Sub.of_neat [1, 3, 4, 22, 23] [40] [5] 60 (by decide) (by simp [go_sem, wrap_succ (show i < 9223372036854775807 by omega), hst, hwl, wordsI_len]))
          · exact hlt
          · omega
      · refine W_reg ?_
        rw [hcd] at ho
        simp [go_sem, ty3, ty5, ty9, ty68, hlt, ho, hlt]
        refine callG_true (by simp) (q_place  ?_)
        simp [go_sem, ty3, ty9, hlt, ho, hlt]
        refine callG_pc (fun hG => pc_impl_digits x.n (by omega) (by omega)) (by first | (simp; done) | (simp [inR_iff]; done) | (simp [inR_iff]; grind) | grind) (fun hG => by simp [go_sem, hlt]) rfl rfl (by first | exact Or.inl rfl | exact Or.inr rfl) ?_
        simp [go_sem, ty9, hlt, ho, hlt]
        repeat refine ⟨by first | omega | grind, ?_⟩
        refine h16 _ ?_
        clear h16 K16
        refine W_seqK fun K26 h26 => ?_
        refine W_seqK fun K27 h27 => ?_
        refine W_reg ?_
        simp [go_sem, ty3, ty4, ty5, ty9, hlt]
        repeat refine ⟨by first | omega | grind, ?_⟩
        refine h27 _ ?_
        clear h27 K27
        refine W_cond rfl (fun hb28 => ?_) fun hb28 => ?_
        · have hne : chr (formS x.op) i ≠ 78 := by rw [hcd]; simpa [hlt] using hb28
          have hw : wordI x (chr (formS x.op) i) = ⟨#[114]⟩ ++ dgB x.n.toNat := by unfold wordI fieldI; simp [hc, hne]
          have hst : wordsI x i ++ [⟨#[114]⟩ ++ dgB x.n.toNat] = wordsI x (i + 1) := by rw [wordsI_succ, hw]
          clear hb28
          refine W_reg ?_
          simp [go_sem, ty9, ba_size, z1, hlt]
          refine ⟨by omega, ?_⟩
          repeat refine ⟨by first | omega | grind, ?_⟩
          refine h26 _ ?_
          clear h26 K26
          refine W_reg ?_
          simp [go_sem, ty9, ty122, hlt]
          refine ⟨by omega, ?_⟩
          repeat refine ⟨by first | omega | grind, ?_⟩
          refine h14 _ ?_
          clear h14 K14
          refine W_reg ?_
          simp [go_sem, ty3, hlt]
          refine ⟨i + 1, ?_, ?_, ?_⟩
          · exact (Sub.swp_row 62 40 rfl).trans (Sub.of_neat [1, 3, 4, 22, 23] [40] [5] 60 (by decide) (by simp [go_sem, wrap_succ (show i < 9223372036854775807 by omega), hst, hwl, wordsI_len]))
          · exact hlt
          · omega
        · have he : chr (formS x.op) i = 78 := by rw [hcd]; simpa [hlt] using hb28
          have hw : wordI x (chr (formS x.op) i) = dgB x.n.toNat := by first | (exfalso; omega) | (unfold wordI fieldI; simp [hc, he])
          have hst : wordsI x i ++ [dgB x.n.toNat] = wordsI x (i + 1) := by rw [wordsI_succ, hw]
          clear hb28
          refine W_skip ?_
          repeat refine ⟨by first | omega | grind, ?_⟩
          refine h26 _ ?_
          clear h26 K26
          refine W_reg ?_
          simp [go_sem, ty9, ty122, hlt]
          refine ⟨by omega, ?_⟩
          repeat refine ⟨by first | omega | grind, ?_⟩
          refine h14 _ ?_
          clear h14 K14
          refine W_reg ?_
          simp [go_sem, ty3, hlt]
          refine ⟨i + 1, ?_, ?_, ?_⟩
          · exact (Sub.swp_row 62 40 rfl).trans (Sub.of_neat [1, 3, 4, 22, 23] [40] [5] 60 (by decide) (by simp [go_sem, wrap_succ (show i < 9223372036854775807 by omega), hst, hwl, wordsI_len]))
          · exact hlt
          · omega
    · obtain rfl : i = (formS x.op).size := by simp at hb13; omega
      have qq : insText x = joinT (wordsI x (formS x.op).size) spB := if_pos q
      have hwe := wordsI_each q (formS x.op).size
      have hwl := wordsI_len x (formS x.op).size
      clear hb13
      refine W_exit ?_
      simp [go_sem]
      repeat refine ⟨by first | omega | grind, ?_⟩
      refine h8 _ ?_
      clear h12 K12 h8 K8
      refine W_seqK fun K29 h29 => ?_
      refine W_reg ?_
      simp [go_sem, ty9, ty122]
      refine callG_pc (fun hG => pc_strings_Join (wordsI x (formS x.op).size) ⟨#[32]⟩ (by have := formS_size x.op; omega) (by intro s hs; have := hwe s hs; omega) (by decide)) (by first | (simp; done) | (simp [inR_iff]; done) | (simp [inR_iff]; grind) | grind) (fun hG => by simp [go_sem]) rfl rfl (by first | exact Or.inl rfl | exact Or.inr rfl) ?_
      simp [go_sem, ty9]
      repeat refine ⟨by first | omega | grind, ?_⟩
      refine h29 _ ?_
      clear h29 K29
      refine W_ret ?_
      simp [go_sem, qq, spB]
end Go.Tw
