/- Walks of functions: impl.InsOk -/
import Derived.Test.YtgcjdkgddnnlpaaE6e
import Derived.Test.YtgcjdkgddnnlpaaBaseD
set_option linter.unusedSimpArgs false
set_option linter.unusedVariables false
set_option linter.unnecessarySimpa false
namespace Go.Tw
open Go.Proofs

set_option maxRecDepth 100000 in
set_option maxHeartbeats 4000000 in
theorem pc_impl_InsOk (x : GIns)  : PC Try.prog 98 [(true, eIns x)] [(false, [.bool (insOk x)])] := by
  refine PC_of (n := 59) Try.func98 rfl rfl rfl rfl (by simp) ?_
  refine W_seqK fun K1 h1 => ?_
  refine W_reg ?_
  simp [go_sem, ty4, ty68]
  repeat refine ⟨by first | omega | grind, ?_⟩
  refine h1 _ ?_
  clear h1 K1
  refine W_seqK fun K2 h2 => ?_
  refine W_reg ?_
  simp [go_sem, ty3, ty68]
  refine callG_pc (fun hG => pc_impl_form x.op) (by first | (simp; done) | (simp [inR_iff]; done) | (simp [inR_iff]; grind) | grind) (fun hG => by simp [go_sem]) rfl rfl (by first | exact Or.inl rfl | exact Or.inr rfl) ?_
  simp [go_sem, ty4, ty9]
  repeat refine ⟨by first | omega | grind, ?_⟩
  refine h2 _ ?_
  clear h2 K2
  refine W_seqK fun K3 h3 => ?_
  refine W_reg ?_
  simp [go_sem, ty3, ty68, fw68]
  repeat refine ⟨by first | omega | grind, ?_⟩
  refine h3 _ ?_
  clear h3 K3
  refine W_seqK fun K4 h4 => ?_
  refine W_seqK fun K5 h5 => ?_
  refine W_reg ?_
  simp [go_sem, ty3, ty9]
  repeat refine ⟨by first | omega | grind, ?_⟩
  refine h5 _ ?_
  clear h5 K5
  refine W_block ?_
  refine W_loopI (α := Nat) (fun i => ({ env := [(1, true, .l (.ptr 5 0)), (3, true, .l (.t (.str (formS x.op)))), (4, true, .l (.t (.bool (formOk x.op)))), (5, true, .l (.ptr 8 0)), (17, true, .l (.t (.int .i64 ((formS x.op).size)))), (18, true, .l (.t (.int .i64 (i))))], box := [(8, [.t (.int .i64 (restN (formS x.op) x i).op), .t (.int .i64 (restN (formS x.op) x i).r), .t (.int .i64 (restN (formS x.op) x i).a), .t (.int .i64 (restN (formS x.op) x i).b), .t (.int .i64 (restN (formS x.op) x i).n)]), (5, [.t (.int .i64 x.op), .t (.int .i64 x.r), .t (.int .i64 x.a), .t (.int .i64 x.b), .t (.int .i64 x.n)])], row := [], nxt := 9, sav := [] } : St)) (fun i => i ≤ (formS x.op).size) (fun i => (formS x.op).size - i) 0 ?_ ?_ ?_
  · exact Sub.of_neat [1, 3, 4, 5, 17, 18] [] [8, 5] 9 (by decide) (by simp [go_sem, restN])
  · exact Nat.zero_le _
  rintro i hinv
  have hr : restN (formS x.op) x (i + 1) = upd1 (restN (formS x.op) x i) x (chr (formS x.op) i) := rfl
  have hsz := formS_size x.op
  refine W_seqK fun K7 h7 => ?_
  refine W_reg ?_
  simp [go_sem, ty3, ty4]
  repeat refine ⟨by first | omega | grind, ?_⟩
  refine h7 _ ?_
  clear h7 K7
  refine W_seqK fun K8 h8 => ?_
  refine W_cond rfl (fun hb9 => ?_) fun hb9 => ?_
  · have hlt : i < (formS x.op).size := by simpa using hb9
    have hcd : chr (formS x.op) i = (((formS x.op).data[i]'(by simpa using hlt)).toNat : Int) := by simp [chr, hlt]
    clear hb9
    refine W_skip ?_
    repeat refine ⟨by first | omega | grind, ?_⟩
    refine h8 _ ?_
    clear h8 K8
    refine W_seqK fun K10 h10 => ?_
    refine W_block ?_
    refine W_seqK fun K11 h11 => ?_
    refine W_reg ?_
    simp [go_sem, ty3]
    repeat refine ⟨by first | omega | grind, ?_⟩
    refine h11 _ ?_
    clear h11 K11
    rcases offL_cases (chr (formS x.op) i) with ⟨hc, ho⟩ | ⟨hc, ho⟩ | ⟨hc, ho⟩ | ⟨hc, ho⟩
    · refine W_drawO false [0, 1, 2, 4, 5, 6, 3, 7, 8, 9, 10, 11] mixed (by decide +kernel) ?_
      rw [hcd] at ho
      simp [go_sem, ty3, ty5, ty9, ty68, hlt, ho]
      refine callG_true (by simp) (q_place  ?_)
      simp [go_sem, ty5, ty68, hlt, ho]
      refine callG_true (by simp) (q_place  ?_)
      simp [go_sem, ty3, hlt, ho]
      repeat refine ⟨by first | omega | grind, ?_⟩
      refine h10 _ ?_
      clear h10 K10
      refine W_reg ?_
      simp [go_sem, ty3]
      refine ⟨i + 1, ?_, ?_, ?_⟩
      · exact Sub.of_neat [1, 3, 4, 5, 17, 18] [] [8, 5] 9 (by decide) (by simp [go_sem, hr, upd1, hc, wrap_succ (show i < 9223372036854775807 by omega)])
      · exact hlt
      · omega
    · refine W_drawO false [0, 1, 2, 4, 5, 6, 3, 7, 8, 9, 10, 11] mixed (by decide +kernel) ?_
      rw [hcd] at ho
      simp [go_sem, ty3, ty5, ty9, ty68, hlt, ho]
      refine callG_true (by simp) (q_place  ?_)
      simp [go_sem, ty5, ty68, hlt, ho]
      refine callG_true (by simp) (q_place  ?_)
      simp [go_sem, ty3, hlt, ho]
      repeat refine ⟨by first | omega | grind, ?_⟩
      refine h10 _ ?_
      clear h10 K10
      refine W_reg ?_
      simp [go_sem, ty3]
      refine ⟨i + 1, ?_, ?_, ?_⟩
      · exact Sub.of_neat [1, 3, 4, 5, 17, 18] [] [8, 5] 9 (by decide) (by simp [go_sem, hr, upd1, hc, wrap_succ (show i < 9223372036854775807 by omega)])
      · exact hlt
      · omega
    · refine W_drawO false [0, 1, 2, 4, 5, 6, 3, 7, 8, 9, 10, 11] mixed (by decide +kernel) ?_
      rw [hcd] at ho
      simp [go_sem, ty3, ty5, ty9, ty68, hlt, ho]
      refine callG_true (by simp) (q_place  ?_)
      simp [go_sem, ty5, ty68, hlt, ho]
      refine callG_true (by simp) (q_place  ?_)
      simp [go_sem, ty3, hlt, ho]
      repeat refine ⟨by first | omega | grind, ?_⟩
      refine h10 _ ?_
      clear h10 K10
      refine W_reg ?_
      simp [go_sem, ty3]
      refine ⟨i + 1, ?_, ?_, ?_⟩
      · exact Sub.of_neat [1, 3, 4, 5, 17, 18] [] [8, 5] 9 (by decide) (by simp [go_sem, hr, upd1, hc, wrap_succ (show i < 9223372036854775807 by omega)])
      · exact hlt
      · omega
    · refine W_drawO false [0, 1, 2, 4, 5, 6, 3, 7, 8, 9, 10, 11] mixed (by decide +kernel) ?_
      rw [hcd] at ho
      simp [go_sem, ty3, ty5, ty9, ty68, hlt, ho]
      refine callG_true (by simp) (q_place  ?_)
      simp [go_sem, ty5, ty68, hlt, ho]
      refine callG_true (by simp) (q_place  ?_)
      simp [go_sem, ty3, hlt, ho]
      repeat refine ⟨by first | omega | grind, ?_⟩
      refine h10 _ ?_
      clear h10 K10
      refine W_reg ?_
      simp [go_sem, ty3]
      refine ⟨i + 1, ?_, ?_, ?_⟩
      · exact Sub.of_neat [1, 3, 4, 5, 17, 18] [] [8, 5] 9 (by decide) (by simp [go_sem, hr, upd1, hc, wrap_succ (show i < 9223372036854775807 by omega)])
      · exact hlt
      · omega
  · obtain rfl : i = (formS x.op).size := by simp at hb9; omega
    clear hb9
    have hfin := insOk_rest x
    refine W_exit ?_
    simp [go_sem]
    repeat refine ⟨by first | omega | grind, ?_⟩
    refine h4 _ ?_
    clear h8 K8 h4 K4
    refine W_seqK fun K12 h12 => ?_
    refine W_reg ?_
    simp (config := {maxSteps := 10000000}) [go_sem, ty3, ty4, ty68, fk68]
    refine callG_pc (fun hG => pc_impl_from x.r 0 3) (by first | (simp; done) | (simp [inR_iff]; done) | (simp [inR_iff]; grind) | grind) (fun hG => by simp [go_sem]) rfl rfl (by first | exact Or.inl rfl | exact Or.inr rfl) ?_
    simp (config := {maxSteps := 10000000}) [go_sem, ty3, ty4, ty68, fk68]
    refine callG_pc (fun hG => pc_impl_from x.a 0 3) (by first | (simp; done) | (simp [inR_iff]; done) | (simp [inR_iff]; grind) | grind) (fun hG => by simp [go_sem]) rfl rfl (by first | exact Or.inl rfl | exact Or.inr rfl) ?_
    simp (config := {maxSteps := 10000000}) [go_sem, ty3, ty4, ty68, fk68]
    refine callG_pc (fun hG => pc_impl_from x.b 0 3) (by first | (simp; done) | (simp [inR_iff]; done) | (simp [inR_iff]; grind) | grind) (fun hG => by simp [go_sem]) rfl rfl (by first | exact Or.inl rfl | exact Or.inr rfl) ?_
    simp (config := {maxSteps := 10000000}) [go_sem, ty3, ty4, ty68, fk68]
    refine callG_pc (fun hG => pc_impl_from x.n 0 63) (by first | (simp; done) | (simp [inR_iff]; done) | (simp [inR_iff]; grind) | grind) (fun hG => by simp [go_sem]) rfl rfl (by first | exact Or.inl rfl | exact Or.inr rfl) ?_
    simp (config := {maxSteps := 10000000}) [go_sem, ty4, fk68]
    repeat refine ⟨by first | omega | grind, ?_⟩
    refine h12 _ ?_
    clear h12 K12
    refine W_ret ?_
    simp [go_sem]
    rw [← hfin, Bool.eq_iff_iff]
    simp [GIns.ext_iff]
end Go.Tw
