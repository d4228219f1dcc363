/- Walks of functions: spec.TraceOk -/
import Derived.Test.YthajhlpbinjpgaaR2f
set_option linter.unusedSimpArgs false
set_option linter.unusedVariables false
namespace Go.Tw
open Go.Proofs

set_option maxRecDepth 100000 in
set_option maxHeartbeats 4000000 in
theorem pc_spec_TraceOk (xs : List Int) (es : List GEvent) (hx : xs.length ≤ 1048576) (he : es.length ≤ 1048576) : PC Try.prog 44 [(false, [.sl 1 (enc eI xs)]), (false, [.sl 5 (enc eEvent es)])] [(false, [.bool (traceOk xs es)])] := by
  refine PC_of (n := 75) Try.func44 rfl rfl rfl rfl (by simp) ?_
  refine W_seqK fun K1 h1 => ?_
  refine W_reg ?_
  simp [go_sem, ty4]
  first | refine h1 _ ?_ | refine ⟨by omega, h1 _ ?_⟩ | refine ⟨by omega, by omega, h1 _ ?_⟩ | (repeat (refine ⟨by first | omega | grind, ?_⟩)); refine h1 _ ?_
  clear h1 K1
  refine W_seqK fun K2 h2 => ?_
  refine W_seqK fun K3 h3 => ?_
  refine W_reg ?_
  simp [go_sem, ty3, ty4, ty24]
  refine callG_pc (fun hG => pc_spec_l1Words xs 24 (by omega)) (by first | (simp; done) | (simp [inR_iff]; done) | (simp [inR_iff]; grind) | grind) (fun hG => by simp [go_sem]) rfl rfl (by first | exact Or.inl rfl | exact Or.inr rfl) ?_
  simp [go_sem, ty4]
  first | refine h3 _ ?_ | refine ⟨by omega, h3 _ ?_⟩ | refine ⟨by omega, by omega, h3 _ ?_⟩ | (repeat (refine ⟨by first | omega | grind, ?_⟩)); refine h3 _ ?_
  clear h3 K3
  refine W_cond rfl (fun hb4 => ?_) fun hb4 => ?_
  · have hr : traceOk xs es = false := by simp at hb4; unfold traceOk; rw [hb4]; rfl
    refine W_seqK fun K5 h5 => ?_
    refine W_reg ?_
    simp [go_sem, ty4]
    first | refine h5 _ ?_ | refine ⟨by omega, h5 _ ?_⟩ | refine ⟨by omega, by omega, h5 _ ?_⟩ | (repeat (refine ⟨by first | omega | grind, ?_⟩)); refine h5 _ ?_
    clear h5 K5
    refine W_ret ?_
    simp [go_sem, hr]
  · have hw : wordsOk xs 24 = true := by simpa using hb4
    have q24 := wordsOk_len hw
    clear hb4
    refine W_skip ?_
    first | refine h2 _ ?_ | refine ⟨by omega, h2 _ ?_⟩ | refine ⟨by omega, by omega, h2 _ ?_⟩ | (repeat (refine ⟨by first | omega | grind, ?_⟩)); refine h2 _ ?_
    clear h2 K2
    refine W_seqK fun K6 h6 => ?_
    refine W_reg ?_
    simp [go_sem, ty3, ty24]
    first | refine h6 _ ?_ | refine ⟨by omega, h6 _ ?_⟩ | refine ⟨by omega, by omega, h6 _ ?_⟩ | (repeat (refine ⟨by first | omega | grind, ?_⟩)); refine h6 _ ?_
    clear h6 K6
    refine W_seqK fun K7 h7 => ?_
    refine W_seqK fun K8 h8 => ?_
    refine W_reg ?_
    simp [go_sem, ty3]
    first | refine h8 _ ?_ | refine ⟨by omega, h8 _ ?_⟩ | refine ⟨by omega, by omega, h8 _ ?_⟩ | (repeat (refine ⟨by first | omega | grind, ?_⟩)); refine h8 _ ?_
    clear h8 K8
    refine W_block ?_
    refine W_loopI (α := Nat) (fun i => ({ env := [(1, true, .l (.ref 1 [] 5 0 (es.length))), (5, true, .l (.ref 4 [] 1 0 (xs.length))), (6, true, .l (.t (.int .i64 (i))))], box := [], row := [(4, ⟨.own, 1, enc eI (redoN xs es i)⟩), (1, ⟨.ro, 5, enc eEvent es⟩)], nxt := 5, sav := [] } : St)) (fun i => i ≤ es.length ∧ ∀ j, (hj : j < es.length) → j < i → okEv (redoN xs es j) es[j] = true) (fun i => es.length - i) 0 ?_ ?_ ?_
    · exact Sub.of_tidy [1, 5, 6] [4, 1] [] 5 (by decide) (by simp [go_sem, redoN])
    · simp
    rintro i hinv
    obtain ⟨hi, hall⟩ := hinv
    have hu := redoN_len xs es i
    refine W_seqK fun K10 h10 => ?_
    refine W_seqK fun K11 h11 => ?_
    refine W_reg ?_
    simp [go_sem, ty3, ty4, ty33, ty48]
    first | refine h11 _ ?_ | refine ⟨by omega, h11 _ ?_⟩ | refine ⟨by omega, by omega, h11 _ ?_⟩ | (repeat (refine ⟨by first | omega | grind, ?_⟩)); refine h11 _ ?_
    clear h11 K11
    refine W_cond rfl (fun hb12 => ?_) fun hb12 => ?_
    · have hlt : i < es.length := by simpa using hb12
      have hv := redoN_get (es := es) (n := i) hw es[i].at_.toNat
      simp only [List.getD_eq_getElem?_getD] at hv
      clear hb12
      refine W_skip ?_
      first | refine h10 _ ?_ | refine ⟨by omega, h10 _ ?_⟩ | refine ⟨by omega, by omega, h10 _ ?_⟩ | (repeat (refine ⟨by first | omega | grind, ?_⟩)); refine h10 _ ?_
      clear h10 K10
      refine W_seqK fun K13 h13 => ?_
      refine W_block ?_
      refine W_seqK fun K14 h14 => ?_
      refine W_reg ?_
      simp [go_sem, ty3, ty33, ty48, hlt]
      first | refine h14 _ ?_ | refine ⟨by omega, h14 _ ?_⟩ | refine ⟨by omega, by omega, h14 _ ?_⟩ | (repeat (refine ⟨by first | omega | grind, ?_⟩)); refine h14 _ ?_
      clear h14 K14
      refine W_seqK fun K15 h15 => ?_
      refine W_seqK fun K16 h16 => ?_
      refine W_drawT true mixed (by decide +kernel) ?_
      simp (config := {maxSteps := 10000000}) [go_sem, ty3, ty4, ty33, hlt, hu]
      refine callG_pc (fun hG => pc_spec_l1In es[i].at_ (-1) 23) (by first | (simp; done) | (simp [inR_iff]; done) | (simp [inR_iff]; grind) | grind) (fun hG => by simp [go_sem]) rfl rfl (by first | exact Or.inl rfl | exact Or.inr rfl) ?_
      simp (config := {maxSteps := 10000000}) [go_sem, ty3, ty4, ty33, hlt, hu]
      repeat (refine ⟨by first | omega | grind, ?_⟩)
      refine callG_pc (fun hG => pc_spec_l1In es[i].put (-1) 65535) (by first | (simp; done) | (simp [inR_iff]; done) | (simp [inR_iff]; grind) | grind) (fun hG => by simp [go_sem]) rfl rfl (by first | exact Or.inl rfl | exact Or.inr rfl) ?_
      simp (config := {maxSteps := 10000000}) [go_sem, ty3, ty4, ty24, ty33, hlt, hu]
      first | refine h16 _ ?_ | refine ⟨by omega, h16 _ ?_⟩ | refine ⟨by omega, by omega, h16 _ ?_⟩ | (repeat (refine ⟨by first | omega | grind, ?_⟩)); refine h16 _ ?_
      clear h16 K16
      refine W_cond rfl (fun hb17 => ?_) fun hb17 => ?_
      · have hr : traceOk xs es = false := traceOk_bad hlt (by unfold okEv; by_cases ha : es[i].at_ = -1 <;> simp [ha, isW, inR] at hb17 ⊢ <;> first | omega | grind)
        refine W_seqK fun K18 h18 => ?_
        refine W_reg ?_
        simp [go_sem, ty4]
        first | refine h18 _ ?_ | refine ⟨by omega, h18 _ ?_⟩ | refine ⟨by omega, by omega, h18 _ ?_⟩ | (repeat (refine ⟨by first | omega | grind, ?_⟩)); refine h18 _ ?_
        clear h18 K18
        refine W_ret ?_
        simp [go_sem, hr]
      · have hok : okEv (redoN xs es i) es[i] = true := by unfold okEv; by_cases ha : es[i].at_ = -1 <;> simp [ha, isW, inR] at hb17 ⊢ <;> first | omega | grind
        have hsl : (es.drop i).take 1 = [es[i]] := by rw [List.drop_eq_getElem_cons hlt]; rfl
        have hone := redoN_one hlt (by omega : (redoN xs es i).length = 24)
        have ht : ((i : Int) + 1).toNat = i + 1 := by omega
        have hwr : IntKind.wrap .i64 ((i : Int) + 1) = (i : Int) + 1 := wrap_succ (by omega)
        have hu2 := redoN_len xs es (i + 1)
        clear hb17
        refine W_skip ?_
        first | refine h15 _ ?_ | refine ⟨by omega, h15 _ ?_⟩ | refine ⟨by omega, by omega, h15 _ ?_⟩ | (repeat (refine ⟨by first | omega | grind, ?_⟩)); refine h15 _ ?_
        clear h15 K15
        refine W_reg ?_
        simp [go_sem, ty3, ty24, ty33, ty48, hlt, hu, hwr, ht, hone, hu2]
        repeat (refine ⟨by first | omega | grind, ?_⟩)
        refine callG_pc (fun hG => pc_spec_Redo (redoN xs es i) [es[i]] (by omega) (by simp)) (by first | (simp; done) | (simp [inR_iff]; done) | (simp [inR_iff]; grind) | grind) (fun hG => by simp [go_sem, hu, hsl, hone, hu2]) rfl rfl (by first | exact Or.inl rfl | exact Or.inr rfl) ?_
        simp [go_sem, ty3, ty24, hlt, hu, hwr, ht, hone, hu2]
        first | refine h13 _ ?_ | refine ⟨by omega, h13 _ ?_⟩ | refine ⟨by omega, by omega, h13 _ ?_⟩ | (repeat (refine ⟨by first | omega | grind, ?_⟩)); refine h13 _ ?_
        clear h13 K13
        refine W_reg ?_
        simp [go_sem, ty3, hone, hu2]
        refine ⟨i + 1, ?_, ?_, ?_⟩
        · exact (Sub.swp_row 9 4 rfl).trans (Sub.of_tidy [1, 5, 6] [4, 1] [] 5 (by decide) (by simp [go_sem, wrap_succ (show i < 9223372036854775807 by omega)]))
        · exact ⟨hlt, fun j hj hji => by rcases Nat.lt_succ_iff_lt_or_eq.1 hji with h | rfl; exact hall j hj h; exact hok⟩
        · omega
    · obtain rfl : i = es.length := by simp at hb12; omega
      have hr : traceOk xs es = true := traceOk_good hw fun j hj => hall j hj hj
      clear hb12
      refine W_exit ?_
      simp [go_sem]
      first | refine h7 _ ?_ | refine ⟨by omega, h7 _ ?_⟩ | refine ⟨by omega, by omega, h7 _ ?_⟩ | (repeat (refine ⟨by first | omega | grind, ?_⟩)); refine h7 _ ?_
      clear h10 K10 h7 K7
      refine W_seqK fun K19 h19 => ?_
      refine W_reg ?_
      simp [go_sem, ty4]
      first | refine h19 _ ?_ | refine ⟨by omega, h19 _ ?_⟩ | refine ⟨by omega, by omega, h19 _ ?_⟩ | (repeat (refine ⟨by first | omega | grind, ?_⟩)); refine h19 _ ?_
      clear h19 K19
      refine W_ret ?_
      simp [go_sem, hr]
end Go.Tw
