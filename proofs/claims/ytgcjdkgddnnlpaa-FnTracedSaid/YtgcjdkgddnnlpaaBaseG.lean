/- The layer: trees, states, rules; plain functions. -/
import Derived.Test.YtgcjdkgddnnlpaaBaseF
set_option linter.unusedSimpArgs false
set_option linter.unusedVariables false
set_option linter.unnecessarySimpa false
namespace Go.Tw
def GEvent.mid (e : GEvent) : Prop := (0 ≤ e.pc ∧ e.pc ≤ 23) ∧ (-1 ≤ e.at_ ∧ e.at_ ≤ 23) ∧ (-1 ≤ e.got ∧ e.got ≤ 65535) ∧ -1 ≤ e.put ∧ e.put ≤ 65535
theorem getW {m : List Int} (hm : wordsOk m 24 = true) {t : Int} (h : 0 ≤ t ∧ t ≤ 23) : 0 ≤ m.getD t.toNat 0 ∧ m.getD t.toNat 0 ≤ 65535 := by
  have hl := wordsOk_len hm
  have ht : t.toNat < m.length := by omega
  rw [List.getD_eq_getElem?_getD, List.getElem?_eq_getElem ht]
  exact wordsOk_get hm ht
theorem event_step {m : List Int} {h : GHart} (who : Int) (he : evOk m h = true) : okEv m (eventOf m h who) = true ∧ redo1 m (eventOf m h who) = stepM m h ∧ (eventOf m h who).mid ∧ (eventOf m h who).who = who := by
  obtain ⟨hm, hh, hs⟩ := (evOk_iff m h).1 he
  obtain ⟨-, -, hpc, -⟩ := hart_facts hh
  have hp := fun hp => put_at (mem := m) (h := h) hp
  have ht := target_range (xAt m h) h.regs
  rcases ht with ht | ht
  · have hneg : ¬ 0 ≤ putAt m h := fun h9 => by
      have := (hp h9).1
      unfold tAt at this
      omega
    have e : eventOf m h who = ⟨who, h.pc, -1, -1, -1⟩ := by
      unfold eventOf
      rw [show target (decode (m.getD h.pc.toNat 0)) h.regs = -1 from ht]
      rfl
    rw [e]
    refine ⟨rfl, ?_, ⟨hpc, by simp only; omega, by simp only; omega, by simp only; omega⟩, rfl⟩
    unfold redo1 stepM
    rw [if_neg (by simp only; omega), if_neg hneg]
  · have hg := getW hm ht
    have htA : tAt m h = target (xAt m h) h.regs := rfl
    have hgA : gAt m h = m.getD (target (xAt m h) h.regs).toNat 0 := by unfold gAt; rw [htA, if_pos ht.1]
    have hpA : putAt m h = (work h (xAt m h) (m.getD (target (xAt m h) h.regs).toNat 0)).2 := by unfold putAt; rw [hgA]
    have e : eventOf m h who = ⟨who, h.pc, target (xAt m h) h.regs, if (xAt m h).op = 5 then -1 else m.getD (target (xAt m h) h.regs).toNat 0, putAt m h⟩ := by
      rw [hpA]
      unfold eventOf
      rw [if_neg (show ¬ target (decode (m.getD h.pc.toNat 0)) h.regs < 0 by have := ht.1; unfold xAt at this; omega)]
      rfl
    have hput2 : -1 ≤ putAt m h ∧ putAt m h ≤ 65535 := by rw [hpA]; exact work_put2 _ _ _
    have h5 : (xAt m h).op = 5 → 0 ≤ putAt m h := by
      intro h5
      have hi : insOk (xAt m h) = true := by
        by_cases hi : insOk (xAt m h) = true
        · exact hi
        · have : target (xAt m h) h.regs = -1 := by unfold target; rw [if_neg (fun q => hi q.1)]
          omega
      obtain ⟨hw, hl, -, -⟩ := hart_facts hh
      have hb := (insOk_range hi).2.2.2.1
      have hbl : (xAt m h).b.toNat < h.regs.length := by omega
      have hbw := wordsOk_get hw hbl
      rw [hpA]
      unfold work
      rw [if_pos ⟨hh, hs, (isW_iff _).2 hg⟩, if_pos hi, if_neg (by omega), if_neg (by omega), if_neg (by omega), if_neg (by omega), if_neg (by omega), if_pos h5]
      simp only [List.getD_eq_getElem?_getD, List.getElem?_eq_getElem hbl, Option.getD_some]
      exact hbw.1
    rw [e]
    generalize hTT : target (xAt m h) h.regs = T at *
    generalize hPP : putAt m h = Q at *
    refine ⟨?_, ?_, ⟨hpc, by simp only; omega, by simp only; split <;> omega, hput2⟩, rfl⟩
    · unfold okEv
      rw [if_neg (by simp only; omega)]
      simp only
      have h1 : inR T 0 23 = true := (inR_iff _ _ _).2 ht
      rw [h1]
      by_cases hop : (xAt m h).op = 5
      · have := h5 hop
        have hq : isW Q = true := (isW_iff _).2 (by omega)
        have hq1 : ¬ Q = -1 := by omega
        rw [if_pos hop, hq]
        simp [hq1]
      · rw [if_neg hop]
        have hq1 : ¬ m.getD T.toNat 0 = -1 := by omega
        have hq2 : (decide (Q = -1) || isW Q) = true := by
          by_cases h9 : Q = -1
          · simp [h9]
          · have : isW Q = true := (isW_iff _).2 (by omega)
            simp [this]
        rw [hq2]
        simp only [decide_eq_false hq1]
        simp
    · unfold redo1 stepM
      rw [hPP, htA]
      simp only
      by_cases h9 : 0 ≤ Q
      · rw [if_pos ⟨ht, h9, hput2.2⟩, if_pos h9]
      · rw [if_neg (by omega), if_neg h9]
def RunI0 (m0 : List Int) (s : Tr) : Prop := wordsOk s.m 24 = true ∧ (∀ e ∈ s.evs, e.mid ∧ 0 ≤ e.who ∧ e.who < s.hs.length) ∧ (∀ j, (hj : j < s.evs.length) → okEv (redoN m0 s.evs j) s.evs[j] = true) ∧ redoN m0 s.evs s.evs.length = s.m
theorem redoN_app (m0 : List Int) (es fs : List GEvent) {j : Nat} (h : j ≤ es.length) : redoN m0 (es ++ fs) j = redoN m0 es j := by
  unfold redoN; rw [List.take_append_of_le_length h]
theorem RunI0.step {m0 : List Int} {s : Tr} (hs : RunI0 m0 s) (i : Int) : RunI0 m0 (trStep s i) := by
  unfold trStep
  split
  · rename_i hg
    obtain ⟨h1, h2, h3, h4⟩ := hs
    unfold trGo at hg
    simp only [Bool.and_eq_true, decide_eq_true_eq] at hg
    obtain ⟨⟨g1, g2⟩, g3⟩ := hg
    obtain ⟨e1, e2, e3, e4⟩ := event_step i g3
    refine ⟨stepM_ok h1, fun e he => ?_, fun j hj => ?_, ?_⟩
    · rcases List.mem_append.1 he with he | he
      · have := h2 e he; simpa using this
      · have he2 := List.mem_singleton.1 he
        rw [he2]
        exact ⟨e3, by rw [e4]; exact g1, by rw [e4]; simpa using g2⟩
    · simp only [List.length_append, List.length_singleton] at hj
      by_cases hj2 : j < s.evs.length
      · rw [redoN_app _ _ _ (by omega)]
        simp only [List.getElem_append_left hj2]
        exact h3 j hj2
      · have : j = s.evs.length := by omega
        subst this
        rw [redoN_app _ _ _ (Nat.le_refl _), h4]
        simpa using e1
    · simp only [List.length_append, List.length_singleton]
      rw [redoN_succ (by simp), redoN_app _ _ _ (Nat.le_refl _), h4]
      simpa using e2
  · exact hs
theorem RunI0.all {m0 : List Int} : ∀ {s : Tr}, RunI0 m0 s → ∀ order : List Int, RunI0 m0 (order.foldl trStep s)
  | _, h, [] => h
  | _, h, i :: r => RunI0.all (h.step i) r
theorem trStep_hs (s : Tr) (i : Int) : (trStep s i).hs.length = s.hs.length := by unfold trStep; split <;> simp
theorem foldl_hs : ∀ (order : List Int) (s : Tr), (order.foldl trStep s).hs.length = s.hs.length
  | [], _ => rfl
  | i :: r, s => by rw [List.foldl_cons, foldl_hs r, trStep_hs]
theorem traced {m : List Int} {hs : List GHart} {order : List Int} (hm : wordsOk m 24 = true) (ho : order.length ≤ 2000) :
    traceOk m (trace m hs order) = true ∧ redo m (trace m hs order) = runM m hs order ∧ (trace m hs order).length ≤ order.length := by
  have h0 : RunI0 m ⟨m, hs, []⟩ := ⟨hm, by simp, by simp, rfl⟩
  obtain ⟨h1, h2, h3, h4⟩ := h0.all order
  have e : trace m hs order = (order.foldl trStep ⟨m, hs, []⟩).evs := by rw [trace_runS, runS_small ho]
  have e2 : runM m hs order = (order.foldl trStep ⟨m, hs, []⟩).m := by unfold runM; rw [runS_small ho]
  refine ⟨?_, ?_, ?_⟩
  · rw [e]; exact traceOk_good hm h3
  · rw [e, e2]
    unfold redo
    rw [if_pos (by have := wordsOk_len hm; omega)]
    exact h4
  · have := trN_evs ⟨m, hs, []⟩ order order.length
    rw [trN_all] at this
    rw [e]
    simpa using this
theorem trace_mid {m : List Int} {hs : List GHart} {order : List Int} : ∀ e ∈ trace m hs order, e.mid ∧ 0 ≤ e.who ∧ e.who < hs.length := by
  by_cases hm : wordsOk m 24 = true
  · by_cases ho : order.length ≤ 2000
    · have h0 : RunI0 m ⟨m, hs, []⟩ := ⟨hm, by simp, by simp, rfl⟩
      obtain ⟨h1, h2, h3, h4⟩ := h0.all order
      rw [trace_runS, runS_small ho]
      rw [foldl_hs] at h2
      exact h2
    · rw [trace_no (Or.inl (by omega))]; simp
  · rw [trace_no (Or.inr (by simpa using hm))]; simp
theorem GEvent.mid.ok {e : GEvent} (h : e.mid) (h0 : 0 ≤ e.who ∧ e.who ≤ 1048576) : e.ok := by
  obtain ⟨h1, h2, h3, h4⟩ := h
  unfold GEvent.ok
  refine ⟨?_, ?_, ?_, ?_, ?_⟩ <;> omega
end Go.Tw
namespace Go.Tw
theorem trace_oks {m : List Int} {hs : List GHart} {order : List Int} (h : hs.length ≤ 3) : ∀ e ∈ trace m hs order, e.ok := fun e he => by
  obtain ⟨h1, h2, h3⟩ := trace_mid e he
  exact h1.ok ⟨h2, by omega⟩
theorem oks_set {es : List GEvent} (h : ∀ e ∈ es, e.ok) {i : Nat} {x : GEvent} (hx : x.ok) : ∀ e ∈ es.set i x, e.ok := fun e he => by
  rcases List.mem_or_eq_of_mem_set he with he | rfl
  · exact h e he
  · exact hx
theorem all_words {xs : List Int} (h : xs.all isW = true) (h2 : xs.length = 24) : wordsOk xs 24 = true := by unfold wordsOk; rw [h]; simp [h2]
theorem not_words {xs : List Int} (h : xs.all isW = false) : wordsOk xs 24 = false := by unfold wordsOk; rw [h, Bool.and_false]
end Go.Tw
namespace Go.Tw
theorem wrap64_range (x : Int) : -9223372036854775808 ≤ IntKind.wrap .i64 x ∧ IntKind.wrap .i64 x ≤ 9223372036854775807 := by
  unfold IntKind.wrap
  simp [IntKind.bits, IntKind.signed]
  split <;> omega
end Go.Tw

namespace Go.Tw
end Go.Tw

namespace Go.Tw
end Go.Tw

namespace Go.Tw
end Go.Tw
namespace Go.Tw
end Go.Tw
namespace Go.Tw
end Go.Tw

