/- append, at the machine: in place, or into a new block. -/
import Derived.Test.YthajhlpbinjpgaaTw12
set_option linter.unusedSimpArgs false
set_option linter.unusedVariables false
namespace Go.Tw

section
variable {P : Program} {w : World}

/-- Where a slice's cells lie, as values. -/
def Holds (w : World) (z : Nat) (oa : Option Addr) (n cap : Nat) (olds : List Value) : Prop :=
  (cap = 0 ∧ n = 0 ∧ olds = []) ∨ ∃ a cs e0, oa = some a ∧ a.spot = none ∧ w.heap[a.block]? = some (.cells cs e0 (0, 0)) ∧ a.off + cap * z ≤ cs.size ∧ n ≤ cap ∧ olds = (cs.toList.drop a.off).take (n * z)

theorem setRow_cells {w : World} {g : Nat} {cs cs' : Array Value} {e : TypeId} (h : w.heap[g]? = some (.cells cs e (0, 0))) : (w.setRow g cs').heap[g]? = some (.cells cs' e (0, 0)) := setRow_heap w g cs cs' e (0, 0) h

theorem setRow_ne {w : World} {g b : Nat} {cs' : Array Value} (h : b ≠ g) : (w.setRow g cs').heap[b]? = w.heap[b]? := by
  simp only [World.setRow, Array.getElem?_modify]
  rw [if_neg (Ne.symm h)]

theorem append_run {t e ty : TypeId} (hu : (tyOf P t).u = .sl e) (hk : (tyOf P e).known = true) {z : Nat} (hz : (tyOf P e).sz = z) {oa ob : Option Addr} {n cap m c : Nat} {olds news : List Value}
    (ho : Holds w z oa n cap olds) (hl : news.length = m * z) (hn : m = 0 ∨ ∃ b, ob = some b ∧ ∀ j v, news[j]? = some v → w.cell? (b.add j) = some v) (h1 : ∀ v ∈ news, v.oneCell' = true)
    (hb : (n + m) * (tyOf P e).by_ ≤ 140737488355328) (hm : n + m ≤ 9223372036854775807) :
    ∃ r w', (Builtin.append_ #[t, t] ty #[.slice oa n cap, .slice ob m c]).run P w = .ok r w' ∧ w'.os = w.os ∧ w'.tape = w.tape ∧ w'.output = w.output ∧ w.heap.size ≤ w'.heap.size ∧
      ((m = 0 ∧ r = .slice oa n cap ∧ w' = w) ∨
       ∃ a' cap' cs' e', 0 < m ∧ r = .slice (some a') (n + m) cap' ∧ a'.spot = none ∧ w'.heap[a'.block]? = some (.cells cs' e' (0, 0)) ∧ a'.off + cap' * z ≤ cs'.size ∧ n + m ≤ cap' ∧
         (cs'.toList.drop a'.off).take ((n + m) * z) = olds ++ news ∧ (∀ b, b < w.heap.size → b ≠ a'.block → w'.heap[b]? = w.heap[b]?) ∧ a'.block < w'.heap.size ∧
         ((∃ a cs e0, oa = some a ∧ w.heap[a.block]? = some (.cells cs e0 (0, 0)) ∧ a'.block = a.block ∧ cap ≠ 0) ∨ a'.block = w.heap.size)) := by
  obtain ⟨i, zv, hi, hzv, _, hsz, hby, _, hzs⟩ := info_of_known' hk
  have hsl := u_sl hu
  rw [hsz] at hz
  rw [hby] at hb
  subst hz
  have hncap : n ≤ cap := by
    rcases ho with ⟨h1, h2, _⟩ | ⟨a, cs, e0, _, _, _, _, h, _⟩ <;> omega
  by_cases hm0 : m = 0
  · subst hm0
    have hnil : news = [] := List.eq_nil_of_length_eq_zero (by simpa using hl)
    refine ⟨.slice oa n cap, w, ?_, rfl, rfl, rfl, Nat.le_refl _, Or.inl ⟨rfl, rfl, rfl⟩⟩
    have hf : (Builtin.firstCells i.size 0 (.slice ob 0 c)).run P w = .ok #[] w := by
      cases ob with
      | none => rfl
      | some b => simp [Builtin.firstCells, loadCells, loadCellsFrom]
    cases oa with
    | none => simp [Builtin.append_, run_underlying hsl, sizeOf, typeInfo, hi, Builtin.lenOf, hncap, hf]
    | some a => simp [Builtin.append_, run_underlying hsl, sizeOf, typeInfo, hi, Builtin.lenOf, hncap, hf, storeCells]
  · obtain ⟨b, rfl, hcell⟩ := hn.resolve_left hm0
    by_cases hroom : n + m ≤ cap
    · -- in place
      rcases ho with ⟨h1, h2, _⟩ | ⟨a, cs, e0, rfl, hsp, hcs, hsize, _, rfl⟩
      · omega
      · have hmul : (n + m) * i.size ≤ cap * i.size := Nat.mul_le_mul_right _ hroom
        have hnm : (n + m) * i.size = n * i.size + m * i.size := Nat.add_mul ..
        have hf := run_firstCells_some (P := P) w i.size m b m c news hl hcell
        have hst := run_storeCells_at P a.block (a.off + n * i.size) e0 news 0 cs w hcs (by rw [hl]; omega) h1
        simp only [Nat.add_zero] at hst
        refine ⟨.slice (some a) (n + m) cap, w.setRow a.block (cs.toList.take (a.off + n * i.size) ++ news ++ cs.toList.drop (a.off + n * i.size + news.length)).toArray, ?_, rfl, rfl, rfl, by simp [World.setRow], Or.inr ?_⟩
        · have hadd : a.add (n * i.size) = ⟨a.block, a.off + n * i.size, none⟩ := Addr.add_plain hsp _
          simp [Builtin.append_, run_underlying hsl, sizeOf, typeInfo, hi, Builtin.lenOf, hroom, hf, hadd, hst]
        · refine ⟨a, cap, _, e0, by omega, rfl, hsp, setRow_cells hcs, ?_, hroom, ?_, fun x _ hx => setRow_ne hx, ?_, Or.inl ⟨a, cs, e0, rfl, hcs, rfl, by omega⟩⟩
          · simp; omega
          · simp only []
            apply List.ext_getElem?
            intro j
            have hlen : ((cs.toList.drop a.off).take (n * i.size)).length = n * i.size := by simp; omega
            have hR : ((cs.toList.drop a.off).take (n * i.size) ++ news)[j]? = if j < n * i.size then ((cs.toList.drop a.off).take (n * i.size))[j]? else news[j - n * i.size]? := by
              rw [List.getElem?_append, hlen]
            rw [List.getElem?_take, List.getElem?_drop, hR]
            have hpg := patch_get (ls := cs.toList) (off := a.off + n * i.size) (xs := news) (by simp; omega) (a.off + j)
            rw [hpg]
            by_cases h1 : j < n * i.size
            · rw [if_pos (by omega), if_pos (by omega), if_pos h1, List.getElem?_take, if_pos h1, List.getElem?_drop]
            · rw [if_neg h1]
              by_cases h2 : j < n * i.size + m * i.size
              · rw [if_pos (by omega), if_neg (by omega), if_pos (by omega)]
                congr 1
                omega
              · rw [if_neg (by omega), List.getElem?_eq_none (by omega)]
          · simp only [World.setRow, Array.size_modify]
            exact (Array.getElem?_eq_some_iff.1 hcs).1
    · -- a new block
      have main : ∀ (olds : List Value) (r : Value) (cp : Nat), olds.length = n * i.size → n + m ≤ cp →
          ∀ w', w' = w.drew.alloc (.cells (olds.toArray ++ news.toArray ++ Builtin.zeroCells zv.cells (cp - (n + m))) e) → r = .slice (some ⟨w.heap.size, 0, none⟩) (n + m) cp → zv.cells.size = i.size →
          w'.os = w.os ∧ w'.tape = w.tape ∧ w'.output = w.output ∧ w.heap.size ≤ w'.heap.size ∧ ((m = 0 ∧ r = .slice oa n cap ∧ w' = w) ∨
            ∃ a' cap' cs' e', 0 < m ∧ r = .slice (some a') (n + m) cap' ∧ a'.spot = none ∧ w'.heap[a'.block]? = some (.cells cs' e' (0, 0)) ∧ a'.off + cap' * i.size ≤ cs'.size ∧ n + m ≤ cap' ∧
              (cs'.toList.drop a'.off).take ((n + m) * i.size) = olds ++ news ∧ (∀ b, b < w.heap.size → b ≠ a'.block → w'.heap[b]? = w.heap[b]?) ∧ a'.block < w'.heap.size ∧
              ((∃ a cs e0, oa = some a ∧ w.heap[a.block]? = some (.cells cs e0 (0, 0)) ∧ a'.block = a.block ∧ cap ≠ 0) ∨ a'.block = w.heap.size)) := by
        intro olds r cp hlo hcp w' hw' hr hzs
        subst hw' hr
        refine ⟨rfl, rfl, rfl, by simp, Or.inr ⟨⟨w.heap.size, 0, none⟩, cp, _, e, by omega, rfl, rfl, heap_alloc_new w.drew _, ?_, hcp, ?_, fun x hx _ => heap_alloc_old w.drew _ x hx, by simp, Or.inr rfl⟩⟩
        · simp only [Array.size_append, List.size_toArray, size_zeroCells, hzs, hlo, hl, Nat.zero_add]
          rw [← Nat.add_mul, ← Nat.add_mul]
          exact Nat.mul_le_mul_right _ (by omega)
        · have hlen : (olds ++ news).length = (n + m) * i.size := by rw [List.length_append, hlo, hl, Nat.add_mul]
          simp only [Array.toList_append, List.append_assoc, List.drop_zero]
          rw [← List.append_assoc, ← hlen]
          exact List.take_left
      rcases ho with ⟨hc0, hn0, rfl⟩ | ⟨a, cs, e0, rfl, hsp, hcs, hsize, _, rfl⟩
      · subst hc0 hn0
        cases oa with
        | none =>
          have hr := run_append_nil (P := P) w t ty e i zv hsl hi hzv b m c news hl hcell (by omega) (by omega) (by have hb' := hb; simp only [Nat.zero_add] at hb'; omega)
          obtain ⟨h2, h3, h4, h5, h6⟩ := main [] _ (grownCap w m 0 e) (by simp) (by simpa using grownCap_ge w m 0 e) _ (by simp; rfl) (by simp; rfl) hzs
          refine ⟨_, _, ?_, h2, h3, h4, h5, h6⟩
          simpa using hr
        | some a =>
          have hr := run_append_grow (P := P) w t ty e i zv hsl hi hzv a 0 0 [] (by simp) (by simp) b m c news hl hcell (by omega) (by omega) (growslice_fits (by omega) hb)
          obtain ⟨h2, h3, h4, h5, h6⟩ := main [] _ (grownCap w (0 + m) 0 e) (by simp) (grownCap_ge w (0 + m) 0 e) _ rfl rfl hzs
          exact ⟨_, _, hr, h2, h3, h4, h5, h6⟩
      · have hlo : ((cs.toList.drop a.off).take (n * i.size)).length = n * i.size := by
          have : n * i.size ≤ cap * i.size := Nat.mul_le_mul_right _ hncap
          simp; omega
        have hr := run_append_grow (P := P) w t ty e i zv hsl hi hzv a n cap _ hlo (fun j v hv => by
          rw [List.getElem?_take] at hv
          split at hv
          · rw [List.getElem?_drop] at hv
            rw [Addr.add_plain hsp]
            simpa [World.cell?, hcs] using hv
          · cases hv) b m c news hl hcell (by omega) (by omega) (growslice_fits (by omega) hb)
        obtain ⟨h2, h3, h4, h5, h6⟩ := main _ _ (grownCap w (n + m) cap e) hlo (grownCap_ge w (n + m) cap e) _ rfl rfl hzs
        exact ⟨_, _, hr, h2, h3, h4, h5, h6⟩

end

end Go.Tw
