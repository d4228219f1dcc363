/- A store, of a state: into a box, into an element of a row. -/
import Derived.Test.YthajhlpbinjpgaaTw17
set_option linter.unusedSimpArgs false
set_option linter.unusedVariables false
namespace Go.Tw

def patchT (x : List T) (j : Nat) (ts : List T) : List T := x.take j ++ ts ++ x.drop (j + ts.length)

theorem patchT_length {x : List T} {j : Nat} {ts : List T} (h : j + ts.length ≤ x.length) : (patchT x j ts).length = x.length := by simp [patchT]; omega

theorem patchT_get {x : List T} {j : Nat} {ts : List T} (h : j + ts.length ≤ x.length) (k : Nat) :
    (patchT x j ts)[k]? = if k < j then x[k]? else if k < j + ts.length then ts[k - j]? else x[k]? := patch_get h k

section
variable {P : Program} {w0 w w' : World} {Al : Blks} {N : Nat} {g : Gh} {σ : St} {a : Act}

/-- A row's block with some cells turned. -/
def World.seg (w : World) (b o : Nat) (cs : Array Value) (vs : List Value) : World := w.setRow b (cs.toList.take o ++ vs ++ cs.toList.drop (o + vs.length)).toArray

theorem seg_self {b o : Nat} {cs : Array Value} {e : TypeId} {vs : List Value} (h : w.heap[b]? = some (.cells cs e (0, 0))) :
    (World.seg w b o cs vs).heap[b]? = some (.cells (cs.toList.take o ++ vs ++ cs.toList.drop (o + vs.length)).toArray e (0, 0)) := setRow_cells h

theorem seg_ne {b o c : Nat} {cs : Array Value} {vs : List Value} (h : c ≠ b) : (World.seg w b o cs vs).heap[c]? = w.heap[c]? := setRow_ne h

theorem seg_size {b o : Nat} {cs : Array Value} {vs : List Value} : (World.seg w b o cs vs).heap.size = w.heap.size := by simp [World.seg, World.setRow]

theorem seg_get {o k : Nat} {cs : Array Value} {vs : List Value} (h : o + vs.length ≤ cs.size) :
    (cs.toList.take o ++ vs ++ cs.toList.drop (o + vs.length)).toArray.getD k undef = if k < o then cs.getD k undef else if k < o + vs.length then vs.getD (k - o) undef else cs.getD k undef := by
  rw [Array.getD_eq_getD_getElem?, List.getElem?_toArray, patch_get (by simpa using h)]
  split
  · simp [Array.getD_eq_getD_getElem?]
  · split
    · rw [List.getD_eq_getElem?_getD]
    · simp [Array.getD_eq_getD_getElem?]

theorem run_storeVar' {t : TypeId} (hk : (P.info? t).isSome) {b o : Nat} {cs : Array Value} {e : TypeId} {v : Value} (hb : w.heap[b]? = some (.cells cs e (0, 0))) (hs : v.cells.size = P.cellsOf t) (ho : o + v.cells.size ≤ cs.size)
    (h1 : ∀ x ∈ v.cells.toList, x.oneCell' = true) : (storeVar t ⟨b, o, none⟩ v).run P w = .ok () (World.seg w b o cs v.cells.toList) := by
  have hst := run_storeCells_at P b o e v.cells.toList 0 cs w hb (by simpa using ho) h1
  simp only [Nat.add_zero] at hst
  simp only [storeVar, Sem.run_bind, run_sizeOf_info hk, Result.andThen_ok, hs, ne_eq, not_true_eq_false, if_false]
  exact hst

/-- In place, into an element of a row that is owned whole. -/
theorem node_store {oa : Option Addr} {n cap z : Nat} {es : Els} {G : Blks} (h : Rep w true (.slice oa n cap) (.sl z es) G) {i j : Nat} {x : List T} (hx : es[i]? = some x) {ts : List T} {vs : List Value} (hl : vs.length = ts.length)
    (hj : j + ts.length ≤ x.length) {fn : Nat → Blks} (hv : ∀ k t v, ts[k]? = some t → vs[k]? = some v → Rep w true v t (fn k)) (hd : ∀ k k' b, fn k b → fn k' b → k = k') (hG : ∀ k b, fn k b → ¬ G b) :
    ∃ ad cs e, oa = some ad ∧ ad.spot = none ∧ w.heap[ad.block]? = some (.cells cs e (0, 0)) ∧ ad.off + i * z + j + vs.length ≤ cs.size ∧ G ad.block ∧
      Rep (World.seg w ad.block (ad.off + i * z + j) cs vs) true (.slice oa n cap) (.sl z (es.set i (patchT x j ts))) fun b => G b ∨ ∃ k, fn k b := by
  cases h with
  | nils => simp at hx
  | bare => simp at hx
  | @sl ad _ _ _ _ cs f hlies hF hsub hdn hdd hr =>
    obtain ⟨e, fr, hb, hfr⟩ := hlies.blk
    rw [hfr rfl] at hb
    have hi : i < es.length := (List.getElem?_eq_some_iff.1 hx).1
    have hz : x.length = z := hlies.each x (List.mem_of_getElem? hx)
    have hroom := hlies.room
    have hmul : (i + 1) * z ≤ cap * z := Nat.mul_le_mul_right z (by have := hlies.len; omega)
    rw [Nat.add_mul, Nat.one_mul] at hmul
    have hfit : ad.off + i * z + j + vs.length ≤ cs.size := by omega
    refine ⟨ad, cs, e, rfl, hlies.spot, hb, hfit, hF, ?_⟩
    have hlen : (es.set i (patchT x j ts)).length = es.length := by simp
    rw [← hlen]
    refine .sl (fun i' j' b => if i' = i ∧ j ≤ j' ∧ j' < j + ts.length then fn (j' - j) b else f i' j' b) ⟨⟨e, (0, 0), seg_self hb, fun _ => rfl⟩, hlies.spot, by rw [hlen]; exact hlies.len, by simp; omega, fun y hy => ?_⟩ (Or.inl hF) (fun i' j' b hb' => ?_) (fun _ i' j' hb' => ?_) (fun _ i1 j1 i2 j2 b h1 h2 => ?_) (fun i' j' y c hy hc => ?_)
    · rcases List.mem_or_eq_of_mem_set hy with hy | rfl
      · exact hlies.each y hy
      · rw [patchT_length hj]; exact hz
    · split at hb'
      · exact Or.inr ⟨_, hb'⟩
      · exact Or.inl (hsub _ _ b hb')
    · split at hb'
      · exact hG _ _ hb' hF
      · exact hdn rfl _ _ hb'
    · split at h1 <;> split at h2
      · rename_i e1 e2; have := hd _ _ b h1 h2; omega
      · exact absurd (hsub _ _ b h2) (hG _ b h1)
      · exact absurd (hsub _ _ b h1) (hG _ b h2)
      · exact hdd rfl _ _ _ _ b h1 h2
    · rw [seg_get hfit]
      have hj'z : j' < z := by
        have hy' : y.length = z := by
          rcases List.mem_or_eq_of_mem_set (List.mem_of_getElem? hy) with hy | rfl
          · exact hlies.each y hy
          · rw [patchT_length hj]; exact hz
        exact hy' ▸ (List.getElem?_eq_some_iff.1 hc).1
      by_cases hi' : i' = i
      · subst hi'
        rw [List.getElem?_set_self hi] at hy
        cases hy
        rw [patchT_get hj] at hc
        by_cases h1 : j' < j
        · rw [if_pos h1] at hc
          rw [if_pos (by omega)]
          refine ((hr i' j' x c hx hc).frame (w' := World.seg w ad.block (ad.off + i' * z + j) cs vs) fun b hb' => seg_ne fun e => hdn rfl i' j' (e ▸ hb')).mono fun b hb' => ?_
          rw [if_neg (by omega)]
          exact hb'
        · rw [if_neg h1] at hc
          by_cases h2 : j' < j + ts.length
          · rw [if_pos h2] at hc
            rw [if_neg (by omega), if_pos (by omega)]
            have hk : j' - j < vs.length := by omega
            have e1 : ad.off + i' * z + j' - (ad.off + i' * z + j) = j' - j := by omega
            rw [e1, List.getD_eq_getElem?_getD, List.getElem?_eq_getElem hk]
            refine ((hv (j' - j) c _ hc (List.getElem?_eq_getElem hk)).frame (w' := World.seg w ad.block (ad.off + i' * z + j) cs vs) fun b hb' => seg_ne fun e => hG _ b hb' (e ▸ hF)).mono fun b hb' => ?_
            rw [if_pos ⟨rfl, by omega, h2⟩]
            exact hb'
          · rw [if_neg h2] at hc
            rw [if_neg (by omega), if_neg (by omega)]
            refine ((hr i' j' x c hx hc).frame (w' := World.seg w ad.block (ad.off + i' * z + j) cs vs) fun b hb' => seg_ne fun e => hdn rfl i' j' (e ▸ hb')).mono fun b hb' => ?_
            rw [if_neg (by omega)]
            exact hb'
      · rw [List.getElem?_set_ne (Ne.symm hi')] at hy
        have hout : ¬ (ad.off + i * z + j ≤ ad.off + i' * z + j' ∧ ad.off + i' * z + j' < ad.off + i * z + j + vs.length) := by
          rintro ⟨q1, q2⟩
          rcases Nat.lt_or_gt_of_ne hi' with h | h
          · have : (i' + 1) * z ≤ i * z := Nat.mul_le_mul_right z h
            rw [Nat.add_mul, Nat.one_mul] at this
            omega
          · have : (i + 1) * z ≤ i' * z := Nat.mul_le_mul_right z h
            rw [Nat.add_mul, Nat.one_mul] at this
            omega
        have hfr := ((hr i' j' y c hy hc).frame (w' := World.seg w ad.block (ad.off + i * z + j) cs vs) fun b hb' => seg_ne fun e => hdn rfl i' j' (e ▸ hb')).mono (G := fun b => if i' = i ∧ j ≤ j' ∧ j' < j + ts.length then fn (j' - j) b else f i' j' b) fun b hb' => by rw [if_neg (by omega)]; exact hb'
        split
        · exact hfr
        · rw [if_neg (by omega)]
          exact hfr

/-- In place, into an element of a row of which the elements alone are owned. -/
theorem top_store {oa : Option Addr} {n cap z : Nat} {es : Els} {F K : Blks} (h : RepTop w (.slice oa n cap) z es F K) {i j : Nat} {x : List T} (hx : es[i]? = some x) {ts : List T} {vs : List Value} (hl : vs.length = ts.length)
    (hj : j + ts.length ≤ x.length) (hv : ∀ (k : Nat) (t : T) (v : Value), ts[k]? = some t → vs[k]? = some v → Rep w false v t K) (hFK : ∀ b, F b → ¬ K b) :
    ∃ ad cs e, oa = some ad ∧ ad.spot = none ∧ w.heap[ad.block]? = some (.cells cs e (0, 0)) ∧ ad.off + i * z + j + vs.length ≤ cs.size ∧ F ad.block ∧
      RepTop (World.seg w ad.block (ad.off + i * z + j) cs vs) (.slice oa n cap) z (es.set i (patchT x j ts)) F K := by
  rcases h with ⟨rfl, _⟩ | ⟨ad, cap', cs, e0, hlies, hF, hr⟩
  · simp at hx
  · injection e0 with q1 q2 q3
    subst q1 q2 q3
    obtain ⟨e, fr, hb, hfr⟩ := hlies.blk
    rw [hfr rfl] at hb
    have hi : i < es.length := (List.getElem?_eq_some_iff.1 hx).1
    have hz : x.length = z := hlies.each x (List.mem_of_getElem? hx)
    have hroom := hlies.room
    have hmul : (i + 1) * z ≤ cap * z := Nat.mul_le_mul_right z (by have := hlies.len; omega)
    rw [Nat.add_mul, Nat.one_mul] at hmul
    have hfit : ad.off + i * z + j + vs.length ≤ cs.size := by omega
    refine ⟨ad, cs, e, rfl, hlies.spot, hb, hfit, hF, ?_⟩
    have hlen : (es.set i (patchT x j ts)).length = es.length := by simp
    have hkeep : ∀ {v : Value} {c : T}, Rep w false v c K → Rep (World.seg w ad.block (ad.off + i * z + j) cs vs) false v c K := fun h => h.frame fun b hb' => seg_ne fun e => hFK b (e ▸ hF) hb'
    refine Or.inr ⟨ad, cap, _, by rw [hlen], ⟨⟨e, (0, 0), seg_self hb, fun _ => rfl⟩, hlies.spot, by rw [hlen]; exact hlies.len, by simp; omega, fun y hy => ?_⟩, hF, fun i' j' y c hy hc => ?_⟩
    · rcases List.mem_or_eq_of_mem_set hy with hy | rfl
      · exact hlies.each y hy
      · rw [patchT_length hj]; exact hz
    · rw [seg_get hfit]
      have hj'z : j' < z := by
        have hy' : y.length = z := by
          rcases List.mem_or_eq_of_mem_set (List.mem_of_getElem? hy) with hy | rfl
          · exact hlies.each y hy
          · rw [patchT_length hj]; exact hz
        exact hy' ▸ (List.getElem?_eq_some_iff.1 hc).1
      by_cases hi' : i' = i
      · subst hi'
        rw [List.getElem?_set_self hi] at hy
        cases hy
        rw [patchT_get hj] at hc
        by_cases h1 : j' < j
        · rw [if_pos h1] at hc
          rw [if_pos (by omega)]
          exact hkeep (hr i' j' x c hx hc)
        · rw [if_neg h1] at hc
          by_cases h2 : j' < j + ts.length
          · rw [if_pos h2] at hc
            rw [if_neg (by omega), if_pos (by omega)]
            have hk : j' - j < vs.length := by omega
            have e1 : ad.off + i' * z + j' - (ad.off + i' * z + j) = j' - j := by omega
            rw [e1, List.getD_eq_getElem?_getD, List.getElem?_eq_getElem hk]
            exact hkeep (hv (j' - j) c _ hc (List.getElem?_eq_getElem hk))
          · rw [if_neg h2] at hc
            rw [if_neg (by omega), if_neg (by omega)]
            exact hkeep (hr i' j' x c hx hc)
      · rw [List.getElem?_set_ne (Ne.symm hi')] at hy
        have hout : ¬ (ad.off + i * z + j ≤ ad.off + i' * z + j' ∧ ad.off + i' * z + j' < ad.off + i * z + j + vs.length) := by
          rintro ⟨q1, q2⟩
          rcases Nat.lt_or_gt_of_ne hi' with h | h
          · have : (i' + 1) * z ≤ i * z := Nat.mul_le_mul_right z h
            rw [Nat.add_mul, Nat.one_mul] at this
            omega
          · have : (i + 1) * z ≤ i' * z := Nat.mul_le_mul_right z h
            rw [Nat.add_mul, Nat.one_mul] at this
            omega
        split
        · exact hkeep (hr i' j' y c hy hc)
        · rw [if_neg (by omega)]
          exact hkeep (hr i' j' y c hy hc)

end

end Go.Tw
