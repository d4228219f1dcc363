/- From a row's reading of its arguments to trees, by type. -/
import Derived.Test.YthajhlpbinjpgaaTw35
import Derived.WalkKit
import Derived.ProofKit
import Derived.OpenShut
import Derived.ShutString
import Derived.ChangeOld
import Derived.Below
import Derived.SizedLaws
import Derived.ChangeSlices
import Derived.ChangeArms
set_option linter.unusedSimpArgs false
set_option linter.unusedVariables false
namespace Go.Tw

/-- What a cell of a type may hold. -/
inductive TD where
  | int (k : IntKind)
  | bool
  | str
  | sl (z : Nat) (fs : List TD)

def tdFields (P : Program) (r : TypeId → Option (List TD)) : Nat → List Field → Option (List TD)
  | _, [] => some []
  | off, f :: fs => if f.offset = off then (r f.type).bind fun l => if l.length = P.cellsOf f.type then (tdFields P r (off + l.length) fs).map (l ++ ·) else none else none

/-- Cell by cell of a type. -/
def tdOf (P : Program) : Nat → TypeId → Option (List TD)
  | 0, _ => none
  | n + 1, t => match P.underlying t with
    | some (.int k) => some [.int k]
    | some .bool => some [.bool]
    | some .string => some [.str]
    | some (.slice e) => (tdOf P n e).bind fun l => if l.length = P.cellsOf e ∧ 0 < l.length then some [.sl l.length l] else none
    | some (.struct fs) => (tdFields P (tdOf P n) 0 fs.toList).bind fun l => if l.length = P.cellsOf t then some l else none
    | _ => none

inductive Fits : TD → T → Prop where
  | int {k : IntKind} {n : Int} (h1 : k.min ≤ n) (h2 : n ≤ k.max) : Fits (.int k) (.int k n)
  | bool {b : Bool} : Fits .bool (.bool b)
  | str {s : ByteArray} (h : s.size ≤ 9223372036854775807) : Fits .str (.str s)
  | sl {z : Nat} {fs : List TD} {es : Els} (hl : es.length ≤ 9223372036854775807) (hz : ∀ x ∈ es, x.length = fs.length)
      (he : ∀ x ∈ es, ∀ (j : Nat) d t, fs[j]? = some d → x[j]? = some t → Fits d t) : Fits (.sl z fs) (.sl z es)

structure FitsL (ds : List TD) (ts : List T) : Prop where
  len : ts.length = ds.length
  each : ∀ (j : Nat) d t, ds[j]? = some d → ts[j]? = some t → Fits d t

/-- Cells that read as trees of a type. -/
structure Reads (w : World) (ds : List TD) (cs : List Value) (ts : List T) : Prop where
  fits : FitsL ds ts
  len : cs.length = ds.length
  rep : ∀ (j : Nat) t v, ts[j]? = some t → cs[j]? = some v → Rep w false v t fun _ => True

section
variable {H : Type} {enc : TypeId × Value → H} {P : Program} {w : World}

theorem Reads.one {d : TD} {v : Value} {t : T} (hf : Fits d t) (hr : Rep w false v t fun _ => True) : Reads w [d] [v] [t] :=
  ⟨⟨rfl, fun j d' t' h1 h2 => by
    cases j with
    | zero => simp at h1 h2; subst h1 h2; exact hf
    | succ j => simp at h1⟩, rfl, fun j t' v' h1 h2 => by
    cases j with
    | zero => simp at h1 h2; subst h1 h2; exact hr
    | succ j => simp at h1⟩

theorem Reads.nil : Reads w [] [] [] := ⟨⟨rfl, fun _ _ _ h => by simp at h⟩, rfl, fun _ _ _ h => by simp at h⟩

theorem Reads.append {d1 d2 : List TD} {c1 c2 : List Value} {t1 t2 : List T} (h1 : Reads w d1 c1 t1) (h2 : Reads w d2 c2 t2) : Reads w (d1 ++ d2) (c1 ++ c2) (t1 ++ t2) := by
  have l1 := h1.fits.len
  have l2 := h1.len
  refine ⟨⟨by simp [l1, h2.fits.len], fun j d t hd ht => ?_⟩, by simp [l2, h2.len], fun j t v ht hv => ?_⟩
  · by_cases hj : j < d1.length
    · rw [List.getElem?_append_left hj] at hd
      rw [List.getElem?_append_left (by omega)] at ht
      exact h1.fits.each j d t hd ht
    · rw [List.getElem?_append_right (by omega)] at hd
      rw [List.getElem?_append_right (by omega), l1] at ht
      exact h2.fits.each _ d t hd ht
  · by_cases hj : j < t1.length
    · rw [List.getElem?_append_left hj] at ht
      rw [List.getElem?_append_left (by omega)] at hv
      exact h1.rep j t v ht hv
    · rw [List.getElem?_append_right (by omega)] at ht
      rw [List.getElem?_append_right (by omega), show j - c1.length = j - t1.length from by omega] at hv
      exact h2.rep _ t v ht hv

/-- A choice for each of so many. -/
theorem choose_list {α : Type} {Q : Nat → α → Prop} : ∀ (n : Nat), (∀ i, i < n → ∃ x, Q i x) → ∃ xs : List α, xs.length = n ∧ ∀ i x, xs[i]? = some x → Q i x
  | 0, _ => ⟨[], rfl, fun i x h => by simp at h⟩
  | n + 1, h => by
    obtain ⟨xs, hl, hx⟩ := choose_list n fun i hi => h i (by omega)
    obtain ⟨y, hy⟩ := h n (by omega)
    refine ⟨xs ++ [y], by simp [hl], fun i x hi => ?_⟩
    by_cases hlt : i < n
    · rw [List.getElem?_append_left (by omega)] at hi
      exact hx i x hi
    · rw [List.getElem?_append_right (by omega)] at hi
      cases he : i - xs.length with
      | zero =>
        rw [he] at hi
        simp at hi
        subst hi
        obtain rfl : i = n := by omega
        exact hy
      | succ k => rw [he] at hi; simp at hi

theorem cells_len {base : Nat} {a : Addr} {n : Nat} {cs : List Value} (h : w.cells? base a n = some cs) : cs.length = n ∧ ∀ i, i < n → w.cell? (a.add i) = cs[i]? := by
  unfold World.cells? at h
  split at h
  · refine ⟨by simpa using mapM_some_length h, fun i hi => ?_⟩
    exact mapM_some_get h i i (by simp [hi])
  · cases h

theorem spot_of_cell {x : Addr} {v : Value} (h : w.cell? x = some v) : x.spot = none := by
  unfold World.cell? at h
  split at h
  · split at h
    · cases h
    · rename_i hs; simpa using hs
  · cases h

theorem block_of_cell {x : Addr} {v : Value} (h : w.cell? x = some v) : ∃ cs e fr, w.heap[x.block]? = some (.cells cs e fr) ∧ cs[x.off]? = some v := by
  unfold World.cell? at h
  split at h
  · split at h
    · cases h
    · rename_i cs e fr hb _
      exact ⟨cs, e, fr, hb, h⟩
  · cases h

theorem add_spot {a : Addr} {n : Nat} (h : (a.add n).spot = none) (h0 : n = 0 ∨ a.spot = none) : a.spot = none := by
  rcases h0 with rfl | h0
  · rwa [show a.add 0 = a from by simp [Addr.add]] at h
  · exact h0

theorem fields_reads {r : TypeId → Option (List TD)} {rd : TypeId → List Value → Option (DataW H × List MemPlace)}
    (ih : ∀ t ds cs x, r t = some ds → rd t cs = some x → ∃ ts, Reads w ds cs ts) :
    ∀ (fs : List Field) (off : Nat) (ds : List TD) (cs : List Value) (xs : List (DataW H × List MemPlace)), tdFields P r off fs = some ds → xs.length = fs.length →
      (∀ (i : Nat) (f : Field), fs[i]? = some f → rd f.type ((cs.drop f.offset).take (P.cellsOf f.type)) = xs[i]?) → off + ds.length ≤ cs.length →
      ∃ ts, Reads w ds ((cs.drop off).take ds.length) ts
  | [], off, ds, cs, xs, h, _, _, _ => by
    simp only [tdFields, Option.some.injEq] at h
    subst h
    exact ⟨[], by simpa using Reads.nil⟩
  | f :: fs, off, ds, cs, xs, h, hl, hx, hc => by
    simp only [tdFields] at h
    split at h
    · rename_i hoff
      simp only [Option.bind_eq_some_iff] at h
      obtain ⟨l, hr, h⟩ := h
      split at h
      · rename_i hlen
        simp only [Option.map_eq_some_iff] at h
        obtain ⟨ds', hd, rfl⟩ := h
        match xs, hl with
        | x :: xs, hl =>
          have h0 := hx 0 f rfl
          simp only [List.getElem?_cons_zero] at h0
          obtain ⟨ts1, R1⟩ := ih f.type l _ x hr h0
          simp only [List.length_append] at hc
          obtain ⟨ts2, R2⟩ := fields_reads ih fs (off + l.length) ds' cs xs hd (by simpa using hl) (fun i g hg => hx (i + 1) g (by simpa using hg)) (by omega)
          refine ⟨ts1 ++ ts2, ?_⟩
          have e : (cs.drop off).take (l ++ ds').length = (cs.drop f.offset).take (P.cellsOf f.type) ++ (cs.drop (off + l.length)).take ds'.length := by
            rw [List.length_append, List.take_add, hoff, hlen, List.drop_drop]
          rw [e]
          exact R1.append R2
        | [], hl => simp at hl
      · cases h
    · cases h

theorem tree_of : ∀ (n : Nat) (t : TypeId) (ds : List TD), tdOf P n t = some ds → ∀ (fuel : Nat) (cs : List Value) (x : DataW H × List MemPlace), DataW.trod enc P w 0 (fun _ => true) true fuel t cs = some x →
    ∃ ts, Reads w ds cs ts
  | 0, _, _, h, _, _, _, _ => by cases h
  | n + 1, t, ds, h, fuel, cs, x, hx => by
    simp only [tdOf] at h
    split at h
    · rename_i k hu
      simp only [Option.some.injEq] at h
      subst h
      obtain ⟨m, rfl, _, hw⟩ := DataW.trod_int hu hx
      simp [Lit.wf] at hw
      exact ⟨[.int k m], Reads.one (.int hw.1 hw.2) .int⟩
    · rename_i hu
      simp only [Option.some.injEq] at h
      subst h
      obtain ⟨b, rfl, _⟩ := DataW.trod_bool hu hx
      exact ⟨[.bool b], Reads.one .bool .bool⟩
    · rename_i hu
      simp only [Option.some.injEq] at h
      subst h
      obtain ⟨s, rfl, _, hs⟩ := DataW.trod_string hu hx
      exact ⟨[.str s], Reads.one (.str (by simpa [maxLen] using hs)) .str⟩
    · rename_i e hu
      simp only [Option.bind_eq_some_iff] at h
      obtain ⟨l, he, h⟩ := h
      split at h
      · rename_i hz
        obtain ⟨hz, hpos⟩ := hz
        simp only [Option.some.injEq] at h
        subst h
        rcases DataW.trod_slice hu hx with ⟨rfl, _⟩ | ⟨a, len, cap, elems, rest, m, rfl, rfl, _, _, hlc, hcap, hel, hes, hrest, _⟩
        · exact ⟨[.sl l.length []], Reads.one (.sl (by simp) (by simp) (by simp)) .nils⟩
        · obtain ⟨hrl, hrs⟩ := hrest rfl
          have hcap' : cap ≤ 9223372036854775807 := by simpa [maxLen] using hcap
          have one : ∀ i, i < len → ∃ ts, ∃ cs, w.cells? 0 (a.add (i * P.cellsOf e)) (P.cellsOf e) = some cs ∧ Reads w l cs ts := by
            intro i hi
            have h1 := hes i hi
            rw [List.getElem?_eq_getElem (by omega)] at h1
            simp only [Option.bind_eq_some_iff] at h1
            obtain ⟨cs, h2, h3⟩ := h1
            obtain ⟨ts, R⟩ := tree_of n e l he _ _ _ h3
            exact ⟨ts, cs, h2, R⟩
          obtain ⟨es, hle, hall⟩ := choose_list len one
          have hfit : Fits (.sl l.length l) (.sl l.length es) := by
            refine .sl (by omega) (fun x hx => ?_) fun x hx => ?_
            · obtain ⟨i, hi⟩ := List.mem_iff_getElem?.1 hx
              obtain ⟨cs, _, R⟩ := hall i x hi
              exact R.fits.len
            · obtain ⟨i, hi⟩ := List.mem_iff_getElem?.1 hx
              obtain ⟨cs, _, R⟩ := hall i x hi
              exact R.fits.each
          refine ⟨[.sl l.length es], Reads.one hfit ?_⟩
          by_cases h0 : cap = 0
          · subst h0
            obtain rfl : len = 0 := by omega
            obtain rfl : es = [] := List.length_eq_zero_iff.1 hle
            exact .bare
          · have any : ∀ i, i < cap → ∃ cs, w.cells? 0 (a.add (i * P.cellsOf e)) (P.cellsOf e) = some cs := by
              intro i hi
              by_cases hil : i < len
              · obtain ⟨_, cs, h2, _⟩ := one i hil
                exact ⟨cs, h2⟩
              · have h1 := hrs (i - len) (by omega)
                rw [List.getElem?_eq_getElem (by omega), show len + (i - len) = i from by omega] at h1
                simp only [Option.bind_eq_some_iff] at h1
                obtain ⟨cs, h2, _⟩ := h1
                exact ⟨cs, h2⟩
            have hspot : a.spot = none := by
              obtain ⟨cs, h2⟩ := any 0 (by omega)
              obtain ⟨h3, h4⟩ := cells_len h2
              have h5 := h4 0 (by omega)
              rw [List.getElem?_eq_getElem (by omega)] at h5
              have := spot_of_cell h5
              rw [show (a.add (0 * P.cellsOf e)).add 0 = a from by simp [Addr.add]] at this
              exact this
            have plain : ∀ i, i < cap → ∀ j, j < l.length → ∃ v, w.cell? ⟨a.block, a.off + i * l.length + j, none⟩ = some v := by
              intro i hi j hj
              obtain ⟨cs, h2⟩ := any i hi
              obtain ⟨h3, h4⟩ := cells_len h2
              have h5 := h4 j (by omega)
              rw [List.getElem?_eq_getElem (by omega), Addr.add_plain hspot, Addr.add_plain rfl, ← hz] at h5
              exact ⟨_, h5⟩
            obtain ⟨v0, hv0⟩ := plain 0 (by omega) 0 hpos
            obtain ⟨bs, be, bf, hb, _⟩ := block_of_cell hv0
            have hb : w.heap[a.block]? = some (.cells bs be bf) := hb
            have hroom : a.off + cap * l.length ≤ bs.size := by
              obtain ⟨v1, hv1⟩ := plain (cap - 1) (by omega) (l.length - 1) (by omega)
              obtain ⟨bs', be', bf', hb', hv1⟩ := block_of_cell hv1
              rw [show (Addr.mk a.block (a.off + (cap - 1) * l.length + (l.length - 1)) none).block = a.block from rfl, hb] at hb'
              cases hb'
              have h6 := (Array.getElem?_eq_some_iff.1 hv1).1
              have h7 : (cap - 1) * l.length + l.length = cap * l.length := by
                rw [← Nat.succ_mul]
                congr 1
                omega
              simp only at h6
              omega
            have key := Rep.sl (w := w) (o := false) (a := a) (cap := cap) (z := l.length) (es := es) (F := fun _ => True) (cs := bs) (fun _ _ _ => True)
              ⟨⟨be, bf, hb, fun h => by cases h⟩, hspot, by omega, hroom, by cases hfit with | sl _ h _ => exact h⟩ trivial (fun _ _ _ _ => trivial) (fun h => by cases h) (fun h => by cases h) (fun i j y c hy hc => ?_)
            · rw [hle] at key
              exact key
            · obtain ⟨cs, h2, R⟩ := hall i y hy
              obtain ⟨h3, h4⟩ := cells_len h2
              have hi : i < len := by have := (List.getElem?_eq_some_iff.1 hy).1; omega
              have hj : j < l.length := by have := (List.getElem?_eq_some_iff.1 hc).1; rw [R.fits.len] at this; exact this
              have h5 := h4 j (by omega)
              have hcj : cs[j]? = some (cs[j]'(by omega)) := List.getElem?_eq_getElem _
              rw [hcj, Addr.add_plain hspot, Addr.add_plain rfl, ← hz] at h5
              have h6 := R.rep j c _ hc hcj
              obtain ⟨bs', be', bf', hb', h7⟩ := block_of_cell h5
              rw [show (Addr.mk a.block (a.off + i * l.length + j) none).block = a.block from rfl, hb] at hb'
              cases hb'
              simp only at h7
              rw [Array.getD_eq_getD_getElem?, h7]
              exact h6
      · cases h
    · rename_i fs hu
      obtain ⟨xs, m, rfl, rfl, hl, hxl, hf⟩ := DataW.trod_struct hu hx
      simp only [Option.bind_eq_some_iff] at h
      obtain ⟨l, h, hq⟩ := h
      split at hq
      · rename_i hll
        simp only [Option.some.injEq] at hq
        subst hq
        obtain ⟨ts, R⟩ := fields_reads (P := P) (w := w) (rd := fun t cs => DataW.trod enc P w 0 (fun _ => true) true m t cs) (fun t ds cs x h1 h2 => tree_of n t ds h1 m cs x h2) fs.toList 0 l cs xs h (by simpa using hxl)
          (fun i f hi => hf i f (by simpa using hi)) (by omega)
        rw [List.drop_zero, List.take_of_length_le (by omega)] at R
        exact ⟨ts, R⟩
      · cases hq
    · cases h

end
end Go.Tw
