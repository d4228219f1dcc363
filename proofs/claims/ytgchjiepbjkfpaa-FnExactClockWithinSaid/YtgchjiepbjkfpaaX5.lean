import Derived.Test.YtgchjiepbjkfpaaX4
import Derived.Test.YtgchjiepbjkfpaaRows
import Derived.WalkKit
import Derived.ProofKit
import Derived.OpenShut
import Derived.ShutString
import Derived.ChangeOld
import Derived.Below
import Derived.SizedLaws
import Derived.ChangeSlices
namespace Go.Tw
open Go.Proofs

theorem Addr.spot_of_cell {w : World} {x : Addr} {i : Nat} {v : Value} (h : w.cell? (x.add i) = some v) : i = 0 → x.spot = none := by
  intro e
  subst e
  rw [show x.add 0 = x from by simp [Addr.add]] at h
  unfold World.cell? at h
  split at h
  · split at h
    · cases h
    · rename_i hs; simpa using hs
  · cases h

theorem rep_ints {w : World} {a : Option Addr} {len cap : Nat} {zs : List Int} (h : (a = none ∧ len = 0 ∧ cap = 0 ∧ zs = []) ∨ ∃ x, a = some x ∧ len ≤ cap ∧ zs.length = cap ∧ ∀ i, i < zs.length → w.cell? (x.add i) = some (.int .i64 (zs.getD i 0))) :
    Rep w false (.slice a len cap) (.sl 1 (enc eI (zs.take len))) fun _ => True := by
  rcases h with ⟨rfl, rfl, rfl, rfl⟩ | ⟨x, rfl, hl, hc, hcell⟩
  · exact .nils
  · by_cases h0 : cap = 0
    · subst h0
      have : len = 0 := by omega
      subst this
      simp only [List.take_zero]
      exact .bare
    · have hs : x.spot = none := Addr.spot_of_cell (hcell 0 (by omega)) rfl
      have hblk : ∃ cs e fr, w.heap[x.block]? = some (.cells cs e fr) := by
        have := hcell 0 (by omega)
        rw [show x.add 0 = x from by simp [Addr.add]] at this
        unfold World.cell? at this
        split at this
        · exact ⟨_, _, _, by assumption⟩
        · cases this
      obtain ⟨cs, e, fr, hb⟩ := hblk
      have hcs : ∀ i, i < zs.length → cs[x.off + i]? = some (.int .i64 (zs.getD i 0)) := by
        intro i hi
        have := hcell i hi
        rw [Addr.add_plain hs] at this
        simpa [World.cell?, hb] using this
      have hlen : (enc eI (zs.take len)).length = len := by simp [enc]; omega
      have key := Rep.sl (w := w) (o := false) (a := x) (cap := cap) (z := 1) (es := enc eI (zs.take len)) (F := fun _ => True) (cs := cs) (fun _ _ _ => True)
        ⟨⟨e, fr, hb, fun h => by cases h⟩, hs, by rw [hlen]; exact hl, by
          have := hcs (cap - 1) (by omega)
          have := (Array.getElem?_eq_some_iff.1 this).1
          omega, fun y hy => by
          simp only [enc, List.mem_map] at hy
          obtain ⟨n, _, rfl⟩ := hy
          rfl⟩ trivial (fun _ _ _ _ => trivial) (fun h => by cases h) (fun h => by cases h) (fun i j y c hy hc' => by
          simp only [enc, List.getElem?_map, Option.map_eq_some_iff] at hy
          obtain ⟨n, hn, rfl⟩ := hy
          have hi : i < len := by
            have := (List.getElem?_eq_some_iff.1 hn).1
            simp at this
            omega
          cases j with
          | succ j => simp [eI] at hc'
          | zero =>
            simp only [eI, List.getElem?_cons_zero, Option.some.injEq] at hc'
            subst hc'
            have h2 := hcs i (by omega)
            rw [List.getElem?_take, if_pos hi] at hn
            have h3 : zs.getD i 0 = n := by simp [List.getD_eq_getElem?_getD, hn]
            rw [h3] at h2
            have : cs.getD (x.off + i * 1 + 0) undef = .int .i64 n := by
              rw [Array.getD_eq_getD_getElem?, Nat.mul_one, Nat.add_zero, h2]
              rfl
            rw [this]
            exact .int)
      rw [hlen] at key
      exact key

end Go.Tw
