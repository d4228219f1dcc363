/- The layer: trees, states, rules; plain functions. -/
import Derived.Test.YtjfjnpbeboafkaaGreatBaseB
import Derived.OrdersHeld
import Derived.Laws.BitsLemmas
import Derived.WalkKit
import Derived.ProofKit
import Derived.OpenShut
import Derived.ShutString
import Derived.ChangeOld
import Derived.Below
import Derived.SizedLaws
import Derived.ChangeSlices
import Derived.ChangeArms
set_option linter.unusedSimpArgs false
set_option linter.unusedVariables false
set_option linter.unnecessarySimpa false
namespace Go.Tw
section
variable {P : Program} {w0 w w' : World} {Al : Blks} {N : Nat} {g : Gh} {σ : St} {a : Act}
theorem node_seg {oa : Option Addr} {n cap z : Nat} {es : Els} {G : Blks} (h : Rep w true (.slice oa n cap) (.sl z es) G) {off : Nat} {els : Els} {vals : List Value}
    (hc : ∀ w', CellsRep w' true z els vals fun _ _ _ => False) (hl : off + els.length ≤ es.length) (hpos : 0 < els.length) :
    ∃ ad cs e, oa = some ad ∧ ad.spot = none ∧ w.heap[ad.block]? = some (.cells cs e (0, 0)) ∧ ad.off + off * z + vals.length ≤ cs.size ∧ G ad.block ∧
      Rep (World.seg w ad.block (ad.off + off * z) cs vals) true (.slice oa n cap) (.sl z (es.take off ++ els ++ es.drop (off + els.length))) G := by
  cases h with
  | nils => simp at hl; rw [hl.2] at hpos; simp at hpos
  | bare => simp at hl; rw [hl.2] at hpos; simp at hpos
  | @sl ad _ _ _ _ cs f hlies hF hsub hdn hdd hr =>
    obtain ⟨e, fr, hb, hfr⟩ := hlies.blk
    rw [hfr rfl] at hb
    obtain ⟨v1, v2, v3⟩ := hc (World.seg w ad.block (ad.off + off * z) cs vals)
    have hroom := hlies.room
    have hmul : (off + els.length) * z ≤ cap * z := Nat.mul_le_mul_right z (by have := hlies.len; omega)
    rw [Nat.add_mul] at hmul
    have hfit : ad.off + off * z + vals.length ≤ cs.size := by rw [v1]; omega
    refine ⟨ad, cs, e, rfl, hlies.spot, hb, hfit, hF, ?_⟩
    have hlen : (es.take off ++ els ++ es.drop (off + els.length)).length = es.length := by simp; omega
    rw [← hlen]
    have hget := fun i => patch_get (ls := es) (off := off) (xs := els) hl i
    have heach : ∀ y ∈ es.take off ++ els ++ es.drop (off + els.length), y.length = z := by
      intro y hy
      simp only [List.mem_append] at hy
      rcases hy with (hy | hy) | hy
      · exact hlies.each y (List.mem_of_mem_take hy)
      · exact v2 y hy
      · exact hlies.each y (List.mem_of_mem_drop hy)
    refine .sl (fun i' j' b => ¬ (off ≤ i' ∧ i' < off + els.length) ∧ f i' j' b) ⟨⟨e, (0, 0), seg_self hb, fun _ => rfl⟩, hlies.spot, by rw [hlen]; exact hlies.len, by simp; omega, heach⟩ hF (fun i' j' b hb' => hsub _ _ b hb'.2) (fun _ i' j' hb' => hdn rfl _ _ hb'.2)
      (fun _ i1 j1 i2 j2 b h1 h2 => hdd rfl _ _ _ _ b h1.2 h2.2) (fun i' j' y c hy hcc => ?_)
    have hj'z : j' < z := heach y (List.mem_of_getElem? hy) ▸ (List.getElem?_eq_some_iff.1 hcc).1
    rw [hget] at hy
    rw [seg_get hfit]
    by_cases h1 : i' < off
    · rw [if_pos h1] at hy
      have : (i' + 1) * z ≤ off * z := Nat.mul_le_mul_right z h1
      rw [Nat.add_mul, Nat.one_mul] at this
      rw [if_pos (by omega)]
      exact ((hr i' j' y c hy hcc).frame (w' := World.seg w ad.block (ad.off + off * z) cs vals) fun b hb' => seg_ne fun e => hdn rfl i' j' (e ▸ hb')).mono fun b hb' => ⟨by omega, hb'⟩
    · rw [if_neg h1] at hy
      by_cases h2 : i' < off + els.length
      · rw [if_pos h2] at hy
        obtain ⟨v, q1, q2⟩ := v3 (i' - off) j' y c hy hcc
        have hlt : (i' - off) * z + j' < vals.length := (List.getElem?_eq_some_iff.1 q1).1
        have e1 : i' * z = off * z + (i' - off) * z := by rw [← Nat.add_mul]; congr 1; omega
        rw [if_neg (by omega), if_pos (by omega), show ad.off + i' * z + j' - (ad.off + off * z) = (i' - off) * z + j' by omega, List.getD_eq_getElem?_getD, q1]
        exact q2.mono fun b hb' => hb'.elim
      · rw [if_neg h2] at hy
        have : (off + els.length) * z ≤ i' * z := Nat.mul_le_mul_right z (by omega)
        rw [Nat.add_mul] at this
        rw [if_neg (by omega), if_neg (by rw [v1]; omega)]
        exact ((hr i' j' y c hy hcc).frame (w' := World.seg w ad.block (ad.off + off * z) cs vals) fun b hb' => seg_ne fun e => hdn rfl i' j' (e ▸ hb')).mono fun b hb' => ⟨by omega, hb'⟩
def St.muted (σ : St) (r : Nat) (p : Path) (z : Nat) (row : Row) (es' : Els) : St := σ.swap (killSt [] r p) [r] r { row with es := (row.t.put p (.sl z es')).els }
theorem rel_muted (R : Rel w0 Al N σ a w g) {r : Nat} {p : Path} {z : Nat} {row : Row} {es es' : Els} {u : Value} {G F' : Blks} (hrow : get σ.row r = some row) (hpm : row.pm = .own) (hn : row.t.at? p = some (.sl z es))
    (hGF : ∀ b, G b → g.fp r b)
    (hcont : ∀ (w' : World) (s' : T) (H : Blks), (∀ b, g.fp r b → ¬ G b → w'.heap[b]? = w.heap[b]?) → Rep w' true u s' H → (∀ b, H b → G b ∨ ¬ g.fp r b) →
        Rep w' true (g.rw r) (row.t.put p s') (fun b => (g.fp r b ∧ ¬ G b) ∨ H b) ∧ valAt w' (g.rw r) (row.t.put p s') p = some u ∧
          ∀ (q : Path), thru p q = false → (∃ z1 e e', (T.sl z es) = .sl z1 e ∧ s' = .sl z1 e') → ∀ zq eq, row.t.at? q = some (.sl zq eq) →
            ∃ eq', (row.t.put p s').at? q = some (.sl zq eq') ∧ eq'.length = eq.length ∧ valAt w' (g.rw r) (row.t.put p s') q = valAt w (g.rw r) row.t q)
    (s1 : w.heap.size ≤ w'.heap.size) (s2 : ∀ b, b < w.heap.size → ¬ G b → w'.heap[b]? = w.heap[b]?) (s3 : w'.os = w.os) (s4 : w'.tape = w.tape) (s5 : w'.output = w.output)
    (hru' : Rep w' true u (.sl z es') F') (hF2 : ∀ b, F' b → (G b ∨ w.heap.size ≤ b) ∧ b < w'.heap.size) :
    ∃ g', Rel w0 Al N (σ.muted r p z row es') a w' g' := by
  have mem := R.mem
  obtain ⟨c1, c2, c3⟩ := hcont w' (.sl z es') F' (fun b hb hnG => s2 b (mem.lt b (Or.inr ⟨r, row, hrow, by simp [hpm], hb⟩)) hnG) hru' (fun b hb => (hF2 b hb).1.imp id fun h hf => by
    have := mem.lt b (Or.inr ⟨r, row, hrow, by simp [hpm], hf⟩)
    omega)
  have hput := T.put_sl (n := es') hn
  have hin := swap_in (w' := w') mem (kill := killSt [] r p) (rs := [r]) (k := r) (row := { row with es := (row.t.put p (.sl z es')).els }) (hv := g.rw r) (F := fun b => (g.fp r b ∧ ¬ G b) ∨ F' b) (N := fun _ => False) (Or.inl (by simp))
    (by simp [hpm]) (fun _ => ?_) (fun h => by simp [hpm] at h) (fun b h => h.elim) (fun b hb => ?_) (fun b hb hp => s2 b hb fun hg => hp ⟨r, row, by simp, hrow, by simp [hpm], hGF b hg⟩) s1 (fun l hl r' q hq hs hm => ?_)
  · exact ⟨_, R.turn hin ⟨rfl, rfl⟩ s3 s4 s5⟩
  · show Rep _ true (g.rw r) (.sl row.z _) _
    rw [← hput]
    exact c1
  · rcases hb with ⟨hb, _⟩ | hb
    · exact ⟨Or.inl ⟨r, row, by simp, hrow, by simp [hpm], hb⟩, Nat.lt_of_lt_of_le (mem.lt b (Or.inr ⟨r, row, hrow, by simp [hpm], hb⟩)) s1⟩
    · obtain ⟨h1, h2⟩ := hF2 b hb
      exact ⟨h1.imp (fun h => ⟨r, row, by simp, hrow, by simp [hpm], hGF b h⟩) id, h2⟩
  · unfold killSt hits at hl
    rw [hq] at hl
    simp only [Bool.or_eq_false_iff, Bool.and_eq_false_iff] at hl
    obtain rfl : r' = r := by simpa using hm
    have hth : thru p q = false := by
      rcases hl.2 with h | h
      · simp at h
      · exact h
    intro row2 hrow2
    rw [hrow] at hrow2
    cases hrow2
    refine ⟨{ row with es := (row.t.put p (.sl z es')).els }, by simp [St.swap, get], by simp [Gh.row, upd_self], fun z2 es2 u2 h1 h2 => ?_⟩
    obtain ⟨eq', d1, d2, d3⟩ := c3 q hth ⟨z, es, _, rfl, rfl⟩ z2 es2 h1
    refine ⟨eq', ?_, d2, ?_⟩
    · show (T.sl row.z _).at? q = _
      rw [← hput]
      exact d1
    · show valAt _ _ (T.sl row.z _) q = _
      simp only [Gh.row, upd_self]
      rw [← hput, d3]
      exact h2
theorem eff_clear (R : Rel w0 Al N σ a w g) {x : Operand} {t ty e : TypeId} {c1 : Bool} {r : Nat} {p : Path} {z off len : Nat} {row : Row} {es : Els} {q : Prop} {ts : List T} (hu : (tyOf P t).u = .sl e) (hx : evO σ x = some (c1, .l (.ref r p z off len))) (h1 : c1 = true)
    (hrow : get σ.row r = some row) (hpm : row.pm = .own) (hn : row.t.at? p = some (.sl z es)) (hts : takeLs σ (tyOf P e).cz (tyOf P e).ze = some (q, ts, [])) (hq : q) (hz : z = (tyOf P e).sz) (hcz : (tyOf P e).cz.length = (tyOf P e).sz)
    (hk : (tyOf P e).known = true) (hlen : off + len ≤ es.length) :
    ∃ w' g', (Builtin.clear_ #[t] ty #[a.eval x]).run P w = .ok (.tuple #[]) w' ∧ Rel w0 Al N (σ.muted r p z row (es.take off ++ List.replicate len ts ++ es.drop (off + len))) a w' g' := by
  have mem := R.mem
  obtain ⟨row1, es1, u, e1, e2, e3, e4, e5⟩ := evO_rep R.slots hx h1
  rw [hrow] at e1
  cases e1
  rw [hn] at e2
  cases e2
  obtain ⟨u', G, hu', hru, hGF, hcont⟩ := (mem.own r row hrow hpm).focus hn
  rw [e3] at hu'
  cases hu'
  have hGlt : ∀ b, G b → b < w.heap.size := fun b hb => mem.lt b (Or.inr ⟨r, row, hrow, by simp [hpm], hGF b hb⟩)
  obtain ⟨i, z0, hi, hzv, hze, hsz, hby, _, hzs⟩ := info_of_known' hk
  obtain ⟨i', z', hi', hzv', hr, hs⟩ := ze_rep (w := w) (g := g) (σ := σ) hk
  rw [hi] at hi'
  cases hi'
  rw [hzv] at hzv'
  cases hzv'
  obtain ⟨oa, n, cap, oa', rfl, hv, hoa⟩ := e5
  by_cases h0 : len = 0
  · subst h0
    have hrun : (Builtin.clear_ #[t] ty #[a.eval x]).run P w = .ok (.tuple #[]) w := by
      rw [hv]
      simp only [Builtin.clear_, List.getElem?_toArray, List.getElem?_cons_zero, Sem.run_bind, run_underlying (u_sl hu), Result.andThen_ok]
      cases oa' <;> simp [Sem.run_pure]
    obtain ⟨g', R'⟩ := rel_muted (w' := w) (es' := es.take off ++ List.replicate 0 ts ++ es.drop (off + 0)) R hrow hpm hn hGF hcont (Nat.le_refl _) (fun _ _ _ => rfl) rfl rfl rfl (F' := G) (by simpa using hru) (fun b hb => ⟨Or.inl hb, hGlt b hb⟩)
    exact ⟨w, g', hrun, R'⟩
  · obtain ⟨t1, t2⟩ := takeLs_len hts
    obtain ⟨tl, _, f, r1, s1, d1⟩ := takeLs_rep mem hts hq hr
    have hcells : ∀ w', CellsRep w' true z (List.replicate len ts) (madeCells z0.cells (len * z)).toList fun _ _ _ => False := fun w' =>
      madeCells_rep (w := w') (ts := ts) (zc := z0.cells) len (by rw [hs, hz]) (by rw [t1, hcz, hz]) (fun j t v q1 q2 => by
        have h3 := (r1 j t v q1 q2).mono (G := fun _ => False) fun b hb => by obtain ⟨r, row, hr, _⟩ := s1 j b hb; simp at hr
        exact h3.frame fun b hb => hb.elim)
    obtain ⟨ad, cs, e0, rfl, hspot, hb, hfit, hGb, hrep⟩ := node_seg hru (off := off) (els := List.replicate len ts) hcells (by simpa using hlen) (by simp; omega)
    have hcap := hru.cap_ge
    have hoa1 : oa' = some ⟨ad.block, ad.off + off * z, none⟩ := by
      rcases hoa with hoa | hoa
      · omega
      · rw [hoa, Option.map_some, Addr.add_plain hspot]
    have hzc : (Builtin.zeroCells z0.cells len).toList = (madeCells z0.cells (len * z)).toList := by
      rw [hz, ← hs]
      rfl
    have hst := run_storeCells_at P ad.block (ad.off + off * z) e0 (madeCells z0.cells (len * z)).toList 0 cs w hb (by simpa using hfit) (fun v hv => by
      obtain ⟨k, hk'⟩ := List.getElem?_of_mem hv
      have hz1 : z0.cells.size = z := by rw [hs, hz]
      have hlt : k < len * z := by have := (List.getElem?_eq_some_iff.1 hk').1; simpa [madeCells] using this
      have hzpos : 0 < z := by rcases Nat.eq_zero_or_pos z with h | h; rw [h, Nat.mul_zero] at hlt; omega; exact h
      have hm : k % z < z := Nat.mod_lt _ hzpos
      have hd : k / z < len := by rw [Nat.div_lt_iff_lt_mul hzpos]; exact hlt
      have hk2 : k / z * z + k % z = k := Nat.div_add_mod' k z
      have htl : k % z < ts.length := by rw [t1, hcz, ← hz]; exact hm
      obtain ⟨v2, p1, p2⟩ := (hcells w).rep (k / z) (k % z) ts (ts[k % z]) (by simp [hd]) (List.getElem?_eq_getElem htl)
      rw [hk2, hk'] at p1
      cases p1
      exact p2.one)
    simp only [Nat.add_zero] at hst
    have hzr : ∀ w : World, (zeroValue e).run P w = .ok z0 w := fun w => by simp [zeroValue, typeInfo, hi, hzv]
    have hrun : (Builtin.clear_ #[t] ty #[a.eval x]).run P w = .ok (.tuple #[]) (World.seg w ad.block (ad.off + off * z) cs (madeCells z0.cells (len * z)).toList) := by
      obtain ⟨m, rfl⟩ : ∃ m, len = m + 1 := ⟨len - 1, by omega⟩
      rw [hv, hoa1]
      simp only [Builtin.clear_, List.getElem?_toArray, List.getElem?_cons_zero, Sem.run_bind, run_underlying (u_sl hu), Result.andThen_ok, hzr, hzc, hst, Sem.run_pure]
      rfl
    obtain ⟨g', R'⟩ := rel_muted (w' := World.seg w ad.block (ad.off + off * z) cs (madeCells z0.cells (len * z)).toList) (es' := es.take off ++ List.replicate len ts ++ es.drop (off + len)) R hrow hpm hn hGF hcont
      (by rw [seg_size]; exact Nat.le_refl _) (fun b _ hb => seg_ne fun e => hb (e ▸ hGb)) rfl rfl rfl (F' := G) (by simpa using hrep) (fun b hb => ⟨Or.inl hb, by rw [seg_size]; exact hGlt b hb⟩)
    exact ⟨_, g', hrun, R'⟩
end
end Go.Tw

namespace Go.Tw
section
variable {P : Program} {w0 w w' : World} {Al : Blks} {N : Nat} {g : Gh} {σ : St} {a : Act}
theorem eff_store (R : Rel w0 Al N σ a w g) {nm : Nat} {t : TypeId} {ad x : Operand} {c : Prop} {σ' : St} {rv : Option V} (h : eff P σ nm (.store t ad x) = some (c, σ', rv)) (hc : c) :
    Leaves w false w0 Al N σ' a rv (((do Instr.storeAt t (a.eval ad) (a.eval x); pure .skip) : Sem Next).run P w) := by
  simp only [eff] at h
  split at h
  · rename_i c1 k j c2 v had hx
    split at h
    · rename_i ls xs hb hv
      simp only [Option.some.injEq, Prod.mk.injEq] at h
      obtain ⟨rfl, rfl, rfl⟩ := h
      obtain ⟨h1, h2, h3, h4, h5⟩ := hc
      obtain ⟨w', d1, d2⟩ := store_box (P := P) R (t := t) (known_info h4) hb (evO_rep R.slots had h1) (RepV.cells (evO_rep R.slots hx h2) hv) h3 h5
      exact ⟨.skip, w', g, by simp only [Sem.run_bind, d1, Result.andThen_ok, Sem.run_pure], fun e => (by cases e), d2, rfl⟩
    · cases h
  · rename_i c1 r p i j d c2 v had hx
    split at h
    · rename_i row xs hrow hv
      split at h
      · rename_i z es hn
        have hx0 : c1 = true → es[i]? = some (es.getD i (tyOf P d).dz) := fun h1 => by
          obtain ⟨row', z', es', a', n, cap, e1, e2, _, e4, _⟩ := evO_rep R.slots had h1
          rw [hrow] at e1
          cases e1
          rw [hn] at e2
          cases e2
          rw [List.getD_eq_getElem?_getD, List.getElem?_eq_getElem e4]
          rfl
        split at h
        · rename_i hpm
          split at h
          · rename_i c3 ts rs hts
            simp only [Option.some.injEq, Prod.mk.injEq] at h
            obtain ⟨rfl, rfl, rfl⟩ := h
            obtain ⟨h1, h2, h3, h4, h5, h6, h7⟩ := hc
            obtain ⟨w', g', d1, d2⟩ := store_own (P := P) (d := d) R (t := t) (known_info h5) hrow hpm hn (hx0 h1) (evO_rep R.slots had h1) hts h3 (RepV.cells (evO_rep R.slots hx h2) hv) h4 h6 h7
            exact ⟨.skip, w', g', by simp only [Sem.run_bind, d1, Result.andThen_ok, Sem.run_pure], fun e => (by cases e), d2, rfl⟩
          · cases h
        · rename_i hpm
          split at h
          · rename_i c3 ts rs hts
            simp only [Option.some.injEq, Prod.mk.injEq] at h
            obtain ⟨rfl, rfl, rfl⟩ := h
            obtain ⟨h1, h2, h3, h4, h5, h6, h7⟩ := hc
            simp only [T.at?, Option.some.injEq, T.sl.injEq] at hn
            obtain ⟨rfl, rfl⟩ := hn
            have hv' := RepV.cells (evO_rep R.slots hx h2) hv
            obtain ⟨tl, hrep⟩ := shareLs_rep R.mem hts h3 hv'
            have R2 := rel_freeze R rs
            have hst := fun l => (freeze_in R.mem rs).stays R.mem (l := l) rfl
            have hrow2 : get (σ.freeze rs).row r = some row := by simp [St.freeze, get_append, get_frz, get_del, h7, hrow]
            obtain ⟨w', g', d1, d2⟩ := store_top (P := P) (d := d) R2 (t := t) (known_info h5) hrow2 hpm (hx0 h1) ((evO_rep R.slots had h1).stays fun l _ => hst l) tl (fun k t y q1 q2 => (hrep k t y q1 q2).mono fun b hb => RowsFp.ro R.mem hb)
              (hv'.stays fun l _ => hst l) h4 h6
            exact ⟨.skip, w', g', by simp only [Sem.run_bind, d1, Result.andThen_ok, Sem.run_pure], fun e => (by cases e), d2, rfl⟩
          · cases h
        · cases h
      · cases h
    · cases h
  · cases h
theorem eff_run (R : Rel w0 Al N σ a w g) {nm : Nat} {o : Oper} {c : Prop} {σ' : St} {rv : Option V} (h : eff P σ nm o.op = some (c, σ', rv)) (hc : c) : Leaves w (Op.grows o.op) w0 Al N σ' a rv ((execOp a.eval o).run P w) := by
  obtain ⟨dst, op, type, pos, after, guard⟩ := o
  simp only at h
  cases op with
  | alloc t =>
    simp only [eff, Option.some.injEq, Prod.mk.injEq] at h
    obtain ⟨rfl, rfl, rfl⟩ := h
    exact eff_alloc R hc.1 hc.2
  | box t x =>
    simp only [eff] at h
    split at h
    · rename_i c1 v hx
      split at h
      · rename_i ls hv
        simp only [Option.some.injEq, Prod.mk.injEq] at h
        obtain ⟨rfl, rfl, rfl⟩ := h
        exact eff_box R hx hc.1 hv hc.2
      · cases h
    · cases h
  | buildSlice t n parts =>
    simp only [eff] at h
    split at h
    · rename_i e hu
      split at h
      · rename_i c1 hp
        simp only [Option.some.injEq, Prod.mk.injEq] at h
        obtain ⟨rfl, rfl, rfl⟩ := h
        obtain ⟨rfl, hk⟩ := hc
        exact eff_lit_nil R hu hk hp
      · rename_i c1 lss hne hp
        split at h
        · rename_i c2 es rs ht
          simp only [Option.some.injEq, Prod.mk.injEq] at h
          obtain ⟨rfl, rfl, rfl⟩ := h
          obtain ⟨h1, h2, h3, h4, _, h5, h6, h7⟩ := hc
          exact eff_lit_own R hu h5 hp h1 ht h2 h3 h4 h6 h7
        · split at h
          · rename_i c2 es rs ht
            simp only [Option.some.injEq, Prod.mk.injEq] at h
            obtain ⟨rfl, rfl, rfl⟩ := h
            obtain ⟨h1, h2, h3, h4, _, h5, h6, h7⟩ := hc
            exact eff_lit_top R hu h5 hp h1 ht h2 h3 h4 h6 h7
          · cases h
      · cases h
    · cases h
  | makeSlice t l c0 =>
    simp only [eff] at h
    split at h
    · rename_i e c1 k1 n c2 k2 n' hu hl hcc
      split at h
      · rename_i q ts ht
        simp only [Option.some.injEq, Prod.mk.injEq] at h
        obtain ⟨rfl, rfl, rfl⟩ := h
        obtain ⟨hq, h1, h2, h3, h4, h5, h6, _, h7⟩ := hc
        exact eff_make R hu hl hcc ht hq h1 h2 h3 h4 h5 h6 h7
      · cases h
    · cases h
  | store t ad x => exact eff_store R h hc
  | call c0 =>
    obtain ⟨callee, args, argTypes⟩ := c0
    cases callee with
    | builtin b =>
      cases b with
      | append => exact eff_append R rfl h hc
      | clear =>
        simp only [eff] at h
        split at h
        · rename_i x t ha ht
          have e1 : args = #[x] := by cases args; simpa using ha
          have e2 : argTypes = #[t] := by cases argTypes; simpa using ht
          subst e1; subst e2
          split at h
          · rename_i e c1 r p z off len hu hx
            split at h
            · rename_i row hrow
              split at h
              · rename_i z' es q ts hn hts
                simp only [Option.some.injEq, Prod.mk.injEq] at h
                obtain ⟨rfl, rfl, rfl⟩ := h
                obtain ⟨h1, h2, rfl, h4, h5, h6, h7, h8⟩ := hc
                obtain ⟨w', g', hr, R'⟩ := eff_clear (P := P) (ty := type) R hu hx h1 hrow h2 hn hts h4 h5 h6 h7 h8
                refine ⟨.value (.tuple #[]), w', g', ?_, fun e => (by cases e), R', .tuple #[], rfl, [], by simp, trivial⟩
                simp only [execOp, resolve, invoke, builtin, Sem.run_bind, Sem.run_pure, Result.andThen_ok, List.map_toArray, List.map_cons, List.map_nil, hr]
              · cases h
            · cases h
          · cases h
        · cases h
      | _ => simp [eff] at h
    | _ => simp [eff] at h
  | _ => simp [eff] at h
end
end Go.Tw

namespace Go.Tw
theorem Rel.num {w0 w : World} {Al : Blks} {N : Nat} {σ : St} {a : Act} {g : Gh} (R : Rel w0 Al N σ a w g) (n : Nat) : Rel w0 Al N { σ with nxt := n } a w g := by
  obtain ⟨h1, h2, h3, h4, h5, h6, h7, h8, h9, h10, h11, h12⟩ := R
  refine ⟨h1.congr rfl rfl rfl, h2, h3.same rfl rfl, ?_, h5, h6, h7, h8, h9, h10, h11, fun x hx => ?_⟩
  · rw [Owned.same (g := g) (σ' := { σ with nxt := n }) (σ := σ) rfl rfl]; exact h4
  · obtain ⟨q1, q2, q3⟩ := h12 x hx
    exact ⟨fun t c v h hc => (q1 t c v h hc).same rfl rfl, q2, q3⟩
def RepVs (w : World) (g : Gh) (σ : St) : List V → List Value → Prop
  | [], [] => True
  | x :: xs, v :: vs => RepV w g σ x v ∧ RepVs w g σ xs vs
  | _, _ => False
def Ours (P : Program) (f : FuncId) : Prop := ∃ fn, P.funcs[f]? = some fn ∧ fn.body.isSome = true ∧ (fn.name == "runtime.NumGoroutine") = false
def CallW (P : Program) (k : Bool) (f : FuncId) (args : List V) (K : St → V → Prop) (σ : St) : Prop :=
  Ours P f ∧ ∀ w0 Al N a w g vs, Rel w0 Al N σ a w g → RepVs w g σ args vs → Calls P f vs.toArray w fun
    | .returned r, w' => ∃ σ' g' v, Rel w0 Al N σ' a w' g' ∧ RepV w' g' σ' v r ∧ K σ' v ∧ (k = true → Kept w w')
    | _, _ => False
def Sub (σ σ' : St) : Prop := ∀ w0 Al N a w g, Rel w0 Al N σ a w g → ∃ g', Rel w0 Al N σ' a w g'
def CallG (P : Program) (k : Bool) (f : FuncId) (vs : List V) (c : Prop) (G : Bool) (d : Option Nat) (next : St → Prop) (σ : St) : Prop :=
  ∃ σ1 v1, Sub σ σ1 ∧ (G = false → next (σ1.set d false v1)) ∧ (G = true → c ∧ CallW P k f vs (fun σ' v => next (σ'.set d true v)) σ)
def guardOf (σ : St) (ops : Array Oper) : Option (Nat × Bool) → Option Bool
  | none => some true
  | some (j, want) => match (ops[j]?).bind (·.dst) with
    | some d => match get σ.env d with
      | some (c, .l (.t (.bool b))) => some (c && (b == want))
      | _ => none
    | none => none
def Op.isPv : Op → Bool
  | .move _ | .assign _ | .pick .. | .binOp .. | .unOp .. | .convert .. | .field .. | .extract .. | .fieldAddr .. | .nilCheck _ | .indexAddr .. | .load .. | .index .. | .build .. | .makeFunc .. | .slice .. => true
  | .call { callee := .builtin b, .. } => match b with
    | .len | .max | .min | .cap => true
    | _ => false
  | _ => false
def argsV (σ : St) : List Operand → Option (Prop × List V)
  | [] => some (True, [])
  | x :: xs => match evO σ x, argsV σ xs with
    | some (c, v), some (c', vs) => some (c = true ∧ c', v :: vs)
    | _, _ => none
def calleeOf (σ : St) : Op → Option (Prop × FuncId × List V)
  | .call { callee := .value f, args, .. } => match evO σ f, argsV σ args.toList with
    | some (c, .l (.fn f caps)), some (c', vs) => some (c = true ∧ c', f, vs ++ caps.map fun b => .l (.ptr b 0))
    | _, _ => none
  | _ => none
def dstOk (N : Nat) : Option Nat → Prop
  | some d => d < N
  | none => True
def Run (P : Program) (N : Nat) (ops : Array Oper) (K : St → Prop) : List Nat → St → Prop
  | [], σ => K σ
  | i :: rest, σ => match ops[i]? with
    | none => Run P N ops K rest σ
    | some o => dstOk N o.dst ∧ match guardOf σ ops o.guard with
      | none => False
      | some G => match Op.isPv o.op with
        | true => match pv P σ o.op with
          | some (c, v) => (G = true → c) ∧ Run P N ops K rest (σ.set o.dst G v)
          | none => False
        | false => match calleeOf σ o.op with
          | some (c, f, vs) => CallG P false f vs c G o.dst (fun σ' => Run P N ops K rest σ') σ
          | none => (G = false → Run P N ops K rest (σ.set o.dst false (.l .undef))) ∧ (G = true → match eff P σ σ.nxt o.op with
            | some (c, σ', some v) => c ∧ Run P N ops K rest ({ σ' with nxt := σ.nxt + 1 }.set o.dst true v)
            | some (c, σ', none) => c ∧ Run P N ops K rest ({ σ' with nxt := σ.nxt + 1 }.set o.dst false (.l .undef))
            | none => False)
section
variable {P : Program} {w0 w w' : World} {Al : Blks} {N : Nat} {g : Gh} {σ : St} {a : Act} {ops : Array Oper}
def Lift (w0 : World) (Al : Blks) (N : Nat) (K : Exit → St → Prop) : Exit → Act → World → Prop := fun e a w => ∃ σ g, Rel w0 Al N σ a w g ∧ K e σ
theorem guardOf_run (R : Rel w0 Al N σ a w g) {o : Oper} {G : Bool} (h : guardOf σ ops o.guard = some G) : Region.wanted o (yielded ops a.tmps) = G := by
  unfold guardOf at h
  unfold Region.wanted
  split at h
  · rename_i hg
    simp only [Option.some.injEq] at h
    rw [hg, ← h]
  · rename_i j want hg
    rw [hg]
    split at h
    · rename_i d hd
      split at h
      · rename_i c b he
        simp only [Option.some.injEq] at h
        subst h
        simp only [yielded, hd, Option.bind_some]
        cases c with
        | true =>
          have hr := R.slots.yes d true _ he rfl
          have := rep_bool (g := g) (σ := σ) hr
          have hx : a.tmps[d]? = some (.bool b) := by
            rw [Array.getD_eq_getD_getElem?] at this
            cases hq : a.tmps[d]? with
            | none => rw [hq] at this; simp [undef] at this
            | some v => rw [hq] at this; simpa using this
          rw [hx]
          simp only [Bool.true_and]
          cases b <;> cases want <;> rfl
        | false =>
          have hr := R.slots.no d false _ he rfl
          simp only [Bool.false_and]
          rw [Array.getD_eq_getD_getElem?] at hr
          cases hq : a.tmps[d]? with
          | none => cases want <;> rfl
          | some v =>
            rw [hq] at hr
            simp only [Option.getD_some] at hr
            subst hr
            simp only [undef]
            cases want <;> rfl
      · cases h
    · cases h
theorem argsV_rep (hs : Slots w g σ a) : ∀ {xs : List Operand} {c : Prop} {vs : List V}, argsV σ xs = some (c, vs) → c → RepVs w g σ vs (xs.map a.eval)
  | [], c, vs, h, _ => by
    simp only [argsV, Option.some.injEq, Prod.mk.injEq] at h
    obtain ⟨_, rfl⟩ := h
    trivial
  | x :: xs, c, vs, h, hc => by
    simp only [argsV] at h
    split at h
    · rename_i c1 v c2 vs' hx hxs
      simp only [Option.some.injEq, Prod.mk.injEq] at h
      obtain ⟨rfl, rfl⟩ := h
      exact ⟨evO_rep hs hx hc.1, argsV_rep hs hxs hc.2⟩
    · cases h
theorem RepVs.append : ∀ {xs ys : List V} {vs us : List Value}, RepVs w g σ xs vs → RepVs w g σ ys us → RepVs w g σ (xs ++ ys) (vs ++ us)
  | [], _, [], _, _, h => h
  | _ :: _, _, _ :: _, _, h, h' => ⟨h.1, h.2.append h'⟩
  | [], _, _ :: _, _, h, _ => h.elim
  | _ :: _, _, [], _, h, _ => h.elim
theorem RepVs.length : ∀ {xs : List V} {vs : List Value}, RepVs w g σ xs vs → xs.length = vs.length
  | [], [], _ => rfl
  | _ :: _, _ :: _, h => by simp [h.2.length]
  | [], _ :: _, h => h.elim
  | _ :: _, [], h => h.elim
theorem RepVs.nth : ∀ {xs : List V} {vs : List Value}, RepVs w g σ xs vs → ∀ {j : Nat} {x : V}, xs[j]? = some x → ∃ v, vs[j]? = some v ∧ RepV w g σ x v
  | _ :: _, v :: _, h, 0, x, hx => by simp at hx; subst hx; exact ⟨v, rfl, h.1⟩
  | _ :: _, _ :: _, h, j + 1, x, hx => h.2.nth (j := j) (by simpa using hx)
  | [], [], _, _, _, hx => by simp at hx
  | [], _ :: _, h, _, _, _ => h.elim
  | _ :: _, [], h, _, _, _ => h.elim
theorem RepVs.stays {w' : World} {g' : Gh} {σ' : St} : ∀ {xs : List V} {vs : List Value}, RepVs w g σ xs vs → (∀ x ∈ xs, ∀ l ∈ x.leaves, StaysL w w' g g' σ σ' l) → RepVs w' g' σ' xs vs
  | [], [], _, _ => trivial
  | _ :: _, _ :: _, h, hs => ⟨h.1.stays (hs _ (by simp)), h.2.stays fun x hx => hs x (by simp [hx])⟩
  | [], _ :: _, h, _ => h.elim
  | _ :: _, [], h, _ => h.elim
theorem caps_rep (caps : List Nat) (h : ∀ b ∈ caps, (get σ.box b).isSome) : RepVs w g σ (caps.map fun b => .l (.ptr b 0)) (caps.map fun b => Value.pointer (some ⟨g.bx b, 0, none⟩)) := by
  induction caps with
  | nil => trivial
  | cons b r ih => exact ⟨⟨h b (by simp), rfl⟩, ih fun b hb => h b (by simp [hb])⟩
theorem callee_run (R : Rel w0 Al N σ a w g) {o : Oper} {c : Prop} {f : FuncId} {vs : List V} (h : calleeOf σ o.op = some (c, f, vs)) (hc : c) (ho : Ours P f) :
    ∃ us : List Value, RepVs w g σ vs us ∧ (execOp a.eval o).run P w = .ok (.enter f us.toArray) w := by
  obtain ⟨dst, op, type, pos, after, guard⟩ := o
  cases op with
  | call c0 =>
    obtain ⟨callee, args, ats⟩ := c0
    cases callee with
    | value fo =>
      simp only [calleeOf] at h
      split at h
      · rename_i c1 f' caps c2 vs' hf hx
        simp only [Option.some.injEq, Prod.mk.injEq] at h
        obtain ⟨rfl, rfl, rfl⟩ := h
        obtain ⟨hfr, hfv⟩ := evO_rep R.slots hf hc.1
        have hr := argsV_rep R.slots hx hc.2
        refine ⟨args.toList.map a.eval ++ caps.map fun b => Value.pointer (some ⟨g.bx b, 0, none⟩), hr.append (caps_rep caps hfr), ?_⟩
        obtain ⟨fn, h1, h2, h3⟩ := ho
        have h2' : fn.body.isNone = false := by cases hb : fn.body <;> simp_all
        simp only [execOp, resolve, hfv, Deferred.ofValue, Sem.run_bind, Sem.run_pure, Result.andThen_ok, invoke, callFunc, run_program, h1, h3, h2', Bool.false_eq_true, if_false]
        congr 2
        apply Array.ext'
        simp
      · cases h
    | _ => simp [calleeOf] at h
  | _ => simp [calleeOf] at h
end
end Go.Tw

namespace Go.Tw
def W (P : Program) (N : Nat) (c : Code) (K : Exit → St → Prop) (σ : St) : Prop :=
  ∀ w0 Al a w g, Rel w0 Al N σ a w g → c.wp P (Lift w0 Al N K) a w
section
variable {P : Program} {w0 w w' : World} {Al : Blks} {N : Nat} {g : Gh} {σ σ' : St} {a : Act} {ops : Array Oper} {K K' : Exit → St → Prop}
theorem Run_sound {K : St → Prop} {Q : Exit → Act → World → Prop} : ∀ (l : List Nat) (σ : St) (a : Act) (w : World) (g : Gh), Run P N ops K l σ → Rel w0 Al N σ a w g → (∀ σ' a' w' g', Rel w0 Al N σ' a' w' g' → K σ' → Q .normal a' w') → wpOps P ops Q l a w
  | [], σ, a, w, g, h, R, hQ => hQ σ a w g R h
  | i :: rest, σ, a, w, g, h, R, hQ => by
    simp only [Run] at h
    simp only [wpOps]
    cases ho : ops[i]? with
    | none =>
      simp only [ho] at h
      exact Run_sound rest σ a w g h R hQ
    | some o =>
      simp only [ho] at h ⊢
      obtain ⟨hd, h⟩ := h
      have hd' : ∀ t, o.dst = some t → t < N := by
        intro t ht
        rw [ht] at hd
        exact hd
      split at h
      · exact h.elim
      · rename_i G hG
        rw [guardOf_run R hG]
        split at h
        · split at h
          · rename_i c v hp
            obtain ⟨hc, h⟩ := h
            cases G with
            | true =>
              obtain ⟨r, hr, hv⟩ := pv_run R.mem R.slots hp (hc rfl)
              simp only [if_true]
              refine .inl ?_
              simp only [Oper.wp, hr, Oper.upon]
              exact Run_sound rest _ _ _ g h (R.put hd' (fun _ => hv) (fun e => by cases e)) hQ
            | false =>
              simp only [Bool.false_eq_true, if_false]
              exact Run_sound rest _ _ _ g h (R.put hd' (fun e => by cases e) (fun _ => rfl)) hQ
          · exact h.elim
        · split at h
          · rename_i c f vs hcal
            obtain ⟨σ1, v1, hsub, h0, h1⟩ := h
            cases G with
            | false =>
              simp only [Bool.false_eq_true, if_false]
              obtain ⟨g1, R1⟩ := hsub _ _ _ _ _ _ R
              exact Run_sound rest _ _ _ g1 (h0 rfl) (R1.put hd' (fun e => by cases e) (fun _ => rfl)) hQ
            | true =>
              simp only [if_true]
              refine .inl ?_
              obtain ⟨hc, hours, hcall⟩ := h1 rfl
              obtain ⟨us, hus, hrun⟩ := callee_run R hcal hc hours
              simp only [Oper.wp, hrun, Oper.upon]
              refine Calls.mono (hcall w0 Al N a w g us R hus) fun e w2 he => ?_
              cases e with
              | returned r =>
                obtain ⟨σ2, g2, v, R2, hv, hK, _⟩ := he
                exact Run_sound rest _ _ _ g2 hK (R2.put hd' (fun _ => hv) (fun e => by cases e)) hQ
              | panicked => exact he.elim
              | outgrown => exact he.elim
          · obtain ⟨h0, h1⟩ := h
            cases G with
            | false =>
              simp only [Bool.false_eq_true, if_false]
              exact Run_sound rest _ _ _ g (h0 rfl) (R.put hd' (fun e => by cases e) (fun _ => rfl)) hQ
            | true =>
              have h := h1 rfl
              simp only [if_true]
              refine .inl ?_
              split at h
              · rename_i c σ2 v he
                obtain ⟨hc, h⟩ := h
                obtain ⟨n, w2, g2, hr, _, R2, x, rfl, hv⟩ := eff_run R he hc
                simp only [Oper.wp, hr, Oper.upon]
                exact Run_sound rest _ _ _ g2 h ((R2.num (σ.nxt + 1)).put hd' (fun _ => hv.same rfl rfl) (fun e => by cases e)) hQ
              · rename_i c σ2 he
                obtain ⟨hc, h⟩ := h
                obtain ⟨n, w2, g2, hr, _, R2, rfl⟩ := eff_run R he hc
                simp only [Oper.wp, hr, Oper.upon]
                exact Run_sound rest _ _ _ g2 h ((R2.num (σ.nxt + 1)).put hd' (fun e => by cases e) (fun _ => rfl)) hQ
              · exact h.elim
theorem W_region {id : Nat} (h : Run P N ops (K .normal) (List.range ops.size) σ) : W P N (.region id ops false) K σ :=
  fun _ _ _ _ _ R => wp_region (Run_sound _ _ _ _ _ h R fun σ' _ _ g' R' hK => ⟨σ', g', R', hK⟩)
theorem W_skip (h : K .normal σ) : W P N .skip K σ := fun _ _ _ _ g R => wp_skip ⟨σ, g, R, h⟩
theorem W_exit {id : Nat} (h : K (.exit id) σ) : W P N (.exit id) K σ := fun _ _ _ _ g R => wp_exit ⟨σ, g, R, h⟩
theorem W_ret (h : K .ret σ) : W P N .ret K σ := fun _ _ _ _ g R => wp_ret ⟨σ, g, R, h⟩
def Then (next : St → Prop) (K : Exit → St → Prop) : Exit → St → Prop
  | .normal, σ => next σ
  | e, σ => K e σ
theorem W_mono {c : Code} (h : W P N c K σ) (hk : ∀ e σ, K e σ → K' e σ) : W P N c K' σ :=
  fun w0 Al a w g R => wp_mono (h w0 Al a w g R) fun _ _ _ ⟨σ', g', R', q⟩ => ⟨σ', g', R', hk _ _ q⟩
theorem W_seq {x y : Code} (h : W P N x (Then (W P N y K) K) σ) : W P N (.seq x y) K σ :=
  fun w0 Al a w g R => wp_seq (wp_mono (h w0 Al a w g R) fun e a' w' ⟨σ', g', R', q⟩ => by
    cases e with
    | normal => exact q w0 Al a' w' g' R'
    | _ => exact ⟨σ', g', R', q⟩)
theorem W_seqK {x y : Code} (h : ∀ K' : St → Prop, (∀ σ', W P N y K σ' → K' σ') → W P N x (Then K' K) σ) : W P N (.seq x y) K σ := W_seq (h _ fun _ h => h)
theorem W_cond {c : Operand} {x y : Code} {b : Bool} (hc : evO σ c = some (true, .l (.t (.bool b)))) (ht : b = true → W P N x K σ) (hf : b = false → W P N y K σ) : W P N (.cond c x y) K σ :=
  fun w0 Al a w g R => wp_cond_split (t := b) (rep_bool (g := g) (σ := σ) (evO_rep R.slots hc rfl)) (fun h => ht h w0 Al a w g R) fun h => hf h w0 Al a w g R
def InBlock (id : Nat) (K : Exit → St → Prop) : Exit → St → Prop
  | .exit id', σ => if id' = id then K .normal σ else K (.exit id') σ
  | e, σ => K e σ
theorem W_block {id : Nat} {c : Code} (h : W P N c (InBlock id K) σ) : W P N (.block id c) K σ :=
  fun w0 Al a w g R => wp_block (wp_mono (h w0 Al a w g R) fun e a' w' ⟨σ', g', R', q⟩ => by
    cases e with
    | exit id' =>
      simp only [InBlock] at q
      simp only [Exit.inBlock]
      split at q
      · rename_i e; rw [if_pos e]; exact ⟨σ', g', R', q⟩
      · rename_i e; rw [if_neg e]; exact ⟨σ', g', R', q⟩
    | _ => exact ⟨σ', g', R', q⟩)
theorem W_loop {c : Code} (J : Nat → St → Prop) (n : Nat) (h0 : J n σ) (round : ∀ n σ, J n σ → W P N c (Then (fun σ' => ∃ m, m < n ∧ J m σ') K) σ) : W P N (.loop c) K σ := by
  intro w0 Al a w g R
  have key : ∀ n, ∀ σ a w g, Rel w0 Al N σ a w g → J n σ → ∀ (b : Frame) (k : List Item) (cs : List Frame),
      ∃ e a' w', Lift w0 Al N K e a' w' ∧ Arrives P (lone (b.at a (.code c :: .inLoop c :: k)) cs w) b k cs e a' w' := by
    intro n
    induction n using Nat.strongRecOn with
    | _ n ih =>
      intro σ a w g R hJ b k cs
      obtain ⟨e, a1, w1, ⟨σ1, g1, R1, q⟩, harr⟩ := round n σ hJ w0 Al a w g R b (.inLoop c :: k) cs
      cases e with
      | normal =>
        obtain ⟨m, hm, hJ1⟩ := q
        obtain ⟨e2, a2, w2, hq2, harr2⟩ := ih m hm σ1 a1 w1 g1 R1 hJ1 b k cs
        exact ⟨e2, a2, w2, hq2, .of_steps (Steps.trans harr (.one step_inLoop)) harr2⟩
      | exit id => exact ⟨_, a1, w1, ⟨σ1, g1, R1, q⟩, .pass (x := .inLoop c) rfl (fun _ _ => .inl (by simp)) harr⟩
      | goto l => exact ⟨_, a1, w1, ⟨σ1, g1, R1, q⟩, .pass (x := .inLoop c) rfl (fun _ _ => .inl (by simp)) harr⟩
      | ret => exact ⟨_, a1, w1, ⟨σ1, g1, R1, q⟩, .pass (x := .inLoop c) rfl (fun _ _ => .inl (by simp)) harr⟩
      | panic ch => exact ⟨_, a1, w1, ⟨σ1, g1, R1, q⟩, .pass (x := .inLoop c) rfl (fun _ _ => .inl (by simp)) harr⟩
      | outgrown => exact ⟨_, a1, w1, ⟨σ1, g1, R1, q⟩, .pass (x := .inLoop c) rfl (fun _ _ => .inl (by simp)) harr⟩
  intro b k cs
  obtain ⟨e, a', w', hq, harr⟩ := key n σ a w g R h0 b k cs
  exact ⟨e, a', w', hq, .of_steps (.one step_loop) harr⟩
theorem W_sub {c : Code} (hs : Sub σ σ') (h : W P N c K σ') : W P N c K σ := fun w0 Al a w g R => by
  obtain ⟨g', R'⟩ := hs w0 Al N a w g R
  exact h w0 Al a w g' R'
theorem Sub.refl (σ : St) : Sub σ σ := fun _ _ _ _ _ g R => ⟨g, R⟩
theorem Sub.trans {σ1 σ2 σ3 : St} (h : Sub σ1 σ2) (h' : Sub σ2 σ3) : Sub σ1 σ3 := fun w0 Al N a w g R => by
  obtain ⟨g', R'⟩ := h w0 Al N a w g R
  exact h' w0 Al N a w g' R'
end
end Go.Tw

namespace Go.Tw
def paramsE : Nat → List V → List (Nat × Bool × V)
  | _, [] => []
  | k, v :: vs => (k, true, v) :: paramsE (k + 1) vs
def resV (P : Program) (σ : St) : List ResultVar → Option (Prop × List V)
  | [] => some (True, [])
  | .tmp t :: r => match get σ.env t, resV P σ r with
    | some (c, v), some (c', vs) => some (c = true ∧ c', v :: vs)
    | _, _ => none
  | .cell ad t :: r => match get σ.env ad, resV P σ r with
    | some (c, v), some (c', vs) => match loadV P σ t v with
      | some (c2, u) => some (c = true ∧ c2 ∧ c', u :: vs)
      | none => none
    | _, _ => none
def tupV : List V → Option (List (Bool × List L))
  | [] => some []
  | .l x :: r => (tupV r).map fun q => (false, [x]) :: q
  | .agg xs :: r => (tupV r).map fun q => (true, xs) :: q
  | .tup _ :: _ => none
def oneV : List V → Option V
  | [v] => some v
  | vs => (tupV vs).map .tup
def resF (tmps : Array Value) : ResultVar → Sem Value
  | .tmp t => pure (tmps.getD t undef)
  | .cell ad t => do loadVar t (← asAddr (tmps.getD ad undef))
theorem results_resF (fn : Func) (tmps : Array Value) : results fn tmps = (do
    let vs ← fn.results.mapM (resF tmps)
    pure (if h : vs.size = 1 then vs[0] else .tuple vs)) := by
  unfold results
  congr 2
section
variable {P : Program} {w0 w w' : World} {Al : Blks} {N : Nat} {g : Gh} {σ σ' : St} {a : Act}
theorem get_paramsE_lt : ∀ (vs : List V) (k t : Nat) (x : Bool × V), (t, x) ∈ paramsE k vs → k ≤ t
  | v :: vs, k, t, x, h => by
    simp only [paramsE, List.mem_cons, Prod.mk.injEq] at h
    rcases h with ⟨rfl, _⟩ | h
    · exact Nat.le_refl _
    · have := get_paramsE_lt vs (k + 1) t x h; omega
  | [], _, _, _, h => by simp [paramsE] at h
theorem paramsE_unq : ∀ (vs : List V) (k : Nat), (paramsE k vs).Pairwise fun x y => x.1 ≠ y.1
  | [], _ => .nil
  | v :: vs, k => List.pairwise_cons.2 ⟨fun y hy => by have := get_paramsE_lt vs (k + 1) y.1 y.2 hy; simp only; omega, paramsE_unq vs (k + 1)⟩
theorem get_paramsE : ∀ (vs : List V) (k t : Nat) (c : Bool) (v : V), get (paramsE k vs) t = some (c, v) → c = true ∧ k ≤ t ∧ vs[t - k]? = some v
  | [], _, _, _, _, h => by simp [paramsE, get] at h
  | x :: vs, k, t, c, v, h => by
    simp only [paramsE, get] at h
    split at h
    · rename_i e
      subst e
      simp only [Option.some.injEq, Prod.mk.injEq] at h
      obtain ⟨rfl, rfl⟩ := h
      simp
    · rename_i e
      obtain ⟨h1, h2, h3⟩ := get_paramsE vs (k + 1) t c v h
      refine ⟨h1, by omega, ?_⟩
      have : t - k = (t - (k + 1)) + 1 := by omega
      rw [this]
      simpa using h3
theorem tupV_rep : ∀ {vs : List V} {us : List Value} {q : List (Bool × List L)}, tupV vs = some q → RepVs w g σ vs us → RepWs w g σ q us
  | [], [], q, h, _ => by simp only [tupV, Option.some.injEq] at h; subst h; trivial
  | .l x :: r, u :: us, q, h, hr => by
    simp only [tupV, Option.map_eq_some_iff] at h
    obtain ⟨q', h', rfl⟩ := h
    exact ⟨by simp only [RepW, Bool.false_eq_true, if_false]; exact ⟨x, rfl, hr.1⟩, tupV_rep h' hr.2⟩
  | .agg xs :: r, u :: us, q, h, hr => by
    simp only [tupV, Option.map_eq_some_iff] at h
    obtain ⟨q', h', rfl⟩ := h
    exact ⟨by simp only [RepW, if_true]; exact hr.1, tupV_rep h' hr.2⟩
  | .tup _ :: _, _, q, h, _ => by simp [tupV] at h
  | [], _ :: _, _, _, h => h.elim
  | .l _ :: _, [], _, _, h => h.elim
  | .agg _ :: _, [], _, _, h => h.elim
theorem resV_list (m : Mem w g σ) (hs : Slots w g σ a) : ∀ {rs : List ResultVar} {c : Prop} {vs : List V}, resV P σ rs = some (c, vs) → c →
    ∃ us : List Value, RepVs w g σ vs us ∧ (rs.mapM (resF a.tmps) : Sem (List Value)).run P w = .ok us w
  | [], c, vs, h, _ => by
    simp only [resV, Option.some.injEq, Prod.mk.injEq] at h
    obtain ⟨_, rfl⟩ := h
    exact ⟨[], trivial, by simp⟩
  | .tmp t :: r, c, vs, h, hc => by
    simp only [resV] at h
    split at h
    · rename_i c1 v c2 vs' hg hr
      simp only [Option.some.injEq, Prod.mk.injEq] at h
      obtain ⟨rfl, rfl⟩ := h
      obtain ⟨us, h1, h2⟩ := resV_list m hs hr hc.2
      refine ⟨a.tmps.getD t undef :: us, ⟨hs.yes t c1 v hg hc.1, h1⟩, ?_⟩
      simp only [List.mapM_cons, Sem.run_bind, resF, Sem.run_pure, Result.andThen_ok, h2]
    · cases h
  | .cell ad t :: r, c, vs, h, hc => by
    simp only [resV] at h
    split at h
    · rename_i c1 v c2 vs' hg hr
      split at h
      · rename_i c3 u hl
        simp only [Option.some.injEq, Prod.mk.injEq] at h
        obtain ⟨rfl, rfl⟩ := h
        obtain ⟨h0, h00, h000⟩ := hc
        obtain ⟨us, h1, h2⟩ := resV_list m hs hr h000
        have had := hs.yes ad c1 v hg h0
        obtain ⟨x, hx1', hx2⟩ := loadV_run m had hl h00
        have hx1 := hx1' w (.refl w)
        refine ⟨x :: us, ⟨hx2, h1⟩, ?_⟩
        have haddr : ∃ q, a.tmps.getD ad undef = .pointer (some q) := by
          unfold loadV at hl
          split at hl
          · exact ⟨_, had.2⟩
          · obtain ⟨_, _, _, _, _, _, _, _, _, _, _, hq⟩ := had; exact ⟨_, hq⟩
          · cases hl
        obtain ⟨q, hq⟩ := haddr
        rw [hq] at hx1
        simp only [Instr.loadAt, Instr.sureAddr, Sem.run_bind, Sem.run_pure, Result.andThen_ok] at hx1
        have e : (resF a.tmps (.cell ad t)).run P w = .ok x w := by simp only [resF, Sem.run_bind, hq, asAddr, Sem.run_pure, Result.andThen_ok, hx1]
        simp only [List.mapM_cons, Sem.run_bind, e, Sem.run_pure, Result.andThen_ok, h2]
      · cases h
    · cases h
theorem resV_run (m : Mem w g σ) (hs : Slots w g σ a) {fn : Func} {c : Prop} {vs : List V} {v : V} (h : resV P σ fn.results.toList = some (c, vs)) (hc : c) (hv : oneV vs = some v) :
    ∃ r, (results fn a.tmps).run P w = .ok r w ∧ RepV w g σ v r := by
  obtain ⟨us, h1, h2⟩ := resV_list m hs h hc
  have hrun : (results fn a.tmps).run P w = .ok (if h : us.toArray.size = 1 then us.toArray[0] else .tuple us.toArray) w := by
    have e : fn.results = fn.results.toList.toArray := by simp
    rw [results_resF, e, List.mapM_toArray]
    simp only [Sem.run_bind, Sem.run_map, h2, Result.andThen_ok, Sem.run_pure]
  refine ⟨_, hrun, ?_⟩
  match vs, us, h1, hv with
  | [], [], _, hv =>
    simp only [oneV, tupV, Option.map_some, Option.some.injEq] at hv
    subst hv
    exact ⟨[], by simp, trivial⟩
  | [x], [u], h1, hv =>
    simp only [oneV, Option.some.injEq] at hv
    subst hv
    simpa using h1.1
  | x :: y :: vs, u1 :: u2 :: us, h1, hv =>
    simp only [oneV, Option.map_eq_some_iff] at hv
    obtain ⟨q, hq, rfl⟩ := hv
    have := tupV_rep hq h1
    refine ⟨u1 :: u2 :: us, by simp, this⟩
def Out (P : Program) (rs : List ResultVar) (K : St → V → Prop) : Exit → St → Prop
  | .normal, σ | .ret, σ => match resV P σ rs with
    | some (c, vs) => c ∧ match oneV vs with
      | some v => K σ v
      | none => False
    | none => False
  | _, _ => False
theorem CallW_inline {f : FuncId} {fn : Func} {c : Code} {args : List V} {K : St → V → Prop} (hf : P.funcs[f]? = some fn) (hb : fn.body = some c) (hn : (fn.name == "runtime.NumGoroutine") = false) {n : Nat} (hnt : fn.ntmps = n) {rs : List ResultVar} (hrs : fn.results.toList = rs) (hl : args.length ≤ n)
    (h : ∀ a : Act, W P n c (Out P rs fun σ' v => ∃ env' sav', σ'.sav = (env', a) :: sav' ∧ K { σ' with env := env', sav := sav' } v) { σ with env := paramsE 0 args, sav := (σ.env, a) :: σ.sav }) :
    CallW P false f args K σ := by
  subst hnt hrs
  refine ⟨⟨fn, hf, by simp [hb], hn⟩, fun w0 Al N a w g vs R hvs => calls_of_wp hf hb ?_⟩
  have hlen := hvs.length
  have R1 : Rel w0 Al fn.ntmps { σ with env := paramsE 0 args, sav := (σ.env, a) :: σ.sav } { tmps := vs.toArray ++ Array.replicate (fn.ntmps - vs.toArray.size) undef, defers := [] } w g := by
    refine ⟨⟨fun t c v hg hc => ?_, fun t c v hg hc => ?_⟩, paramsE_unq args 0, R.mem.same rfl rfl, ?_, R.frm, R.siz, R.os, R.tape, R.out, rfl, by simp; omega, fun x hx => ?_⟩
    · obtain ⟨_, _, h3⟩ := get_paramsE args 0 t c v hg
      obtain ⟨u, hu, hr⟩ := hvs.nth (j := t) (by simpa using h3)
      have hlt : t < vs.length := (List.getElem?_eq_some_iff.1 hu).1
      have : (vs.toArray ++ Array.replicate (fn.ntmps - vs.toArray.size) undef).getD t undef = u := by
        rw [Array.getD_eq_getD_getElem?, Array.getElem?_append_left (by simpa using hlt)]
        simp [hu]
      rw [this]
      exact hr.same rfl rfl
    · have := (get_paramsE args 0 t c v hg).1
      rw [hc] at this
      cases this
    · rw [Owned.same (g := g) (σ' := { σ with env := paramsE 0 args, sav := (σ.env, a) :: σ.sav }) (σ := σ) rfl rfl]; exact R.own
    · rcases List.mem_cons.1 hx with rfl | hx
      · exact ⟨fun t c v hg hc => (R.slots.yes t c v hg hc).same rfl rfl, R.slots.no, R.unq⟩
      · obtain ⟨q1, q2, q3⟩ := R.sav x hx
        exact ⟨fun t c v hg hc => (q1 t c v hg hc).same rfl rfl, q2, q3⟩
  refine wp_mono (h a w0 Al _ w g R1) fun e a' w' ⟨σ', g', R', hK⟩ => ?_
  have fin : (match resV P σ' fn.results.toList with
      | some (c, vs) => c ∧ match oneV vs with
        | some v => ∃ env' sav', σ'.sav = (env', a) :: sav' ∧ K { σ' with env := env', sav := sav' } v
        | none => False
      | none => False) → a'.defers = [] ∧ ∃ v, (results fn a'.tmps).run P w' = .ok v w' ∧ ∃ σ' g' u, Rel w0 Al N σ' a w' g' ∧ RepV w' g' σ' u v ∧ K σ' u ∧ (false = true → Kept w w') := by
    intro hK
    refine ⟨R'.dfr, ?_⟩
    split at hK
    · rename_i c vs' hres
      obtain ⟨hc, hK⟩ := hK
      split at hK
      · rename_i v hv
        obtain ⟨r, hr, hrep⟩ := resV_run R'.mem R'.slots hres hc hv
        obtain ⟨env', sav', hsav, hK⟩ := hK
        obtain ⟨s1, s2, s3⟩ := R'.sav (env', a) (by rw [hsav]; simp)
        refine ⟨r, hr, { σ' with env := env', sav := sav' }, g', v, ⟨⟨fun t c v hg hc => (s1 t c v hg hc).same rfl rfl, s2⟩, s3, R'.mem.same rfl rfl, ?_, R'.frm, R'.siz, R'.os, R'.tape, R'.out, R.dfr, R.tsz, fun x hx => ?_⟩, hrep.same rfl rfl, hK, fun e => by cases e⟩
        · rw [Owned.same (g := g') (σ' := { σ' with env := env', sav := sav' }) (σ := σ') rfl rfl]; exact R'.own
        · obtain ⟨q1, q2, q3⟩ := R'.sav x (by rw [hsav]; simp [hx])
          exact ⟨fun t c v hg hc => (q1 t c v hg hc).same rfl rfl, q2, q3⟩
      · exact hK.elim
    · exact hK.elim
  cases e with
  | normal => exact fin hK
  | ret => exact fin hK
  | _ => exact hK.elim
end
end Go.Tw

namespace Go.Tw
abbrev A := Bool × List T
def ShapeV (x : A) (v : Value) : Prop := if x.1 then ∃ cs : List Value, v = .agg cs.toArray ∧ cs.length = x.2.length else x.2.length = 1 ∧ v.oneCell' = true
def Shapes : List A → List Value → Prop
  | [], [] => True
  | x :: xs, v :: vs => ShapeV x v ∧ Shapes xs vs
  | _, _ => False
def flatA (xs : List A) : List T := xs.flatMap (·.2)
def flatU (vs : List Value) : List Value := vs.flatMap fun v => v.cells.toList
def oneU : List Value → Value
  | [v] => v
  | vs => .tuple vs.toArray
def PC (P : Program) (f : FuncId) (args res : List A) : Prop :=
  Ours P f ∧ ∀ w vs, Shapes args vs → (∀ (j : Nat) t v, (flatA args)[j]? = some t → (flatU vs)[j]? = some v → Rep w false v t fun _ => True) → Calls P f vs.toArray w fun
    | .returned r, w' => w.heap.size ≤ w'.heap.size ∧ (∀ b, b < w.heap.size → w'.heap[b]? = w.heap[b]?) ∧ w'.os = w.os ∧ w'.tape = w.tape ∧ w'.output = w.output ∧
        ∃ us, r = oneU us ∧ Shapes res us ∧ ∃ F : Nat → Blks, (∀ (j : Nat) t v, (flatA res)[j]? = some t → (flatU us)[j]? = some v → Rep w' true v t (F j)) ∧ (∀ j b, F j b → w.heap.size ≤ b) ∧ ∀ j j' b, F j b → F j' b → j = j'
    | _, _ => False
def leafN (k : Nat) : T → L
  | .sl z es => .ref k [] z 0 es.length
  | .hole => .undef
  | .int i n => .t (.int i n)
  | .bool b => .t (.bool b)
  | .str s => .t (.str s)
def leavesN : Nat → List T → List L
  | _, [] => []
  | k, t :: ts => leafN k t :: leavesN (k + 1) ts
def rowsN (pm : Pm) : Nat → List T → List (Nat × Row)
  | _, [] => []
  | k, .sl z es :: ts => (k, ⟨pm, z, es⟩) :: rowsN pm (k + 1) ts
  | k, _ :: ts => rowsN pm (k + 1) ts
def valsN : Nat → List A → List V
  | _, [] => []
  | k, (true, ts) :: r => .agg (leavesN k ts) :: valsN (k + ts.length) r
  | k, (false, ts) :: r => (match ts with
    | [t] => .l (leafN k t)
    | _ => .l .undef) :: valsN (k + ts.length) r
def denL (σ : St) : L → T → Prop
  | .t x, t => x = t
  | .nil, .sl _ es => es = []
  | .ref r p z off len, .sl z' es' => match nodeOf σ r p with
    | some (_, es) => z = z' ∧ es' = (es.drop off).take len
    | none => False
  | .undef, .hole => True
  | _, _ => False
def denLs (σ : St) : List L → List T → Prop
  | [], [] => True
  | l :: ls, t :: ts => denL σ l t ∧ denLs σ ls ts
  | _, _ => False
def denVs (σ : St) : List V → List A → Prop
  | [], [] => True
  | .l x :: vs, (false, ts) :: r => denLs σ [x] ts ∧ denVs σ vs r
  | .agg xs :: vs, (true, ts) :: r => denLs σ xs ts ∧ denVs σ vs r
  | _, _ => False
def zOf : T → Nat
  | .sl z _ => z
  | _ => 0
def shapeV (x : A) : V → Prop
  | .l _ => x.1 = false ∧ x.2.length = 1
  | .agg xs => x.1 = true ∧ x.2.length = xs.length
  | .tup _ => False
def shapeVs : List A → List V → Prop
  | [], [] => True
  | x :: xs, v :: vs => shapeV x v ∧ shapeVs xs vs
  | _, _ => False
def OutN (P : Program) (rs : List ResultVar) (res : List A) : Exit → St → Prop
  | .normal, σ | .ret, σ => match resV P σ rs with
    | some (c, vs) => c ∧ shapeVs res vs ∧ match takeLs σ ((flatA res).map zOf) (vs.flatMap V.leaves) with
      | some (c', ts, _) => c' ∧ ts = flatA res
      | none => False
    | none => False
  | _, _ => False
section
variable {P : Program} {w0 w w' : World} {Al : Blks} {N : Nat} {g : Gh} {σ σ' : St} {a : Act}
theorem get_rowsN (pm : Pm) : ∀ (ts : List T) (k n : Nat), get (rowsN pm k ts) n = if k ≤ n then (match ts[n - k]? with
    | some (.sl z es) => some ⟨pm, z, es⟩
    | _ => none) else none
  | [], k, n => by simp [rowsN, get]
  | t :: ts, k, n => by
    have ih := get_rowsN pm ts (k + 1) n
    by_cases e : n = k
    · subst e
      have h2 : ¬ n + 1 ≤ n := by omega
      simp only [h2, if_false] at ih
      cases t <;> simp [rowsN, get, ih]
    · have : get (rowsN pm k (t :: ts)) n = get (rowsN pm (k + 1) ts) n := by
        cases t <;> simp [rowsN, get, e]
      rw [this, ih]
      by_cases h1 : k ≤ n
      · have h2 : k + 1 ≤ n := by omega
        have h3 : n - k = (n - (k + 1)) + 1 := by omega
        simp [h1, h2, h3]
      · have h2 : ¬ k + 1 ≤ n := by omega
        simp [h1, h2]
theorem leavesN_get : ∀ (ts : List T) (k j : Nat), (leavesN k ts)[j]? = (ts[j]?).map (leafN (k + j))
  | [], _, _ => by simp [leavesN]
  | t :: ts, k, 0 => by simp [leavesN]
  | t :: ts, k, j + 1 => by
    simp only [leavesN, List.getElem?_cons_succ]
    rw [leavesN_get ts (k + 1) j]
    have : k + 1 + j = k + (j + 1) := by omega
    rw [this]
theorem leavesN_length : ∀ (ts : List T) (k : Nat), (leavesN k ts).length = ts.length
  | [], _ => rfl
  | t :: ts, k => by simp [leavesN, leavesN_length ts]
theorem leafN_rep {o : Bool} {t : T} {v : Value} {F : Blks} {k : Nat} (h : Rep w o v t F) (hrow : ∀ z es, t = .sl z es → ∃ row, get σ.row k = some row ∧ row.z = z ∧ row.es = es ∧ g.rw k = v) : RepL w g σ (leafN k t) v := by
  cases t with
  | int i n => cases h; exact .int
  | bool b => cases h; exact .bool
  | str s => cases h; exact .str
  | hole => exact h.one
  | sl z es =>
    obtain ⟨⟨pm, z', es'⟩, h1, h2, h3, h4⟩ := hrow z es rfl
    simp only at h2 h3
    subst h2 h3
    refine ⟨_, es', v, h1, rfl, by simp [valAt, h4], by simp, ?_⟩
    cases h with
    | nils => exact View.whole _ _ _ _ _
    | bare => exact View.whole _ _ _ _ _
    | sl => exact View.whole _ _ _ _ _
theorem Shapes.length : ∀ {xs : List A} {vs : List Value}, Shapes xs vs → xs.length = vs.length
  | [], [], _ => rfl
  | _ :: _, _ :: _, h => by simp [h.2.length]
  | [], _ :: _, h => h.elim
  | _ :: _, [], h => h.elim
theorem ShapeV.cells {x : A} {v : Value} (h : ShapeV x v) : v.cells.toList.length = x.2.length := by
  unfold ShapeV at h
  split at h
  · obtain ⟨cs, rfl, hl⟩ := h
    simpa [Value.cells] using hl
  · rw [h.1, cells_one h.2]; rfl
theorem valsN_rep : ∀ {xs : List A} {vs : List Value} {k : Nat}, Shapes xs vs → (∀ (j : Nat) t v, (flatA xs)[j]? = some t → (flatU vs)[j]? = some v → RepL w g σ (leafN (k + j) t) v) → RepVs w g σ (valsN k xs) vs
  | [], [], _, _, _ => trivial
  | (b, ts) :: xs, v :: vs, k, hs, h => by
    have hc : v.cells.toList.length = ts.length := hs.1.cells
    have hls : RepLs w g σ (leavesN k ts) v.cells.toList := by
      refine .of_nth (by rw [leavesN_length, hc]) fun j l u hl hu => ?_
      rw [leavesN_get] at hl
      simp only [Option.map_eq_some_iff] at hl
      obtain ⟨t, ht, rfl⟩ := hl
      have hj : j < ts.length := (List.getElem?_eq_some_iff.1 ht).1
      refine h j t u ?_ ?_
      · simp only [flatA, List.flatMap_cons]
        rw [List.getElem?_append_left hj]; exact ht
      · simp only [flatU, List.flatMap_cons]
        rw [List.getElem?_append_left (by omega)]; exact hu
    have hrest : RepVs w g σ (valsN (k + ts.length) xs) vs := by
      refine valsN_rep hs.2 fun j t u ht hu => ?_
      have := h (ts.length + j) t u ?_ ?_
      · rwa [← Nat.add_assoc] at this
      · simp only [flatA, List.flatMap_cons]
        rw [List.getElem?_append_right (by simp), Nat.add_sub_cancel_left]
        exact ht
      · simp only [flatU, List.flatMap_cons]
        rw [List.getElem?_append_right (by omega), hc, Nat.add_sub_cancel_left]
        exact hu
    cases b with
    | true =>
      simp only [valsN]
      obtain ⟨cs, rfl, _⟩ := (by simpa [ShapeV] using hs.1 : ∃ cs : List Value, v = .agg cs.toArray ∧ cs.length = ts.length)
      exact ⟨⟨cs, rfl, by simpa [Value.cells] using hls⟩, hrest⟩
    | false =>
      obtain ⟨h1, h2⟩ := (by simpa [ShapeV] using hs.1 : ts.length = 1 ∧ v.oneCell' = true)
      match ts, h1 with
      | [t], _ =>
        simp only [valsN]
        rw [cells_one h2] at hls
        exact ⟨hls.1, hrest⟩
  | [], _ :: _, _, h, _ => h.elim
  | _ :: _, [], _, h, _ => h.elim
theorem denL_rep (m : Mem w g σ) {l : L} {t : T} {v : Value} (h : RepL w g σ l v) (hd : denL σ l t) : Rep w false v t fun _ => True := by
  unfold denL at hd
  split at hd
  · subst hd; exact (show Rep w false v _ _ from h).toTrue
  · subst hd; obtain ⟨oa, rfl⟩ := h
    cases oa with
    | none => exact .nils
    | some a => exact .bare
  · rename_i r p z off len z' es'
    obtain ⟨row, es0, u, e1, e2, e3, e4, e5⟩ := h
    have hn : nodeOf σ r p = some (z, es0) := by simp [nodeOf, e1, e2]
    rw [hn] at hd
    obtain ⟨rfl, rfl⟩ := hd
    obtain ⟨u', hu', hru⟩ := m.at e1 e2
    rw [e3] at hu'
    cases hu'
    exact (hru.view e5 e4).toTrue
  · exact .hole h
  · exact hd.elim
end
end Go.Tw

namespace Go.Tw
section
variable {P : Program} {w0 w w' : World} {Al : Blks} {N : Nat} {g : Gh} {σ σ' : St} {a : Act}
theorem flatU_length : ∀ {xs : List A} {vs : List Value}, Shapes xs vs → (flatU vs).length = (flatA xs).length
  | [], [], _ => rfl
  | x :: xs, v :: vs, h => by
    have := flatU_length h.2
    simp only [flatU, flatA, List.flatMap_cons, List.length_append] at this ⊢
    rw [h.1.cells, this]
  | [], _ :: _, h => h.elim
  | _ :: _, [], h => h.elim
def St.start (args : List A) : St := { env := paramsE 0 (valsN 0 args), box := [], row := rowsN .ro 0 (flatA args), nxt := (flatA args).length, sav := [] }
theorem shapeV_rep {x : A} {v : V} {u : Value} (h : shapeV x v) (hr : RepV w g σ v u) : ShapeV x u ∧ RepLs w g σ v.leaves u.cells.toList := by
  cases v with
  | l y =>
    obtain ⟨h1, h2⟩ := h
    refine ⟨by simp only [ShapeV, h1, Bool.false_eq_true, if_false]; exact ⟨h2, RepL.one hr⟩, ?_⟩
    exact RepV.cells hr rfl
  | agg ys =>
    obtain ⟨h1, h2⟩ := h
    refine ⟨?_, RepV.cells hr rfl⟩
    obtain ⟨vs, rfl, hl⟩ := hr
    simp only [ShapeV, h1, if_true]
    exact ⟨vs, rfl, by rw [h2, hl.length]⟩
  | tup => exact h.elim
theorem shapeVs_rep : ∀ {xs : List A} {vs : List V} {us : List Value}, shapeVs xs vs → RepVs w g σ vs us → Shapes xs us ∧ RepLs w g σ (vs.flatMap V.leaves) (flatU us)
  | [], [], [], _, _ => ⟨trivial, trivial⟩
  | x :: xs, v :: vs, u :: us, h, hr => by
    obtain ⟨h1, h2⟩ := shapeV_rep h.1 hr.1
    obtain ⟨h3, h4⟩ := shapeVs_rep h.2 hr.2
    refine ⟨⟨h1, h3⟩, ?_⟩
    simp only [List.flatMap_cons, flatU]
    have app : ∀ {ls ks : List L} {vs us : List Value}, RepLs w g σ ls vs → RepLs w g σ ks us → RepLs w g σ (ls ++ ks) (vs ++ us) := by
      intro ls
      induction ls with
      | nil => intro ks vs us h h'; cases vs with
        | nil => exact h'
        | cons => exact h.elim
      | cons l ls ih => intro ks vs us h h'; cases vs with
        | nil => exact h.elim
        | cons => exact ⟨h.1, ih h.2 h'⟩
    exact app h2 h4
  | [], [], _ :: _, _, h => h.elim
  | _ :: _, _ :: _, [], _, h => h.elim
  | [], _ :: _, _, h, _ => h.elim
  | _ :: _, [], _, h, _ => h.elim
theorem oneV_unit {vs : List V} {v : V} {us : List Value} (hv : oneV vs = some v) (h : RepVs w g σ vs us) : RepV w g σ v (oneU us) := by
  match vs, us, h, hv with
  | [], [], _, hv =>
    simp only [oneV, tupV, Option.map_some, Option.some.injEq] at hv
    subst hv
    exact ⟨[], by simp [oneU], trivial⟩
  | [x], [u], h1, hv =>
    simp only [oneV, Option.some.injEq] at hv
    subst hv
    exact h1.1
  | x :: y :: vs, u1 :: u2 :: us, h1, hv =>
    simp only [oneV, Option.map_eq_some_iff] at hv
    obtain ⟨q, hq, rfl⟩ := hv
    exact ⟨u1 :: u2 :: us, by simp [oneU], tupV_rep hq h1⟩
theorem resV_us (m : Mem w g σ) (hs : Slots w g σ a) {fn : Func} {c : Prop} {vs : List V} (h : resV P σ fn.results.toList = some (c, vs)) (hc : c) :
    ∃ us, (results fn a.tmps).run P w = .ok (oneU us) w ∧ RepVs w g σ vs us := by
  obtain ⟨us, h1, h2⟩ := resV_list m hs h hc
  refine ⟨us, ?_, h1⟩
  have e : fn.results = fn.results.toList.toArray := by simp
  rw [results_resF, e, List.mapM_toArray]
  simp only [Sem.run_bind, Sem.run_map, h2, Result.andThen_ok, Sem.run_pure]
  match us with
  | [] => rfl
  | [u] => rfl
  | u :: u' :: us => simp [oneU]
theorem PC_of {f : FuncId} {fn : Func} {c : Code} {args res : List A} (hf : P.funcs[f]? = some fn) (hb : fn.body = some c) (hn : (fn.name == "runtime.NumGoroutine") = false) {n : Nat} (hnt : fn.ntmps = n) {rs : List ResultVar} (hrs : fn.results.toList = rs) (hl : args.length ≤ n)
    (h : W P n c (OutN P rs res) (St.start args)) : PC P f args res := by
  subst hnt hrs
  refine ⟨⟨fn, hf, by simp [hb], hn⟩, fun w vs hsh hrep => calls_of_wp hf hb ?_⟩
  let g : Gh := ⟨fun _ => 0, fun k => (flatU vs).getD k undef, fun _ _ => False⟩
  have hfl := flatU_length hsh
  have hrow : ∀ r row, get (rowsN .ro 0 (flatA args)) r = some row → row.pm = .ro ∧ (flatA args)[r]? = some (.sl row.z row.es) := by
    intro r row hr
    rw [get_rowsN] at hr
    simp only [Nat.zero_le, if_true, Nat.sub_zero] at hr
    split at hr
    · rename_i z es he
      simp only [Option.some.injEq] at hr
      subst hr
      exact ⟨rfl, he⟩
    · cases hr
  have hown : ∀ b, ¬ Owned g (St.start args) b := by
    rintro b (⟨k, ls, h1, _⟩ | ⟨r, row, h1, h2, _⟩)
    · simp [St.start, get] at h1
    · exact h2 (hrow r row h1).1
  have hvals : RepVs w g (St.start args) (valsN 0 args) vs := by
    refine valsN_rep hsh fun j t v ht hv => ?_
    refine leafN_rep (hrep j t v ht hv) fun z es e => ?_
    subst e
    refine ⟨⟨.ro, z, es⟩, ?_, rfl, rfl, ?_⟩
    · simp only [St.start, get_rowsN, Nat.zero_le, if_true, Nat.zero_add, Nat.sub_zero, ht]
    · simp [g, hv]
  have hlen := hvals.length
  have hal : args.length = vs.length := hsh.length
  have R : Rel w (fun _ => False) fn.ntmps (St.start args) { tmps := vs.toArray ++ Array.replicate (fn.ntmps - vs.toArray.size) undef, defers := [] } w g := by
    refine ⟨⟨fun t c v hg hc => ?_, fun t c v hg hc => ?_⟩, paramsE_unq _ 0, ⟨?_, ?_, ?_, ?_, ?_, ?_, ?_, fun b hb => (hown b hb).elim⟩, fun b hb => (hown b hb).elim, fun _ _ _ => rfl, Nat.le_refl _, rfl, rfl, rfl, rfl, by simp; omega, fun x hx => by simp [St.start] at hx⟩
    · obtain ⟨_, _, h3⟩ := get_paramsE _ 0 t c v hg
      obtain ⟨u, hu, hr⟩ := hvals.nth (j := t) (by simpa using h3)
      have hlt : t < vs.length := (List.getElem?_eq_some_iff.1 hu).1
      have : (vs.toArray ++ Array.replicate (fn.ntmps - vs.toArray.size) undef).getD t undef = u := by
        rw [Array.getD_eq_getD_getElem?, Array.getElem?_append_left (by simpa using hlt)]
        simp [hu]
      rw [this]
      exact hr
    · have := (get_paramsE _ 0 t c v hg).1
      rw [hc] at this
      cases this
    · intro k ls h; simp [St.start, get] at h
    · intro r row h hp; rw [(hrow r row h).1] at hp; cases hp
    · intro r row h hp; rw [(hrow r row h).1] at hp; cases hp
    · intro r row h hp
      have ht := (hrow r row h).2
      have hlt : r < (flatU vs).length := by rw [hfl]; exact (List.getElem?_eq_some_iff.1 ht).1
      have hv : (flatU vs)[r]? = some ((flatU vs).getD r undef) := by simp [List.getD_eq_getElem?_getD, List.getElem?_eq_getElem hlt]
      exact (hrep r _ _ ht hv).mono fun b _ => hown b
    · intro k k' ls ls' h; simp [St.start, get] at h
    · intro k ls r row h; simp [St.start, get] at h
    · intro r r' row row' b h _ hp; exact absurd (hrow r row h).1 hp
  refine wp_mono (h w (fun _ => False) _ w g R) fun e a' w' ⟨σ', g', R', hK⟩ => ?_
  have fin : (match resV P σ' fn.results.toList with
    | some (c, vs) => c ∧ shapeVs res vs ∧ match takeLs σ' ((flatA res).map zOf) (vs.flatMap V.leaves) with
      | some (c', ts, _) => c' ∧ ts = flatA res
      | none => False
    | none => False) → a'.defers = [] ∧ ∃ v, (results fn a'.tmps).run P w' = .ok v w' ∧ (w.heap.size ≤ w'.heap.size ∧ (∀ b, b < w.heap.size → w'.heap[b]? = w.heap[b]?) ∧ w'.os = w.os ∧ w'.tape = w.tape ∧ w'.output = w.output ∧
        ∃ us, v = oneU us ∧ Shapes res us ∧ ∃ F : Nat → Blks, (∀ (j : Nat) t v, (flatA res)[j]? = some t → (flatU us)[j]? = some v → Rep w' true v t (F j)) ∧ (∀ j b, F j b → w.heap.size ≤ b) ∧ ∀ j j' b, F j b → F j' b → j = j') := by
    intro hK
    refine ⟨R'.dfr, ?_⟩
    split at hK
    · rename_i c vs' hres
      obtain ⟨hc, hsv, hK⟩ := hK
      split at hK
      · rename_i c' ts rs hts
        obtain ⟨hc', rfl⟩ := hK
        obtain ⟨us, hr, hus⟩ := resV_us R'.mem R'.slots hres hc
        obtain ⟨hS, hL⟩ := shapeVs_rep hsv hus
        obtain ⟨_, _, F, q1, q2, q3⟩ := takeLs_rep R'.mem hts hc' hL
        refine ⟨_, hr, R'.siz, fun b hb => R'.frm b hb (fun h => h), R'.os, R'.tape, R'.out, us, rfl, hS, F, q1, fun j b hb => ?_, q3⟩
        obtain ⟨r, row, _, h1, h2, h3⟩ := q2 j b hb
        rcases R'.own b (Or.inr ⟨r, row, h1, h2, h3⟩) with h | h
        · exact h
        · exact h.elim
      · exact hK.elim
    · exact hK.elim
  cases e with
  | normal => exact fin hK
  | ret => exact fin hK
  | _ => exact hK.elim
end
end Go.Tw

namespace Go.Tw
def St.answer (σ : St) (res : List A) : St := { σ with row := rowsN .own σ.nxt (flatA res) ++ σ.row, nxt := σ.nxt + (flatA res).length }
section
variable {P : Program} {w0 w w' : World} {Al : Blks} {N : Nat} {g : Gh} {σ σ' : St} {a : Act}
theorem denLs_rep (m : Mem w g σ) : ∀ {ls : List L} {ts : List T} {vs : List Value}, RepLs w g σ ls vs → denLs σ ls ts → ts.length = vs.length ∧ ∀ (j : Nat) t v, ts[j]? = some t → vs[j]? = some v → Rep w false v t fun _ => True
  | [], [], [], _, _ => ⟨rfl, by simp⟩
  | l :: ls, t :: ts, v :: vs, h, hd => by
    obtain ⟨h1, h2⟩ := denLs_rep m h.2 hd.2
    refine ⟨by simp [h1], fun j t' v' ht hv => ?_⟩
    cases j with
    | zero => simp at ht hv; subst ht hv; exact denL_rep m h.1 hd.1
    | succ j => exact h2 j t' v' (by simpa using ht) (by simpa using hv)
  | [], _ :: _, _, _, h => h.elim
  | _ :: _, [], _, _, h => h.elim
  | [], [], _ :: _, h, _ => h.elim
  | _ :: _, _ :: _, [], h, _ => h.elim
theorem denVs_rep (m : Mem w g σ) : ∀ {vs : List V} {xs : List A} {us : List Value}, RepVs w g σ vs us → denVs σ vs xs →
    Shapes xs us ∧ ∀ (j : Nat) t v, (flatA xs)[j]? = some t → (flatU us)[j]? = some v → Rep w false v t fun _ => True
  | [], [], [], _, _ => ⟨trivial, by simp [flatA]⟩
  | x :: vs, (b, ts) :: xs, u :: us, h, hd => by
    have key : ∀ ls, RepLs w g σ ls u.cells.toList → denLs σ ls ts → ShapeV (b, ts) u → denVs σ vs xs →
        Shapes ((b, ts) :: xs) (u :: us) ∧ ∀ (j : Nat) t v, (flatA ((b, ts) :: xs))[j]? = some t → (flatU (u :: us))[j]? = some v → Rep w false v t fun _ => True := by
      intro ls h1 h2 h3 h4
      obtain ⟨q1, q2⟩ := denLs_rep m h1 h2
      obtain ⟨q3, q4⟩ := denVs_rep m h.2 h4
      refine ⟨⟨h3, q3⟩, fun j t v ht hv => ?_⟩
      simp only [flatA, flatU, List.flatMap_cons] at ht hv
      by_cases hj : j < ts.length
      · rw [List.getElem?_append_left hj] at ht
        rw [List.getElem?_append_left (by omega)] at hv
        exact q2 j t v ht hv
      · rw [List.getElem?_append_right (by omega)] at ht
        rw [List.getElem?_append_right (by omega)] at hv
        rw [← q1] at hv
        exact q4 _ t v ht hv
    cases x with
    | l y =>
      cases b with
      | true => exact hd.elim
      | false =>
        obtain ⟨d1, d2⟩ := hd
        have hone : u.oneCell' = true := RepL.one h.1
        have hl : ts.length = 1 := by
          match ts, d1 with
          | [_], _ => rfl
          | [], d1 => exact d1.elim
          | _ :: _ :: _, d1 => exact d1.2.elim
        exact key [y] (RepV.cells h.1 rfl) d1 (by simp only [ShapeV, Bool.false_eq_true, if_false]; exact ⟨hl, hone⟩) d2
    | agg ys =>
      cases b with
      | false => exact hd.elim
      | true =>
        obtain ⟨d1, d2⟩ := hd
        obtain ⟨cs, rfl, hr⟩ := h.1
        have hl := (denLs_rep m hr d1).1
        exact key ys (by simpa [Value.cells] using hr) d1 (by simp only [ShapeV, if_true]; exact ⟨cs, rfl, hl.symm⟩) d2
    | tup => cases b <;> exact hd.elim
  | [], _ :: _, _, _, h => h.elim
  | .l _ :: _, [], _, _, h => h.elim
  | .agg _ :: _, [], _, _, h => h.elim
  | .tup _ :: _, [], _, _, h => h.elim
  | [], [], _ :: _, h, _ => h.elim
  | _ :: _, _ :: _, [], h, _ => h.elim
theorem answer_in (m : Mem w g σ) {res : List A} (hfr : ∀ j, j < (flatA res).length → get σ.row (σ.nxt + j) = none) {us : List Value} (hsh : Shapes res us) {F : Nat → Blks}
    (hF : ∀ (j : Nat) t v, (flatA res)[j]? = some t → (flatU us)[j]? = some v → Rep w' true v t (F j)) (hlo : ∀ j b, F j b → w.heap.size ≤ b) (hdis : ∀ j j' b, F j b → F j' b → j = j')
    (hsiz : w.heap.size ≤ w'.heap.size) (hold : ∀ b, b < w.heap.size → w'.heap[b]? = w.heap[b]?) :
    ∃ g', NewIn w w' g g' σ (σ.answer res) [] [] (rowsN .own σ.nxt (flatA res)) [] (fun _ => false) ∧ ∀ j v, j < (flatA res).length → (flatU us)[j]? = some v → g'.rw (σ.nxt + j) = v := by
  let G : Nat → Blks := fun j b => F j b ∧ b < w'.heap.size
  let g' : Gh := ⟨g.bx, fun k => if σ.nxt ≤ k ∧ k < σ.nxt + (flatA res).length then (flatU us).getD (k - σ.nxt) undef else g.rw k, fun k => if σ.nxt ≤ k ∧ k < σ.nxt + (flatA res).length then G (k - σ.nxt) else g.fp k⟩
  have hfl := flatU_length hsh
  have hrow : ∀ r row, get (rowsN .own σ.nxt (flatA res)) r = some row → row.pm = .own ∧ σ.nxt ≤ r ∧ r < σ.nxt + (flatA res).length ∧ (flatA res)[r - σ.nxt]? = some (.sl row.z row.es) := by
    intro r row hr
    rw [get_rowsN] at hr
    split at hr
    · rename_i hle
      split at hr
      · rename_i z es he
        simp only [Option.some.injEq] at hr
        subst hr
        have := (List.getElem?_eq_some_iff.1 he).1
        exact ⟨rfl, hle, by omega, he⟩
      · cases hr
    · cases hr
  have hnew : ∀ k row, get (rowsN .own σ.nxt (flatA res)) k = some row → get σ.row k = none := by
    intro k row hk
    obtain ⟨_, h1, h2, _⟩ := hrow k row hk
    have := hfr (k - σ.nxt) (by omega)
    rwa [Nat.add_sub_cancel' h1] at this
  have hnot : ∀ r, (get σ.row r).isSome → ¬ (σ.nxt ≤ r ∧ r < σ.nxt + (flatA res).length) := by
    rintro r hr ⟨h1, h2⟩
    have := hfr (r - σ.nxt) (by omega)
    rw [Nat.add_sub_cancel' h1] at this
    rw [this] at hr
    cases hr
  refine ⟨g', ⟨by simp [St.answer, del_nil], by simp [St.answer, del_nil, killB_no], fun b hb _ => hold b hb, hsiz, fun r _ hr => ?_, fun _ _ _ => rfl, fun k row hk => Or.inr (hnew k row hk), fun k ls hk => by simp [get] at hk, ?_, ?_, ?_, ?_, fun k ls hk => by simp [get] at hk, ?_, fun k ls r row hk => by simp [get] at hk, fun k k' ls ls' hk => by simp [get] at hk, fun k ls hk => by simp [get] at hk, fun _ _ r p _ _ h => by simp at h, fun _ _ b _ _ h => by simp at h⟩, ?_⟩
  · have := hnot r hr
    simp only [g', this, if_false, and_self]
  · intro k row hk _
    obtain ⟨_, h1, h2, h3⟩ := hrow k row hk
    have hc : σ.nxt ≤ k ∧ k < σ.nxt + (flatA res).length := ⟨h1, h2⟩
    have hlt : k - σ.nxt < (flatU us).length := by omega
    have hv : (flatU us)[k - σ.nxt]? = some ((flatU us).getD (k - σ.nxt) undef) := by simp [List.getD_eq_getElem?_getD, List.getElem?_eq_getElem hlt]
    simp only [g', hc, and_self, if_true]
    obtain ⟨H, hH, hs, hlt'⟩ := (hF _ _ _ h3 hv).lt
    exact hH.mono fun b hb => ⟨hs b hb, hlt' b hb⟩
  · intro k row hk hp; rw [(hrow k row hk).1] at hp; cases hp
  · intro k row hk hp; rw [(hrow k row hk).1] at hp; cases hp
  · intro k row b hk _ hb
    obtain ⟨_, h1, h2, h3⟩ := hrow k row hk
    have hc : σ.nxt ≤ k ∧ k < σ.nxt + (flatA res).length := ⟨h1, h2⟩
    simp only [g', hc, and_self, if_true] at hb
    exact ⟨Or.inr (hlo _ b hb.1), hb.2⟩
  · intro r r' row row' b hr hr' _ _ hb hb'
    obtain ⟨_, h1, h2, _⟩ := hrow r row hr
    obtain ⟨_, h3, h4, _⟩ := hrow r' row' hr'
    have hc : σ.nxt ≤ r ∧ r < σ.nxt + (flatA res).length := ⟨h1, h2⟩
    have hc' : σ.nxt ≤ r' ∧ r' < σ.nxt + (flatA res).length := ⟨h3, h4⟩
    simp only [g', hc, hc', and_self, if_true] at hb hb'
    have := hdis _ _ b hb.1 hb'.1
    omega
  · intro j v hj hv
    have hc : σ.nxt ≤ σ.nxt + j ∧ σ.nxt + j < σ.nxt + (flatA res).length := ⟨by omega, by omega⟩
    simp only [g', hc, and_self, if_true, Nat.add_sub_cancel_left, List.getD_eq_getElem?_getD, hv, Option.getD_some]
theorem CallW_pure {f : FuncId} {args res : List A} {vs : List V} {v : V} {K : St → V → Prop} (hpc : PC P f args res) (hden : denVs σ vs args) (hv : oneV (valsN σ.nxt res) = some v)
    (hfr : ∀ j, j < (flatA res).length → get σ.row (σ.nxt + j) = none) (hK : K (σ.answer res) v) {k : Bool} : CallW P k f vs K σ := by
  refine ⟨hpc.1, fun w0 Al N a w g us R hus => ?_⟩
  obtain ⟨h1, h2⟩ := denVs_rep R.mem hus hden
  refine Calls.mono (hpc.2 w us h1 h2) fun e w' he => ?_
  cases e with
  | panicked => exact he
  | outgrown => exact he
  | returned r =>
    obtain ⟨hsiz, hold, hos, htape, hout, us', rfl, hsh, F, hF, hlo, hdis⟩ := he
    obtain ⟨g', hin, hrw⟩ := answer_in R.mem hfr hsh hF hlo hdis hsiz hold
    have R' := R.turn hin ⟨by rw [killE_no]; rfl, (killS_no _).symm⟩ hos htape hout
    refine ⟨σ.answer res, g', v, R', ?_, hK, fun _ => hold⟩
    refine oneV_unit hv (valsN_rep hsh fun j t u ht hu => leafN_rep (hF j t u ht hu) fun z es e => ?_)
    subst e
    have hj : j < (flatA res).length := (List.getElem?_eq_some_iff.1 ht).1
    refine ⟨⟨.own, z, es⟩, ?_, rfl, rfl, hrw j u hj hu⟩
    simp only [St.answer, get_append, get_rowsN, Nat.le_add_right, if_true, Nat.add_sub_cancel_left, ht]
end
end Go.Tw

namespace Go.Tw
def St.only (σ : St) (ts : List Nat) : St := { σ with env := ts.filterMap fun t => (get σ.env t).map fun x => (t, x) }
def L.of (DR DB : List Nat) (l : L) : Bool := (match l.rowOf with
  | some (r, _) => DR.contains r
  | none => false) || l.boxOf.any DB.contains
def St.drop (σ : St) (DR DB : List Nat) : St := { σ with env := killE (L.of DR DB) σ.env, sav := killS (L.of DR DB) σ.sav, box := killB (L.of DR DB) (del DB σ.box), row := del DR σ.row }
def renL (f h : Nat → Nat) : L → L
  | .ref r p z off len => .ref (f r) p z off len
  | .ept r p i j e => .ept (f r) p i j e
  | .ptr b j => .ptr (h b) j
  | .fn g caps => .fn g (caps.map h)
  | l => l
def renV (f h : Nat → Nat) : V → V
  | .l x => .l (renL f h x)
  | .agg xs => .agg (xs.map (renL f h))
  | .tup vs => .tup (vs.map fun x => (x.1, x.2.map (renL f h)))
def renE (f h : Nat → Nat) (env : List (Nat × Bool × V)) : List (Nat × Bool × V) := env.map fun x => (x.1, x.2.1, renV f h x.2.2)
def St.ren (σ : St) (f h : Nat → Nat) : St :=
  { env := renE f h σ.env, box := σ.box.map fun x => (h x.1, x.2.map (renL f h)), row := σ.row.map fun x => (f x.1, x.2), nxt := σ.nxt, sav := σ.sav.map fun x => (renE f h x.1, x.2) }
def swp (a b n : Nat) : Nat := if n = a then b else if n = b then a else n
section
variable {P : Program} {w0 w w' : World} {Al : Blks} {N : Nat} {g : Gh} {σ σ' : St} {a : Act}
theorem swp_swp (a b n : Nat) : swp a b (swp a b n) = n := by
  unfold swp
  split <;> split <;> simp_all
theorem get_only (σ : St) (ts : List Nat) (t : Nat) (x : Bool × V) (h : get (σ.only ts).env t = some x) : t ∈ ts ∧ get σ.env t = some x := by
  unfold St.only at h
  simp only at h
  induction ts with
  | nil => simp [get] at h
  | cons s ts ih =>
    simp only [List.filterMap_cons] at h
    cases hs : get σ.env s with
    | none =>
      rw [hs] at h
      obtain ⟨h1, h2⟩ := ih h
      exact ⟨by simp [h1], h2⟩
    | some y =>
      rw [hs] at h
      simp only [Option.map_some, get] at h
      split at h
      · rename_i e
        subst e
        simp only [Option.some.injEq] at h
        subst h
        exact ⟨by simp, hs⟩
      · obtain ⟨h1, h2⟩ := ih h
        exact ⟨by simp [h1], h2⟩
theorem only_unq (σ : St) : ∀ (ts : List Nat), ts.Nodup → (σ.only ts).env.Pairwise fun x y => x.1 ≠ y.1
  | [], _ => .nil
  | s :: ts, hn => by
    obtain ⟨h1, h2⟩ := List.nodup_cons.1 hn
    have ih := only_unq σ ts h2
    unfold St.only at ih ⊢
    simp only [List.filterMap_cons]
    cases hs : get σ.env s with
    | none => exact ih
    | some y =>
      simp only [Option.map_some]
      refine List.pairwise_cons.2 ⟨fun x hx => ?_, ih⟩
      simp only [List.mem_filterMap, Option.map_eq_some_iff] at hx
      obtain ⟨t, ht, y', _, rfl⟩ := hx
      simp only
      intro e
      exact h1 (e ▸ ht)
theorem Sub.only (ts : List Nat) (hn : ts.Nodup) : Sub σ (σ.only ts) := fun w0 Al N a w g R =>
  ⟨g, ⟨fun t c v hg hc => (R.slots.yes t c v (get_only σ ts t _ hg).2 hc).same rfl rfl, fun t c v hg hc => R.slots.no t c v (get_only σ ts t _ hg).2 hc⟩, only_unq σ ts hn, R.mem.same rfl rfl, by rw [Owned.same (g := g) (σ' := σ.only ts) (σ := σ) rfl rfl]; exact R.own, R.frm, R.siz, R.os, R.tape, R.out, R.dfr, R.tsz,
    fun x hx => let ⟨q1, q2, q3⟩ := R.sav x hx; ⟨fun t c v h hc => (q1 t c v h hc).same rfl rfl, q2, q3⟩⟩
theorem Sub.num (n : Nat) : Sub σ { σ with nxt := n } := fun _ _ _ _ _ g R => ⟨g, R.num n⟩
theorem Sub.freeze (rs : List Nat) : Sub σ (σ.freeze rs) := fun _ _ _ _ _ g R => ⟨g, rel_freeze R rs⟩
theorem drop_in (m : Mem w g σ) (DR DB : List Nat) : NewIn w w g g σ (σ.drop DR DB) DR DB [] [] (L.of DR DB) := by
  refine ⟨rfl, rfl, fun _ _ _ => rfl, Nat.le_refl _, fun _ _ _ => ⟨rfl, rfl⟩, fun _ _ _ => rfl, ?_, ?_, ?_, ?_, ?_, ?_, ?_, ?_, ?_, ?_, ?_, ?_, ?_⟩
  · intro k row h; simp [get] at h
  · intro k row h; simp [get] at h
  · intro k row h; simp [get] at h
  · intro k row h; simp [get] at h
  · intro k row h; simp [get] at h
  · intro k row b h; simp [get] at h
  · intro k ls h; simp [get] at h
  · intro k k' row row' b h; simp [get] at h
  · intro k ls r row h; simp [get] at h
  · intro k k' ls ls' h; simp [get] at h
  · intro k ls h; simp [get] at h
  · intro l hl r p hr _ hd
    simp [L.of, hr, hd] at hl
  · intro l hl b hb _ hd
    simp only [L.of, Bool.or_eq_false_iff, List.any_eq_false] at hl
    exact absurd (by simpa using hd) (hl.2 b hb)
theorem Sub.drop (DR DB : List Nat) : Sub σ (σ.drop DR DB) := fun _ _ _ _ _ g R => ⟨g, R.turn (drop_in R.mem DR DB) ⟨rfl, rfl⟩ rfl rfl rfl⟩
theorem get_map_inv {α β : Type} {f : Nat → Nat} (hf : ∀ n, f (f n) = n) (u : α → β) : ∀ (xs : List (Nat × α)) (n : Nat), get (xs.map fun x => (f x.1, u x.2)) n = (get xs (f n)).map u
  | [], _ => rfl
  | (k, x) :: xs, n => by
    simp only [List.map_cons, get]
    by_cases e : n = f k
    · subst e; simp [hf]
    · have : f n ≠ k := fun h => e (by rw [← h, hf])
      simp only [e, this, if_false]
      exact get_map_inv hf u xs n
theorem get_renE (f h : Nat → Nat) : ∀ (env : List (Nat × Bool × V)) (t : Nat), get (renE f h env) t = (get env t).map fun x => (x.1, renV f h x.2)
  | [], _ => rfl
  | (k, x) :: env, t => by
    have ih := get_renE f h env t
    unfold renE at ih ⊢
    simp only [List.map_cons, get]
    split
    · rfl
    · exact ih
theorem renE_unq {f h : Nat → Nat} {env : List (Nat × Bool × V)} (hp : env.Pairwise fun x y => x.1 ≠ y.1) : (renE f h env).Pairwise fun x y => x.1 ≠ y.1 := by
  unfold renE
  rw [List.pairwise_map]
  exact hp
theorem Sub.ren {f h : Nat → Nat} (hf : ∀ n, f (f n) = n) (hh : ∀ n, h (h n) = n) : Sub σ (σ.ren f h) := by
  intro w0 Al N a w g R
  let g' : Gh := ⟨fun k => g.bx (h k), fun r => g.rw (f r), fun r => g.fp (f r)⟩
  have rowE : ∀ r, get (σ.ren f h).row r = get σ.row (f r) := fun r => by
    have := get_map_inv hf (fun x : Row => x) σ.row r
    simpa [St.ren] using this
  have boxE : ∀ k, get (σ.ren f h).box k = (get σ.box (h k)).map (List.map (renL f h)) := fun k => get_map_inv hh (List.map (renL f h)) σ.box k
  have repL : ∀ l v, RepL w g σ l v → RepL w g' (σ.ren f h) (renL f h l) v := by
    intro l v hr
    cases l with
    | t x => exact hr
    | ref r p z off len =>
      obtain ⟨row, es, u, e1, e2, e3, e4⟩ := hr
      exact ⟨row, es, u, by rw [rowE, hf]; exact e1, e2, by simp only [g', hf]; exact e3, e4⟩
    | nil => exact hr
    | ptr b j =>
      obtain ⟨e1, e2⟩ := hr
      refine ⟨by rw [boxE, hh]; simpa using e1, ?_⟩
      simp only [g', hh]; exact e2
    | ept r p i j d =>
      obtain ⟨row, z, es, ad, n, cap, e1, e2, e3, e4⟩ := hr
      exact ⟨row, z, es, ad, n, cap, by rw [rowE, hf]; exact e1, e2, by simp only [g', hf]; exact e3, e4⟩
    | npt => exact hr
    | fn q caps =>
      obtain ⟨e1, e2⟩ := hr
      refine ⟨fun b hb => ?_, ?_⟩
      · obtain ⟨b0, hb0, rfl⟩ := List.mem_map.1 hb
        rw [boxE, hh]
        simpa using e1 b0 hb0
      · rw [e2]
        simp only [List.map_map, g']
        congr 2
        exact List.map_congr_left fun b _ => by simp [hh]
    | undef => exact hr
  have repLs : ∀ ls vs, RepLs w g σ ls vs → RepLs w g' (σ.ren f h) (ls.map (renL f h)) vs := by
    intro ls
    induction ls with
    | nil => intro vs hr; cases vs with
      | nil => trivial
      | cons => exact hr.elim
    | cons l ls ih => intro vs hr; cases vs with
      | nil => exact hr.elim
      | cons v vs => exact ⟨repL l v hr.1, ih vs hr.2⟩
  have repV : ∀ x v, RepV w g σ x v → RepV w g' (σ.ren f h) (renV f h x) v := by
    intro x v hr
    cases x with
    | l y => exact repL y v hr
    | agg ys => obtain ⟨vs, e, hr⟩ := hr; exact ⟨vs, e, repLs ys vs hr⟩
    | tup ys =>
      obtain ⟨vs, e, hr⟩ := hr
      refine ⟨vs, e, ?_⟩
      clear e
      induction ys generalizing vs with
      | nil => cases vs with
        | nil => trivial
        | cons => exact hr.elim
      | cons y ys ih => cases vs with
        | nil => exact hr.elim
        | cons v vs =>
          refine ⟨?_, ih vs hr.2⟩
          have := hr.1
          unfold RepW at this ⊢
          cases hy : y.1 with
          | true =>
            simp only [hy, if_true] at this ⊢
            obtain ⟨us, e, hr⟩ := this
            exact ⟨us, e, repLs _ _ hr⟩
          | false =>
            simp only [hy, Bool.false_eq_true, if_false] at this ⊢
            obtain ⟨l, e, hr⟩ := this
            exact ⟨renL f h l, by simp [e], repL l _ hr⟩
  have own : ∀ b, Owned g' (σ.ren f h) b ↔ Owned g σ b := by
    intro b
    constructor
    · rintro (⟨k, ls, h1, h2⟩ | ⟨r, row, h1, h2, h3⟩)
      · rw [boxE] at h1
        simp only [Option.map_eq_some_iff] at h1
        obtain ⟨ls0, h1, _⟩ := h1
        exact Or.inl ⟨h k, ls0, h1, h2⟩
      · rw [rowE] at h1
        exact Or.inr ⟨f r, row, h1, h2, h3⟩
    · rintro (⟨k, ls, h1, h2⟩ | ⟨r, row, h1, h2, h3⟩)
      · exact Or.inl ⟨h k, ls.map (renL f h), by rw [boxE, hh, h1]; rfl, by simp only [g', hh]; exact h2⟩
      · exact Or.inr ⟨f r, row, by rw [rowE, hf]; exact h1, h2, by simp only [g', hf]; exact h3⟩
  have ownE : (fun b => ¬ Owned g' (σ.ren f h) b) = fun b => ¬ Owned g σ b := by funext b; rw [own]
  have m := R.mem
  have m' : Mem w g' (σ.ren f h) := by
    refine ⟨?_, ?_, ?_, ?_, ?_, ?_, ?_, fun b hb => m.lt b ((own b).1 hb)⟩
    · intro k ls hk
      rw [boxE] at hk
      simp only [Option.map_eq_some_iff] at hk
      obtain ⟨ls0, hk, rfl⟩ := hk
      obtain ⟨cs, e, hc, hr⟩ := m.box _ ls0 hk
      exact ⟨cs, e, hc, repLs _ _ hr⟩
    · intro r row hr hp
      rw [rowE] at hr
      exact m.own _ row hr hp
    · intro r row hr hp
      rw [rowE] at hr
      rw [ownE]
      exact m.top _ row hr hp
    · intro r row hr hp
      rw [rowE] at hr
      rw [ownE]
      exact m.ro _ row hr hp
    · intro k k' ls ls' hk hk' e
      rw [boxE] at hk hk'
      simp only [Option.map_eq_some_iff] at hk hk'
      obtain ⟨l1, hk, _⟩ := hk
      obtain ⟨l2, hk', _⟩ := hk'
      have := m.bb _ _ l1 l2 hk hk' e
      rw [← hh k, this, hh]
    · intro k ls r row hk hr hp
      rw [boxE] at hk
      simp only [Option.map_eq_some_iff] at hk
      obtain ⟨l1, hk, _⟩ := hk
      rw [rowE] at hr
      exact m.br _ l1 _ row hk hr hp
    · intro r r' row row' b hr hr' hp hp' hb hb'
      rw [rowE] at hr hr'
      have := m.rr _ _ row row' b hr hr' hp hp' hb hb'
      rw [← hf r, this, hf]
  refine ⟨g', ⟨fun t c v hg hc => ?_, fun t c v hg hc => ?_⟩, renE_unq R.unq, m', fun b hb => R.own b ((own b).1 hb), R.frm, R.siz, R.os, R.tape, R.out, R.dfr, R.tsz, fun x hx => ?_⟩
  · simp only [St.ren] at hg
    rw [get_renE] at hg
    simp only [Option.map_eq_some_iff, Prod.mk.injEq] at hg
    obtain ⟨⟨c', v'⟩, hg, rfl, rfl⟩ := hg
    exact repV _ _ (R.slots.yes t c' v' hg hc)
  · simp only [St.ren] at hg
    rw [get_renE] at hg
    simp only [Option.map_eq_some_iff, Prod.mk.injEq] at hg
    obtain ⟨⟨c', v'⟩, hg, rfl, rfl⟩ := hg
    exact R.slots.no t c' v' hg hc
  · simp only [St.ren, List.mem_map] at hx
    obtain ⟨y, hy, rfl⟩ := hx
    obtain ⟨q1, q2, q3⟩ := R.sav y hy
    refine ⟨fun t c v hg hc => ?_, fun t c v hg hc => ?_, renE_unq q3⟩
    · rw [get_renE] at hg
      simp only [Option.map_eq_some_iff, Prod.mk.injEq] at hg
      obtain ⟨⟨c', v'⟩, hg, rfl, rfl⟩ := hg
      exact repV _ _ (q1 t c' v' hg hc)
    · rw [get_renE] at hg
      simp only [Option.map_eq_some_iff, Prod.mk.injEq] at hg
      obtain ⟨⟨c', v'⟩, hg, rfl, rfl⟩ := hg
      exact q2 t c' v' hg hc
theorem Sub.nilRow {t nm z : Nat} (hg : get σ.env t = some (true, .l .nil)) (hnm : get σ.row nm = none) :
    Sub σ { σ with env := (t, true, .l (.ref nm [] z 0 0)) :: del [t] σ.env, row := (nm, ⟨.own, z, []⟩) :: σ.row } := by
  intro w0 Al N a w g R
  obtain ⟨oa, hv⟩ := R.slots.yes t true _ hg rfl
  have hrep : Rep w true (.slice oa 0 0) (.sl z []) fun _ => False := by
    cases oa with
    | none => exact .nils
    | some ad => exact .bare
  let g' : Gh := ⟨g.bx, fun k => if k = nm then .slice oa 0 0 else g.rw k, fun k => if k = nm then fun _ => False else g.fp k⟩
  let σ1 : St := { σ with row := (nm, ⟨.own, z, []⟩) :: σ.row }
  have hin : NewIn w w g g' σ σ1 [] [] [(nm, ⟨.own, z, []⟩)] [] (fun _ => false) := by
    have hk : ∀ k row, get [(nm, (⟨.own, z, []⟩ : Row))] k = some row → k = nm ∧ row = ⟨.own, z, []⟩ := by
      intro k row h
      simp only [get] at h
      split at h
      · rename_i e
        simp only [Option.some.injEq] at h
        exact ⟨e, h.symm⟩
      · cases h
    refine ⟨by simp [σ1, del_nil], by simp [σ1, del_nil, killB_no], fun _ _ _ => rfl, Nat.le_refl _, fun r _ hr => ?_, fun _ _ _ => rfl, fun k row h => ?_, fun k ls h => by simp [get] at h, ?_, ?_, ?_, ?_, fun k ls h => by simp [get] at h, ?_, fun k ls r row h => by simp [get] at h, fun k k' ls ls' h => by simp [get] at h, fun k ls h => by simp [get] at h, fun _ _ r p _ _ h => by simp at h, fun _ _ b _ _ h => by simp at h⟩
    · have : r ≠ nm := fun e => by subst e; rw [hnm] at hr; cases hr
      simp [g', this]
    · obtain ⟨rfl, _⟩ := hk k row h; exact Or.inr hnm
    · intro k row h _; obtain ⟨rfl, rfl⟩ := hk k row h; simp only [g', if_true]; exact hrep
    · intro k row h hp; obtain ⟨_, rfl⟩ := hk k row h; cases hp
    · intro k row h hp; obtain ⟨_, rfl⟩ := hk k row h; cases hp
    · intro k row b h _ hb; obtain ⟨rfl, _⟩ := hk k row h; simp [g'] at hb
    · intro r r' row row' b h h' _ _ hb; obtain ⟨rfl, _⟩ := hk r row h; simp [g'] at hb
  have R1 := R.turn hin (σ1 := σ1) ⟨by rw [killE_no], (killS_no _).symm⟩ rfl rfl rfl
  have hlt : t < N := by
    rw [← R.tsz]
    apply Nat.lt_of_not_le
    intro h
    have : a.tmps.getD t undef = undef := by rw [Array.getD_eq_getD_getElem?, Array.getElem?_eq_none h]; rfl
    rw [this] at hv
    simp [undef] at hv
  have hput := R1.put (d := some t) (fun s hs => by cases hs; exact hlt) (c := true) (v := .l (.ref nm [] z 0 0)) (x := .slice oa 0 0) (fun _ => ⟨⟨.own, z, []⟩, [], .slice oa 0 0, by simp [σ1, get], rfl, by simp [valAt, g'], by simp, View.whole _ _ _ _ _⟩) (fun e => by cases e)
  refine ⟨g', ?_⟩
  have ha : a.put (some t) (.slice oa 0 0) = a := by
    have hlt' : t < a.tmps.size := by rw [R.tsz]; exact hlt
    obtain ⟨tm, df⟩ := a
    simp only [Act.put] at hv hlt' ⊢
    congr 1
    apply Array.ext
    · simp
    · intro i h1 h2
      rw [Array.getElem_setIfInBounds]
      split
      · rename_i e
        subst e
        rw [Array.getD_eq_getD_getElem?, Array.getElem?_eq_getElem h2] at hv
        simpa using hv.symm
      · rfl
  rw [ha] at hput
  exact hput
end
end Go.Tw

namespace Go.Tw
def Step (P : Program) (N : Nat) (k : Bool) (ops : List Oper) (o : Oper) (σ : St) (next : St → Prop) : Prop :=
  dstOk N o.dst ∧ match guardOf σ ops.toArray o.guard with
    | none => False
    | some G => match Op.isPv o.op with
      | true => match pv P σ o.op with
        | some (c, v) => (G = true → c) ∧ next (σ.set o.dst G v)
        | none => False
      | false => match calleeOf σ o.op with
        | some (c, f, vs) => CallG P k f vs c G o.dst (fun σ' => next σ') σ
        | none => (G = false → next (σ.set o.dst false (.l .undef))) ∧ (G = true → match eff P σ σ.nxt o.op with
          | some (c, σ', some v) => c ∧ next ({ σ' with nxt := σ.nxt + 1 }.set o.dst true v)
          | some (c, σ', none) => c ∧ next ({ σ' with nxt := σ.nxt + 1 }.set o.dst false (.l .undef))
          | none => False)
def RunL (P : Program) (N : Nat) (k : Bool) (ops : List Oper) (K : St → Prop) : List Oper → St → Prop
  | [], σ => K σ
  | o :: rest, σ => Step P N k ops o σ (RunL P N k ops K rest)
section
variable {P : Program} {N : Nat} {σ : St} {K : Exit → St → Prop}
theorem Step_mono {k : Bool} {ops : List Oper} {o : Oper} {next next' : St → Prop} (hn : ∀ σ, next σ → next' σ) (h : Step P N k ops o σ next) : Step P N k ops o σ next' := by
  unfold Step at *
  obtain ⟨h1, h2⟩ := h
  refine ⟨h1, ?_⟩
  cases hg : guardOf σ ops.toArray o.guard with
  | none => rw [hg] at h2; exact h2.elim
  | some G =>
    simp only [hg] at h2 ⊢
    cases hp : Op.isPv o.op with
    | true =>
      simp only [hp] at h2 ⊢
      cases hv : pv P σ o.op with
      | none => rw [hv] at h2; exact h2.elim
      | some q => simp only [hv] at h2 ⊢; exact ⟨h2.1, hn _ h2.2⟩
    | false =>
      simp only [hp] at h2 ⊢
      cases hc : calleeOf σ o.op with
      | some q =>
        simp only [hc] at h2 ⊢
        obtain ⟨σ1, v1, hsub, h3, h4⟩ := h2
        refine ⟨σ1, v1, hsub, fun e => hn _ (h3 e), fun e => ?_⟩
        have h5 := h4 e
        refine ⟨h5.1, h5.2.1, fun w0 Al N a w g vs R hv => ?_⟩
        refine Calls.mono (h5.2.2 w0 Al N a w g vs R hv) fun e w' he => ?_
        cases e with
        | returned r => obtain ⟨σ', g', v, q1, q2, q3, q4⟩ := he; exact ⟨σ', g', v, q1, q2, hn _ q3, q4⟩
        | panicked => exact he
        | outgrown => exact he
      | none =>
        simp only [hc] at h2 ⊢
        refine ⟨fun e => hn _ (h2.1 e), fun e => ?_⟩
        have h5 := h2.2 e
        cases he : eff P σ σ.nxt o.op with
        | none => rw [he] at h5; exact h5.elim
        | some q =>
          obtain ⟨c, σ', rv⟩ := q
          cases rv with
          | none => simp only [he] at h5 ⊢; exact ⟨h5.1, hn _ h5.2⟩
          | some v => simp only [he] at h5 ⊢; exact ⟨h5.1, hn _ h5.2⟩
theorem Run_of_RunL {K : St → Prop} (ops : List Oper) : ∀ (pre rest : List Oper) (σ : St), ops = pre ++ rest → RunL P N false ops K rest σ → Run P N ops.toArray K ((List.range rest.length).map (· + pre.length)) σ
  | pre, [], σ, _, h => h
  | pre, o :: rest, σ, e, h => by
    have hget : ops.toArray[pre.length]? = some o := by simp [e]
    have ih := fun σ => Run_of_RunL (K := K) ops (pre ++ [o]) rest σ (by simp [e])
    have hl : (List.range (o :: rest).length).map (· + pre.length) = pre.length :: (List.range rest.length).map (· + (pre ++ [o]).length) := by
      rw [List.length_cons, List.range_succ_eq_map]
      simp only [List.map_cons, List.map_map, List.length_append, List.length_singleton, Nat.zero_add]
      congr 1
      apply List.map_congr_left
      intro x _
      simp only [Function.comp]
      omega
    rw [hl]
    simp only [Run, hget]
    exact Step_mono (fun σ => ih σ) h
theorem W_reg {id : Nat} {l : List Oper} (h : RunL P N false l (K .normal) l σ) : W P N (.region id l.toArray false) K σ :=
  W_region (by
    have := Run_of_RunL (P := P) (N := N) (K := K .normal) l [] l σ rfl h
    simpa using this)
end
end Go.Tw

namespace Go.Tw
def growOp (kc : Bool) : Op → Bool
  | .call { callee := .value _, .. } => kc
  | o => Op.isPv o || Op.grows o
def growAt (kc : Bool) (ops : Array Oper) (i : Nat) : Bool := ((ops[i]?).map fun o => growOp kc o.op).getD true
def wpAnyK (kc : Bool) (P : Program) (ops : Array Oper) (Q : Exit → Act → World → Prop) : Nat → Array Bool → Act → World → Prop
  | 0, listed, a, w => Region.ready .any ops listed = [] ∧ Q .normal a w
  | fuel + 1, listed, a, w =>
    (Region.ready .any ops listed = [] → Q .normal a w) ∧
    ∀ i ∈ Region.ready .any ops listed, wpOp P ops Q i (fun a' w' => (growAt kc ops i = true → Kept w w') ∧ wpAnyK kc P ops Q fuel (listed.setIfInBounds i true) a' w') a w
def freeK (kc : Bool) (ops : Array Oper) (listed : Array Bool) (i : Nat) : Bool :=
  match ops[i]? with
  | none => false
  | some oi => Op.isPv oi.op && (List.range ops.size).all fun j => j == i || listed.getD j true || match ops[j]? with
      | some oj => oj.after.any (fun e => Region.binds .any e && e.on == i) || (oi.apart ops oj && (stillOp oi.op || growOp kc oj.op))
      | none => true
def checkK (kc : Bool) (ops : Array Oper) : List Nat → Array Bool → Bool
  | [], listed => (Region.ready .any ops listed).isEmpty
  | i :: rest, listed => (Region.ready .any ops listed).contains i && (freeK kc ops listed i || Region.ready .any ops listed == [i]) && checkK kc ops rest (listed.setIfInBounds i true)
section
variable {kc : Bool} {P : Program} {w0 w w' : World} {Al : Blks} {N : Nat} {g : Gh} {σ : St} {a : Act} {ops : Array Oper} {Q : Exit → Act → World → Prop}
theorem wpAny_of_K : ∀ (fuel : Nat) (listed : Array Bool) (a : Act) (w : World), wpAnyK kc P ops Q fuel listed a w → wpAny P .any ops Q fuel listed a w
  | 0, _, _, _, h => h
  | fuel + 1, _, _, _, h => ⟨h.1, fun i hi => wpOp_mono (fun a' w' h' => wpAny_of_K fuel _ a' w' h'.2) (h.2 i hi)⟩
theorem wpAnyK_first {b : Bool} {i : Nat} {oi : Oper} {v : Value} (hi : ops[i]? = some oi) (hsel : ∀ (j : Nat) (o : Oper) cs b, ops[j]? = some o → o.op ≠ .select cs b)
    (hQ : ∀ c a w, Q (.panic c) (a.put oi.dst v) w → Q (.panic c) a w) :
    ∀ (fuel : Nat) (listed : Array Bool) (a : Act) (w : World),
      (∀ j oj, ops[j]? = some oj → j ≠ i → listed.getD j true = false → (∀ e ∈ oj.after, Region.binds .any e = true → e.on ≠ i) → oi.apart ops oj = true ∧ (b = true ∨ growAt kc ops j = true)) →
      i ∈ Region.ready .any ops listed → YieldsIf P ops (fun w1 => b = true ∨ Kept w w1) oi v a →
      wpAnyK kc P ops Q fuel (listed.setIfInBounds i true) (a.put oi.dst v) w → wpAnyK kc P ops Q (fuel + 1) listed a w := by
  intro fuel
  induction fuel with
  | zero =>
    intro listed a w _ hr hy H
    refine ⟨fun h => (by rw [h] at hr; cases hr), fun j hj => ?_⟩
    by_cases hji : j = i
    · subst hji; exact hy.wpOp hi (.inr (.refl w)) ⟨fun _ => .refl w, H⟩
    · have := ready_mono hj hji
      rw [H.1] at this
      cases this
  | succ fuel ih =>
    intro listed a w hfree hr hy H
    refine ⟨fun h => (by rw [h] at hr; cases hr), fun j hj => ?_⟩
    by_cases hji : j = i
    · subst hji; exact hy.wpOp hi (.inr (.refl w)) ⟨fun _ => .refl w, H⟩
    · have h1 := H.2 j (ready_mono hj hji)
      obtain ⟨hjun, oj, hoj, hall⟩ := mem_ready.1 hj
      have hnot : ∀ e ∈ oj.after, Region.binds .any e = true → e.on ≠ i := fun e he hb heq => by
        have h1 := hall e he hb
        have h0 := (mem_ready.1 hr).1
        rw [heq] at h1
        rcases Nat.lt_or_ge i listed.size with h' | h'
        · simp [h'] at h0 h1; rw [h0] at h1; cases h1
        · simp [Array.getElem?_eq_none h'] at h1
      obtain ⟨hap, hgr⟩ := hfree j oj hoj hji hjun hnot
      have h2 := wpOp_putIf hoj hap (fun cs b => hsel i oi cs b hi) (fun cs b => hsel j oj cs b hoj) hQ hy h1
      have hfree' : ∀ k ok, ops[k]? = some ok → k ≠ i → (listed.setIfInBounds j true).getD k true = false →
          (∀ e ∈ ok.after, Region.binds .any e = true → e.on ≠ i) → oi.apart ops ok = true ∧ (b = true ∨ growAt kc ops k = true) := fun k ok hk hki hun hno => by
        refine hfree k ok hk hki ?_ hno
        by_cases hjk : j = k
        · subst hjk; exact hjun
        · rw [getD_set_ne true hjk] at hun; exact hun
      refine wpOp_mono (fun a' w' h3 => ?_) h2
      obtain ⟨h3, h4, h5⟩ := h3
      have hk : ∀ w2, (b = true ∨ Kept w' w2) → b = true ∨ Kept w w2 := fun w2 h2 => by
        rcases hgr with hgr | hgr
        · exact .inl hgr
        · exact h2.imp id (h4 hgr).trans
      have hy' : YieldsIf P ops (fun w1 => b = true ∨ Kept w' w1) oi v a' := h3.imp (fun ⟨q1, q2⟩ => ⟨q1, fun w2 hw2 => q2 w2 (hk w2 hw2)⟩) id
      refine ⟨h4, ih (listed.setIfInBounds j true) a' w' hfree' (ready_mono hr (Ne.symm hji)) hy' ?_⟩
      rw [Array.setIfInBounds_comm _ _ hji]
      exact h5
theorem freeK_spec {i : Nat} {oi : Oper} {listed : Array Bool} (hi : ops[i]? = some oi) (h : freeK kc ops listed i = true) : Op.isPv oi.op = true ∧ ∀ (j : Nat) (oj : Oper),
    ops[j]? = some oj → j ≠ i → listed.getD j true = false → (∀ e ∈ oj.after, Region.binds .any e = true → e.on ≠ i) → oi.apart ops oj = true ∧ (stillOp oi.op = true ∨ growAt kc ops j = true) := by
  simp only [freeK, hi, Bool.and_eq_true, List.all_eq_true, List.mem_range] at h
  refine ⟨h.1, fun j oj hj hne hun hno => ?_⟩
  have h1 := h.2 j (Array.getElem?_eq_some_iff.1 hj).1
  simp only [hj, Bool.or_eq_true, beq_iff_eq, hne, false_or, hun, Bool.false_eq_true, Bool.and_eq_true] at h1
  rcases h1 with h1 | h1
  · obtain ⟨e, he, hb⟩ := Array.any_eq_true'.1 h1
    simp only [Bool.and_eq_true, beq_iff_eq] at hb
    exact absurd hb.2 (hno e he hb.1)
  · exact ⟨h1.1, h1.2.imp id fun h => by simp [growAt, hj, h]⟩
theorem Step_wpOp {k : Bool} (hkk : kc = true → k = true) {l : List Oper} {i : Nat} {o : Oper} {next : St → Prop} (ho : l.toArray[i]? = some o) (R : Rel w0 Al N σ a w g) (h : Step P N k l o σ next) {M : Act → World → Prop}
    (hM : ∀ σ' a' w' g', Rel w0 Al N σ' a' w' g' → next σ' → (growAt kc l.toArray i = true → Kept w w') → M a' w') : wpOp P l.toArray Q i M a w := by
  unfold wpOp
  simp only [ho]
  obtain ⟨hd, h⟩ := h
  have hd' : ∀ t, o.dst = some t → t < N := by
    intro t ht
    rw [ht] at hd
    exact hd
  have hgr : growAt kc l.toArray i = growOp kc o.op := by simp only [growAt, ho, Option.map_some, Option.getD_some]
  split at h
  · exact h.elim
  · rename_i G hG
    rw [guardOf_run R hG]
    split at h
    · split at h
      · rename_i c v hp
        obtain ⟨hc, h⟩ := h
        cases G with
        | true =>
          obtain ⟨r, hr, hv⟩ := pv_run R.mem R.slots hp (hc rfl)
          simp only [if_true]
          refine .inl ?_
          simp only [Oper.wp, hr, Oper.upon]
          exact hM _ _ _ g (R.put hd' (fun _ => hv) (fun e => by cases e)) h fun _ => .refl w
        | false =>
          simp only [Bool.false_eq_true, if_false]
          exact hM _ _ _ g (R.put hd' (fun e => by cases e) (fun _ => rfl)) h fun _ => .refl w
      · exact h.elim
    · rename_i hpv
      split at h
      · rename_i c f vs hcal
        have hcg : growAt kc l.toArray i = true → kc = true := by
          intro hg
          rw [hgr] at hg
          unfold growOp at hg
          split at hg
          · exact hg
          · rename_i hne
            exfalso
            unfold calleeOf at hcal
            split at hcal
            · rename_i f0 args ats hop
              exact hne _ _ _ hop
            · cases hcal
        obtain ⟨σ1, v1, hsub, h0, h1⟩ := h
        cases G with
        | false =>
          simp only [Bool.false_eq_true, if_false]
          obtain ⟨g1, R1⟩ := hsub _ _ _ _ _ _ R
          exact hM _ _ _ g1 (R1.put hd' (fun e => by cases e) (fun _ => rfl)) (h0 rfl) fun _ => .refl w
        | true =>
          obtain ⟨hc, hours, hcall⟩ := h1 rfl
          simp only [if_true]
          refine .inl ?_
          obtain ⟨us, hus, hrun⟩ := callee_run R hcal hc hours
          simp only [Oper.wp, hrun, Oper.upon]
          refine Calls.mono (hcall w0 Al N a w g us R hus) fun e w2 he => ?_
          cases e with
          | returned r =>
            obtain ⟨σ2, g2, v, R2, hv, hK, hk⟩ := he
            exact hM _ _ _ g2 (R2.put hd' (fun _ => hv) (fun e => by cases e)) hK fun hg => hk (hkk (hcg hg))
          | panicked => exact he.elim
          | outgrown => exact he.elim
      · rename_i hcal
        obtain ⟨h0, h1⟩ := h
        cases G with
        | false =>
          simp only [Bool.false_eq_true, if_false]
          exact hM _ _ _ g (R.put hd' (fun e => by cases e) (fun _ => rfl)) (h0 rfl) fun _ => .refl w
        | true =>
          have h := h1 rfl
          simp only [if_true]
          refine .inl ?_
          have hgo : growOp kc o.op = true → Op.grows o.op = true := by
            intro hg
            unfold growOp at hg
            split at hg
            · rename_i f args ats hop
              rw [hop] at h
              simp [eff] at h
            · rw [hpv] at hg
              simpa using hg
          split at h
          · rename_i c σ2 v he
            obtain ⟨hc, h⟩ := h
            obtain ⟨n, w2, g2, hr, hk, R2, x, rfl, hv⟩ := eff_run R he hc
            simp only [Oper.wp, hr, Oper.upon]
            exact hM _ _ _ g2 ((R2.num (σ.nxt + 1)).put hd' (fun _ => hv.same rfl rfl) (fun e => by cases e)) h fun hg => hk (hgo (hgr ▸ hg))
          · rename_i c σ2 he
            obtain ⟨hc, h⟩ := h
            obtain ⟨n, w2, g2, hr, hk, R2, rfl⟩ := eff_run R he hc
            simp only [Oper.wp, hr, Oper.upon]
            exact hM _ _ _ g2 ((R2.num (σ.nxt + 1)).put hd' (fun e => by cases e) (fun _ => rfl)) h fun hg => hk (hgo (hgr ▸ hg))
          · exact h.elim
theorem RunK_sound {l : List Oper} {K : St → Prop} (hsel : Region.noSelect l.toArray = true) (hQ : ∀ c a w, ¬ Q (.panic c) a w) (hK : ∀ σ' a' w' g', Rel w0 Al N σ' a' w' g' → K σ' → Q .normal a' w') :
    ∀ (ord : List Nat) (os : List Oper) (listed : Array Bool) (σ : St) (a : Act) (w : World) (g : Gh), checkK kc l.toArray ord listed = true → os.map some = ord.map (l.toArray[·]?) → RunL P N kc l K os σ → Rel w0 Al N σ a w g →
      wpAnyK kc P l.toArray Q ord.length listed a w
  | [], os, listed, σ, a, w, g, hc, ho, h, R => by
    cases os with
    | cons => simp at ho
    | nil =>
      simp only [checkK, List.isEmpty_iff] at hc
      exact ⟨hc, hK σ a w g R h⟩
  | i :: rest, os, listed, σ, a, w, g, hc, ho, h, R => by
    cases os with
    | nil => simp at ho
    | cons o os =>
      simp only [List.map_cons, List.cons.injEq] at ho
      obtain ⟨ho, hos⟩ := ho
      have ho := ho.symm
      simp only [checkK, Bool.and_eq_true, Bool.or_eq_true] at hc
      obtain ⟨⟨hrd, hone⟩, hrest⟩ := hc
      have hrd : i ∈ Region.ready .any l.toArray listed := by simpa using hrd
      simp only [RunL] at h
      rcases hone with hfr | hone
      · obtain ⟨hpv, hfree⟩ := freeK_spec ho hfr
        have h0 := h
        obtain ⟨hd, h⟩ := h
        have hd' : ∀ t, o.dst = some t → t < N := by
          intro t ht
          rw [ht] at hd
          exact hd
        split at h
        · exact h.elim
        · rename_i G hG
          have hw := guardOf_run R hG
          simp only [hpv] at h
          split at h
          · rename_i c v hp
            obtain ⟨hc, h⟩ := h
            cases G with
            | true =>
              obtain ⟨r, hr, hv⟩ : ∃ r, (∀ w1, (stillOp o.op = true ∨ Kept w w1) → (execOp a.eval o).run P w1 = .ok (.value r) w1) ∧ RepV w g σ v r := by
                cases hst : stillOp o.op with
                | true =>
                  obtain ⟨r, hr, hv⟩ := pv_still R.mem R.slots hp (hc rfl) hst
                  exact ⟨r, fun w1 _ => hr w1, hv⟩
                | false =>
                  obtain ⟨r, hr, hv⟩ := pv_runs R.mem R.slots hp (hc rfl)
                  exact ⟨r, fun w1 h => hr w1 (h.resolve_left (by simp)), hv⟩
              refine wpAnyK_first ho (Region.noSelect_spec hsel) (fun c a w h => (hQ c _ w h).elim) rest.length listed a w hfree hrd (v := r) (Or.inl ⟨hw, hr⟩) ?_
              exact RunK_sound hsel hQ hK rest os _ _ _ w g hrest hos h (R.put hd' (fun _ => hv) (fun e => by cases e))
            | false =>
              refine wpAnyK_first ho (Region.noSelect_spec hsel) (fun c a w h => (hQ c _ w h).elim) rest.length listed a w hfree hrd (v := undef) (Or.inr ⟨hw, rfl⟩) ?_
              exact RunK_sound hsel hQ hK rest os _ _ _ w g hrest hos h (R.put hd' (fun e => by cases e) (fun _ => rfl))
          · exact h.elim
      · have hone : Region.ready .any l.toArray listed = [i] := by simpa using hone
        refine ⟨fun h => (by rw [h] at hone; cases hone), fun j hj => ?_⟩
        rw [hone] at hj
        obtain rfl : j = i := by simpa using hj
        exact Step_wpOp (fun h => h) ho R h fun σ' a' w' g' R' hn hk => ⟨fun hg => hk hg, RunK_sound hsel hQ hK rest os _ _ _ w' g' hrest hos hn R'⟩
theorem W_draw {id : Nat} {l : List Oper} {K : Exit → St → Prop} (ord : List Nat) (os : List Oper) (hm : P.follows .mixedOrders = true) (hl : ord.length = l.length) (hsel : Region.noSelect l.toArray = true) (hc : checkK kc l.toArray ord (Array.replicate l.length false) = true)
    (ho : os.map some = ord.map (l.toArray[·]?)) (h : RunL P N kc l (K .normal) os σ) : W P N (.region id l.toArray true) K σ := by
  intro w0 Al a w g R
  let Q : Exit → Act → World → Prop := fun e a w => e = .normal ∧ Lift w0 Al N K .normal a w
  have key : (Code.region id l.toArray true).wp P Q a w := by
    refine wp_region_any hm (wpAny_of_K (kc := kc) _ _ _ _ ?_)
    have hQ1 : ∀ c a w, ¬ Q (.panic c) a w := by
      intro c a w h
      have := h.1
      cases this
    have hQ2 : ∀ σ' a' w' g', Rel w0 Al N σ' a' w' g' → K .normal σ' → Q .normal a' w' := by
      intro σ' a' w' g' R' hK
      exact ⟨rfl, σ', g', R', hK⟩
    have := RunK_sound (kc := kc) (P := P) (N := N) (Q := Q) (K := K .normal) hsel hQ1 hQ2 ord os (Array.replicate l.length false) σ a { w with drawn := w.drawn + 1 } g hc ho h R.drew
    rw [hl] at this
    simpa using this
  refine wp_mono key fun e a' w' hq => ?_
  obtain ⟨rfl, hq⟩ := hq
  exact hq
theorem map_some_filterMap {α : Type} (l : List α) : ∀ (ord : List Nat), ord.all (· < l.length) = true → (ord.filterMap (l[·]?)).map some = ord.map (l[·]?)
  | [], _ => rfl
  | i :: ord, h => by
    simp only [List.all_cons, Bool.and_eq_true, decide_eq_true_eq] at h
    have e : l[i]? = some l[i] := List.getElem?_eq_getElem h.1
    simp only [List.filterMap_cons, List.map_cons, e]
    rw [map_some_filterMap l ord h.2]
theorem W_drawO (kc : Bool) {id : Nat} {l : List Oper} {K : Exit → St → Prop} (ord : List Nat) (hm : P.follows .mixedOrders = true)
    (hc : (ord.length == l.length && Region.noSelect l.toArray && ord.all (· < l.length) && checkK kc l.toArray ord (Array.replicate l.length false)) = true) (h : RunL P N kc l (K .normal) (ord.filterMap (l[·]?)) σ) : W P N (.region id l.toArray true) K σ := by
  simp only [Bool.and_eq_true, beq_iff_eq] at hc
  obtain ⟨⟨⟨h1, h2⟩, h3⟩, h4⟩ := hc
  exact W_draw ord _ hm h1 h2 h4 (by simpa using map_some_filterMap l ord h3) h
theorem W_drawT (kc : Bool) {id : Nat} {l : List Oper} {K : Exit → St → Prop} (hm : P.follows .mixedOrders = true)
    (hc : (Region.noSelect l.toArray && checkK kc l.toArray (List.range l.length) (Array.replicate l.length false)) = true) (h : RunL P N kc l (K .normal) l σ) : W P N (.region id l.toArray true) K σ := by
  simp only [Bool.and_eq_true] at hc
  refine W_draw (List.range l.length) l hm (by simp) hc.1 hc.2 ?_ h
  apply List.ext_getElem?
  intro i
  simp only [List.getElem?_map, List.getElem?_toArray]
  by_cases hi : i < l.length
  · simp [List.getElem?_range hi, List.getElem?_eq_getElem hi]
  · simp [List.getElem?_eq_none (Nat.le_of_not_lt hi), hi]
end
end Go.Tw

namespace Go.Tw
theorem wrap_ok {n : Int} (h1 : -9223372036854775808 ≤ n) (h2 : n ≤ 9223372036854775807) : IntKind.wrap .i64 n = n := by
  rw [IntKind.wrap_i64]
  omega
theorem wrap_succ {i : Nat} (h : i < 9223372036854775807) : IntKind.wrap .i64 ((i : Int) + 1) = (i : Int) + 1 := wrap_ok (by omega) (by omega)
def St.to (σ : St) (ts : List Nat) (n : Nat) : St := { (σ.only ts) with nxt := n }
theorem Sub.to {σ : St} (ts : List Nat) (n : Nat) (hn : ts.Nodup) : Sub σ (σ.to ts n) := (Sub.only ts hn).trans (Sub.num n)
theorem get_lt {α : Type} {n : Nat} : ∀ {xs : List (Nat × α)}, xs.all (fun x => decide (x.1 < n)) = true → ∀ k, n ≤ k → get xs k = none
  | [], _, _, _ => rfl
  | (i, x) :: xs, h, k, hk => by
    simp only [List.all_cons, Bool.and_eq_true, decide_eq_true_eq] at h
    simp only [get]
    rw [if_neg (by omega)]
    exact get_lt h.2 k hk
theorem call_pc {P : Program} {k : Bool} {f : FuncId} {args res : List A} {vs : List V} {v : V} {K : St → V → Prop} {σ : St} (hpc : PC P f args res) (hden : denVs σ vs args) (hv : oneV (valsN σ.nxt res) = some v)
    (hfr : σ.row.all (fun x => decide (x.1 < σ.nxt)) = true) (hK : K (σ.answer res) v) : CallW P k f vs K σ :=
  CallW_pure hpc hden hv (fun _ _ => get_lt hfr _ (by omega)) hK
@[congr] theorem CallW_congr {P : Program} {k : Bool} {f : FuncId} {vs vs' : List V} {K : St → V → Prop} {σ σ' : St} (h : vs = vs') (hs : σ = σ') : CallW P k f vs K σ = CallW P k f vs' K σ' := by rw [h, hs]
@[congr] theorem CallG_congr {P : Program} {k : Bool} {f : FuncId} {vs vs' : List V} {c c' : Prop} {G G' : Bool} {d : Option Nat} {next : St → Prop} {σ σ' : St} (h : vs = vs') (hc : c = c') (hG : G = G') (hs : σ = σ') :
    CallG P k f vs c G d next σ = CallG P k f vs' c' G' d next σ' := by rw [h, hc, hG, hs]
theorem callG_true {P : Program} {k : Bool} {f : FuncId} {vs : List V} {c : Prop} {d : Option Nat} {next : St → Prop} {σ : St} (hc : c) (h : CallW P k f vs (fun σ' v => next (σ'.set d true v)) σ) : CallG P k f vs c true d next σ :=
  ⟨σ, .l .undef, fun _ _ _ _ _ g R => ⟨g, R⟩, (fun e => by cases e), fun _ => ⟨hc, h⟩⟩
theorem rowsN_flat (pm : Pm) : ∀ (ts : List T) (k : Nat), ts.all (fun t => match t with | .sl .. => false | _ => true) = true → rowsN pm k ts = []
  | [], _, _ => rfl
  | t :: ts, k, h => by
    simp only [List.all_cons, Bool.and_eq_true] at h
    have ih := rowsN_flat pm ts (k + 1) h.2
    cases t <;> simp_all [rowsN]
theorem callG_pc {P : Program} {k : Bool} {f : FuncId} {args res : List A} {vs : List V} {v : V} {c : Prop} {G : Bool} {d : Option Nat} {next : St → Prop} {σ : St} (hpc : G = true → PC P f args res) (hc : G = true → c)
    (hden : G = true → denVs σ vs args) (hv : oneV (valsN σ.nxt res) = some v) (hfr : σ.row.all (fun x => decide (x.1 < σ.nxt)) = true) (hfl : G = true ∨ (flatA res).all (fun t => match t with | .sl .. => false | _ => true) = true)
    (hK : next ((σ.answer res).set d G v)) : CallG P k f vs c G d next σ := by
  cases G with
  | true => exact callG_true (hc rfl) (call_pc (hpc rfl) (hden rfl) hv hfr hK)
  | false =>
    refine ⟨σ.answer res, v, fun w0 Al N a w g R => ⟨g, ?_⟩, fun _ => hK, (fun e => by cases e)⟩
    have hf := hfl.resolve_left (by simp)
    unfold St.answer
    rw [rowsN_flat _ _ _ hf]
    exact R.num _
def Again (J : Nat → St → Prop) (n : Nat) (σ : St) : Prop := ∃ m σ', m < n ∧ Sub σ σ' ∧ J m σ'
theorem W_loopS {P : Program} {N : Nat} {K : Exit → St → Prop} {c : Code} {σ : St} (J : Nat → St → Prop) {n : Nat} {σ0 : St} (hs : Sub σ σ0) (h0 : J n σ0)
    (round : ∀ n σ, J n σ → W P N c (Then (Again J n) K) σ) : W P N (.loop c) K σ :=
  W_loop (fun n σ => ∃ σ', Sub σ σ' ∧ J n σ') n ⟨σ0, hs, h0⟩ fun n σ ⟨σ1, h1, h2⟩ => W_sub h1 (W_mono (round n σ1 h2) fun e σ' h => by
    cases e with
    | normal => obtain ⟨m, σ'', q1, q2, q3⟩ := h; exact ⟨m, q1, σ'', q2, q3⟩
    | _ => exact h)
theorem then_normal (next : St → Prop) (K : Exit → St → Prop) : Then next K .normal = next := rfl
theorem then_exit (next : St → Prop) (K : Exit → St → Prop) (id : Nat) : Then next K (.exit id) = K (.exit id) := rfl
theorem then_ret (next : St → Prop) (K : Exit → St → Prop) : Then next K .ret = K .ret := rfl
theorem inBlock_normal (id : Nat) (K : Exit → St → Prop) : InBlock id K .normal = K .normal := rfl
theorem inBlock_exit (id : Nat) (K : Exit → St → Prop) : InBlock id K (.exit id) = K .normal := by funext σ; simp [InBlock]
theorem inBlock_exit_ne (id id' : Nat) (K : Exit → St → Prop) (h : id' ≠ id) : InBlock id K (.exit id') = K (.exit id') := by funext σ; simp [InBlock, h]
theorem inBlock_ret (id : Nat) (K : Exit → St → Prop) : InBlock id K .ret = K .ret := rfl
theorem killE_nil (kill : L → Bool) : killE kill [] = [] := rfl
theorem killE_cons (kill : L → Bool) (t : Nat) (c : Bool) (v : V) (env : List (Nat × Bool × V)) : killE kill ((t, c, v) :: env) = if v.leaves.any kill = true then killE kill env else (t, c, v) :: killE kill env := by
  unfold killE
  rw [List.filter_cons]
  cases v.leaves.any kill <;> simp
theorem del_nil' {α : Type} (ns : List Nat) : del ns ([] : List (Nat × α)) = [] := rfl
theorem del_cons {α : Type} (ns : List Nat) (k : Nat) (x : α) (xs : List (Nat × α)) : del ns ((k, x) :: xs) = if ns.contains k = true then del ns xs else (k, x) :: del ns xs := by
  unfold del
  rw [List.filter_cons]
  cases ns.contains k <;> simp
def enc {α : Type} (f : α → List T) (xs : List α) : Els := xs.map f
theorem enc_length {α : Type} (f : α → List T) (xs : List α) : (enc f xs).length = xs.length := by simp [enc]
theorem enc_get {α : Type} (f : α → List T) (xs : List α) (i : Nat) : (enc f xs)[i]? = xs[i]?.map f := by simp [enc]
theorem enc_getElem {α : Type} (f : α → List T) (xs : List α) (i : Nat) (h : i < (enc f xs).length) : (enc f xs)[i] = f (xs[i]'(by simpa [enc] using h)) := by simp [enc]
theorem enc_append {α : Type} (f : α → List T) (xs ys : List α) : enc f xs ++ enc f ys = enc f (xs ++ ys) := by simp [enc]
theorem enc_set {α : Type} (f : α → List T) (xs : List α) (i : Nat) (y : α) : (enc f xs).set i (f y) = enc f (xs.set i y) := by simp [enc]
theorem enc_snoc {α : Type} (f : α → List T) (xs : List α) (y : α) : enc f xs ++ [f y] = enc f (xs ++ [y]) := by simp [enc]
theorem enc_rep {α : Type} (f : α → List T) (n : Nat) (y : α) : List.replicate n (f y) = enc f (List.replicate n y) := by simp [enc]
theorem enc_take {α : Type} (f : α → List T) (xs : List α) (n : Nat) : (enc f xs).take n = enc f (xs.take n) := by simp [enc]
theorem enc_drop {α : Type} (f : α → List T) (xs : List α) (n : Nat) : (enc f xs).drop n = enc f (xs.drop n) := by simp [enc]
theorem enc_nil {α : Type} (f : α → List T) : enc f [] = [] := rfl
theorem enc_eq_nil {α : Type} (f : α → List T) (xs : List α) : enc f xs = [] ↔ xs = [] := by simp [enc]
def eI (n : Int) : List T := [.int .i64 n]
theorem getD_eI (o : Option Int) : (Option.map eI o).getD [T.int .i64 0] = eI (o.getD 0) := by cases o <;> rfl
theorem rep_eI (n : Nat) : List.replicate n [T.int .i64 0] = enc eI (List.replicate n 0) := enc_rep eI n 0
theorem set_eI (xs : List Int) (i : Nat) (y : Int) : (enc eI xs).set i [T.int .i64 y] = enc eI (xs.set i y) := enc_set eI xs i y
theorem snoc_eI (xs : List Int) (y : Int) : enc eI xs ++ [[T.int .i64 y]] = enc eI (xs ++ [y]) := enc_snoc eI xs y
theorem eI_def (n : Int) : eI n = [.int .i64 n] := rfl
attribute [go_sem] List.take_of_length_le eqLs RunL Step guardOf Op.isPv pv evO constV constL paramsE valsN leavesN leafN flatA rowsN dstOk St.set get killE_nil killE_cons del_nil' del_cons St.start then_normal then_exit then_ret inBlock_normal inBlock_exit inBlock_exit_ne inBlock_ret numV boundV ofLeaves aggU loadV nodeOf T.at? leavesOf leafOf ptrAdd binT notT convT U.ok resV oneV tupV takeLs takeL zOf shapeVs shapeV V.leaves OutN Out calleeOf eff argsV St.swap killB killS killLs Row.store patchT killSt hits thru L.rowOf L.boxOf V.cells T.put T.els denVs denLs denL St.only St.to St.answer fillL patch capsV enc_length enc_get enc_getElem enc_append enc_take enc_drop enc_eq_nil getD_eI rep_eI set_eI snoc_eI eI_def
end Go.Tw

namespace Go.Tw
def MC1 (P : Program) (f : FuncId) (z : Nat) (es es' : Els) (flat res : List T) : Prop :=
  Ours P f ∧ ∀ w v us F, Rep w true v (.sl z es) F → (∀ b, F b → b < w.heap.size) → us.length = flat.length → (∀ (j : Nat) t u, flat[j]? = some t → us[j]? = some u → Rep w false u t fun _ => False) → Calls P f (v :: us).toArray w fun
    | .returned r, w' => w.heap.size ≤ w'.heap.size ∧ (∀ b, b < w.heap.size → ¬ F b → w'.heap[b]? = w.heap[b]?) ∧ w'.os = w.os ∧ w'.tape = w.tape ∧ w'.output = w.output ∧
        (∃ F', Rep w' true v (.sl z es') F' ∧ ∀ b, F' b → (F b ∨ w.heap.size ≤ b) ∧ b < w'.heap.size) ∧
        ∃ rs, r = oneU rs ∧ rs.length = res.length ∧ ∀ (j : Nat) t u, res[j]? = some t → rs[j]? = some u → Rep w' false u t fun _ => False
    | _, _ => False
def flatV (ts : List T) : List V := ts.map fun t => .l (.t t)
def St.mutated (σ : St) (r : Nat) (p : Path) (z : Nat) (row : Row) (es' : Els) : St := σ.swap (killSt [] r p) [r] r { row with es := (row.t.put p (.sl z es')).els }
section
variable {P : Program} {w0 w w' : World} {Al : Blks} {N : Nat} {g : Gh} {σ σ' : St} {a : Act}
theorem flatV_rep : ∀ {ts : List T} {us : List Value}, us.length = ts.length → (∀ (j : Nat) t u, ts[j]? = some t → us[j]? = some u → Rep w false u t fun _ => False) → RepVs w g σ (flatV ts) us
  | [], [], _, _ => trivial
  | t :: ts, u :: us, hl, h => ⟨h 0 t u rfl rfl, flatV_rep (by simpa using hl) fun j t' u' h1 h2 => h (j + 1) t' u' (by simpa using h1) (by simpa using h2)⟩
  | [], _ :: _, hl, _ => by simp at hl
  | _ :: _, [], hl, _ => by simp at hl
theorem flatV_of : ∀ {ts : List T} {us : List Value}, RepVs w g σ (flatV ts) us → us.length = ts.length ∧ ∀ (j : Nat) t u, ts[j]? = some t → us[j]? = some u → Rep w false u t fun _ => False
  | [], [], _ => ⟨rfl, by simp⟩
  | t :: ts, u :: us, h => by
    obtain ⟨h1, h2⟩ := flatV_of (ts := ts) h.2
    refine ⟨by simp [h1], fun j t' u' ht hu => ?_⟩
    cases j with
    | zero => simp at ht hu; subst ht hu; exact h.1
    | succ j => exact h2 j t' u' (by simpa using ht) (by simpa using hu)
  | [], _ :: _, h => h.elim
  | _ :: _, [], h => h.elim
theorem CallW_mut {f : FuncId} {r : Nat} {p : Path} {z len : Nat} {row : Row} {es es' : Els} {flat res : List T} {v : V} {K : St → V → Prop} (hmc : MC1 P f z es es' flat res) (hrow : get σ.row r = some row) (hpm : row.pm = .own)
    (hn : row.t.at? p = some (.sl z es)) (hlen : len = es.length) (hv : oneV (flatV res) = some v) (hK : K (σ.mutated r p z row es') v) : CallW P false f (.l (.ref r p z 0 len) :: flatV flat) K σ := by
  refine ⟨hmc.1, fun w0 Al N a w g us R hus => ?_⟩
  have mem := R.mem
  match us, hus with
  | v0 :: us, hus =>
    obtain ⟨hv0, hus⟩ := hus
    obtain ⟨row1, es1, u, e1, e2, e3, e4, e5⟩ := hv0
    rw [hrow] at e1
    cases e1
    rw [hn] at e2
    cases e2
    obtain ⟨hul, huf⟩ := flatV_of hus
    obtain ⟨u', G, hu, hru, hGF, hcont⟩ := (mem.own r row hrow hpm).focus hn
    rw [e3] at hu
    cases hu
    have hG : ∀ b, G b → b < w.heap.size := fun b hb => mem.lt b (Or.inr ⟨r, row, hrow, by simp [hpm], hGF b hb⟩)
    have hr0 : Rep w true v0 (.sl z es) G := by
      have := hru.view e5 (by omega)
      rwa [hlen, List.drop_zero, List.take_length] at this
    refine Calls.mono (hmc.2 w v0 us G hr0 hG hul huf) fun e w' he => ?_
    cases e with
    | panicked => exact he
    | outgrown => exact he
    | returned q =>
      obtain ⟨s1, s2, s3, s4, s5, ⟨F', hF', hF2⟩, rs, rfl, hrl, hrs⟩ := he
      have hru' : Rep w' true u (.sl z es') F' := by
        obtain ⟨oa, n, cap, oa', rfl, hv, hoa⟩ := e5
        obtain ⟨hcap, hnl⟩ := hru.cap_ge
        rcases hoa with hoa | hoa
        · subst hoa
          have hes : es.length = 0 := by omega
          have hes' : es' = [] := by
            rw [hv, hlen, hes] at hF'
            have := hF'.cap_ge.2
            exact List.length_eq_zero_iff.1 this.symm
          subst hes'
          have hn0 : n = 0 := by omega
          subst hn0
          cases oa with
          | none => exact .nils
          | some ad => exact .bare
        · have : oa' = oa := by rw [hoa]; cases oa <;> simp [Addr.add]
          subst this
          rw [hv, hlen, ← hnl] at hF'
          simpa using hF'
      obtain ⟨c1, c2, c3⟩ := hcont w' (.sl z es') F' (fun b hb hnG => s2 b (mem.lt b (Or.inr ⟨r, row, hrow, by simp [hpm], hb⟩)) hnG) hru' (fun b hb => (hF2 b hb).1.imp id fun h hf => by
        have := mem.lt b (Or.inr ⟨r, row, hrow, by simp [hpm], hf⟩)
        omega)
      have hput := T.put_sl (n := es') hn
      have hin := swap_in (w' := w') mem (kill := killSt [] r p) (rs := [r]) (k := r) (row := { row with es := (row.t.put p (.sl z es')).els }) (hv := g.rw r) (F := fun b => (g.fp r b ∧ ¬ G b) ∨ F' b) (N := fun _ => False) (Or.inl (by simp))
        (by simp [hpm]) (fun _ => ?_) (fun h => by simp [hpm] at h) (fun b h => h.elim) (fun b hb => ?_) (fun b hb hp => s2 b hb fun hg => hp ⟨r, row, by simp, hrow, by simp [hpm], hGF b hg⟩) s1 (fun l hl r' q hq hs hm => ?_)
      · have R' := R.turn hin ⟨rfl, rfl⟩ s3 s4 s5
        exact ⟨_, _, v, R', oneV_unit hv (flatV_rep hrl hrs), hK, fun e => by cases e⟩
      · show Rep _ true (g.rw r) (.sl row.z _) _
        rw [← hput]
        exact c1
      · rcases hb with ⟨hb, _⟩ | hb
        · exact ⟨Or.inl ⟨r, row, by simp, hrow, by simp [hpm], hb⟩, Nat.lt_of_lt_of_le (mem.lt b (Or.inr ⟨r, row, hrow, by simp [hpm], hb⟩)) s1⟩
        · obtain ⟨h1, h2⟩ := hF2 b hb
          exact ⟨h1.imp (fun h => ⟨r, row, by simp, hrow, by simp [hpm], hGF b h⟩) id, h2⟩
      · unfold killSt hits at hl
        rw [hq] at hl
        simp only [Bool.or_eq_false_iff, Bool.and_eq_false_iff] at hl
        obtain rfl : r' = r := by simpa using hm
        have hth : thru p q = false := by
          rcases hl.2 with h | h
          · simp at h
          · exact h
        intro row2 hrow2
        rw [hrow] at hrow2
        cases hrow2
        refine ⟨{ row with es := (row.t.put p (.sl z es')).els }, by simp [St.swap, get], by simp [Gh.row, upd_self], fun z2 es2 u2 h1 h2 => ?_⟩
        obtain ⟨eq', d1, d2, d3⟩ := c3 q hth ⟨z, es, _, rfl, rfl⟩ z2 es2 h1
        refine ⟨eq', ?_, d2, ?_⟩
        · show (T.sl row.z _).at? q = _
          rw [← hput]
          exact d1
        · show valAt _ _ (T.sl row.z _) q = _
          simp only [Gh.row, upd_self]
          rw [← hput, d3]
          exact h2
  | [], hus => exact hus.elim
def St.startM (a0 : Act) (z : Nat) (es : Els) (flat : List T) : St :=
  { env := (0, true, .l (.ref 0 [] z 0 es.length)) :: paramsE 1 (flatV flat), box := [], row := [(0, ⟨.own, z, es⟩)], nxt := 1, sav := [([(0, true, .l (.ref 0 [] z 0 es.length))], a0)] }
def OutM (P : Program) (rs : List ResultVar) (a0 : Act) (z : Nat) (es' : Els) (res : List T) : Exit → St → Prop
  | .normal, σ | .ret, σ => match resV P σ rs with
    | some (c, vs) => c ∧ vs = flatV res ∧ ∃ env', σ.sav = [(env', a0)] ∧ match get env' 0 with
      | some (true, .l l) => match takeL σ z l with
        | some (c', t, _) => c' ∧ t = .sl z es'
        | none => False
      | _ => False
    | none => False
  | _, _ => False
theorem MC1_of {f : FuncId} {fn : Func} {c : Code} {z : Nat} {es es' : Els} {flat res : List T} (hf : P.funcs[f]? = some fn) (hb : fn.body = some c) (hn : (fn.name == "runtime.NumGoroutine") = false) {n : Nat} (hnt : fn.ntmps = n) {rs : List ResultVar} (hrs : fn.results.toList = rs) (hl : flat.length + 1 ≤ n)
    (h : ∀ a0, W P n c (OutM P rs a0 z es' res) (St.startM a0 z es flat)) : MC1 P f z es es' flat res := by
  subst hnt hrs
  refine ⟨⟨fn, hf, by simp [hb], hn⟩, fun w v us F hrep hlt hul huf => calls_of_wp hf hb ?_⟩
  let g : Gh := ⟨fun _ => 0, fun _ => v, fun _ => F⟩
  let a0 : Act := { tmps := (v :: us).toArray ++ Array.replicate (fn.ntmps - (v :: us).toArray.size) undef, defers := [] }
  have hrow : ∀ r row, get (St.startM a0 z es flat).row r = some row → r = 0 ∧ row = ⟨.own, z, es⟩ := by
    intro r row hr
    simp only [St.startM, get] at hr
    split at hr
    · rename_i e
      simp only [Option.some.injEq] at hr
      exact ⟨e, hr.symm⟩
    · cases hr
  have hown : ∀ b, Owned g (St.startM a0 z es flat) b → F b := by
    rintro b (⟨k, ls, h1, _⟩ | ⟨r, row, h1, h2, h3⟩)
    · simp [St.startM, get] at h1
    · exact h3
  obtain ⟨oa, cap, hvs⟩ := hrep.head
  have hleaf : RepL w g (St.startM a0 z es flat) (.ref 0 [] z 0 es.length) v := by
    refine ⟨⟨.own, z, es⟩, es, v, by simp [St.startM, get], rfl, by simp [valAt, g], by simp, ?_⟩
    rw [hvs]
    exact View.whole _ _ _ _ _
  have hflat : RepVs w g (St.startM a0 z es flat) (flatV flat) us := flatV_rep hul huf
  have hslot0 : a0.tmps.getD 0 undef = v := by
    simp only [a0]
    rw [Array.getD_eq_getD_getElem?, Array.getElem?_append_left (by simp)]
    simp
  have hlen := hflat.length
  have hfl : (flatV flat).length = flat.length := by simp [flatV]
  have R : Rel w F fn.ntmps (St.startM a0 z es flat) a0 w g := by
    refine ⟨⟨fun t c u hg hc => ?_, fun t c u hg hc => ?_⟩, ?_, ⟨?_, ?_, ?_, ?_, ?_, ?_, ?_, fun b hb => hlt b (hown b hb)⟩, fun b hb => Or.inr (hown b hb), fun _ _ _ => rfl, Nat.le_refl _, rfl, rfl, rfl, rfl, by simp [a0]; omega, fun x hx => ?_⟩
    · simp only [St.startM, get] at hg
      split at hg
      · rename_i e
        subst e
        simp only [Option.some.injEq, Prod.mk.injEq] at hg
        obtain ⟨_, rfl⟩ := hg
        rw [hslot0]
        exact hleaf
      · obtain ⟨_, h2, h3⟩ := get_paramsE _ 1 t c u hg
        obtain ⟨y, hy, hr⟩ := hflat.nth (j := t - 1) h3
        have hlt : t - 1 < us.length := (List.getElem?_eq_some_iff.1 hy).1
        have : a0.tmps.getD t undef = y := by
          simp only [a0]
          rw [Array.getD_eq_getD_getElem?, Array.getElem?_append_left (by simp; omega)]
          have e : t = (t - 1) + 1 := by omega
          rw [e]
          simp [hy]
        rw [this]
        exact hr
    · simp only [St.startM, get] at hg
      split at hg
      · simp only [Option.some.injEq, Prod.mk.injEq] at hg
        rw [hc] at hg
        cases hg.1
      · have := (get_paramsE _ 1 t c u hg).1
        rw [hc] at this
        cases this
    · refine List.pairwise_cons.2 ⟨fun y hy => ?_, paramsE_unq _ 1⟩
      have := get_paramsE_lt _ 1 y.1 y.2 hy
      simp only
      omega
    · intro k ls h; simp [St.startM, get] at h
    · intro r row h _
      obtain ⟨_, rfl⟩ := hrow r row h
      exact hrep
    · intro r row h hp
      obtain ⟨_, rfl⟩ := hrow r row h
      cases hp
    · intro r row h hp
      obtain ⟨_, rfl⟩ := hrow r row h
      cases hp
    · intro k k' ls ls' h; simp [St.startM, get] at h
    · intro k ls r row h; simp [St.startM, get] at h
    · intro r r' row row' b h h' _ _ _ _
      rw [(hrow r row h).1, (hrow r' row' h').1]
    · simp only [St.startM, List.mem_singleton] at hx
      subst hx
      refine ⟨fun t c u hg hc => ?_, fun t c u hg hc => ?_, by simp⟩
      · simp only [get] at hg
        split at hg
        · rename_i e
          subst e
          simp only [Option.some.injEq, Prod.mk.injEq] at hg
          obtain ⟨_, rfl⟩ := hg
          rw [hslot0]
          exact hleaf
        · cases hg
      · simp only [get] at hg
        split at hg
        · simp only [Option.some.injEq, Prod.mk.injEq] at hg
          rw [hc] at hg
          cases hg.1
        · cases hg
  refine wp_mono (h a0 w F _ w g R) fun e a' w' ⟨σ', g', R', hK⟩ => ?_
  have fin : (match resV P σ' fn.results.toList with
    | some (c, vs) => c ∧ vs = flatV res ∧ ∃ env', σ'.sav = [(env', a0)] ∧ match get env' 0 with
      | some (true, .l l) => match takeL σ' z l with
        | some (c', t, _) => c' ∧ t = .sl z es'
        | none => False
      | _ => False
    | none => False) → a'.defers = [] ∧ ∃ r, (results fn a'.tmps).run P w' = .ok r w' ∧ (w.heap.size ≤ w'.heap.size ∧ (∀ b, b < w.heap.size → ¬ F b → w'.heap[b]? = w.heap[b]?) ∧ w'.os = w.os ∧ w'.tape = w.tape ∧ w'.output = w.output ∧
        (∃ F', Rep w' true v (.sl z es') F' ∧ ∀ b, F' b → (F b ∨ w.heap.size ≤ b) ∧ b < w'.heap.size) ∧
        ∃ rs, r = oneU rs ∧ rs.length = res.length ∧ ∀ (j : Nat) t u, res[j]? = some t → rs[j]? = some u → Rep w' false u t fun _ => False) := by
    intro hK
    refine ⟨R'.dfr, ?_⟩
    split at hK
    · rename_i c vs' hres
      obtain ⟨hc, rfl, env', hsav, hK⟩ := hK
      obtain ⟨l, c', rs', hget, htk, hc'⟩ : ∃ l c' rs', get env' 0 = some (true, .l l) ∧ takeL σ' z l = some (c', .sl z es', rs') ∧ c' := by
        split at hK
        · rename_i l hget
          split at hK
          · rename_i c' t rs' htk
            obtain ⟨hc', rfl⟩ := hK
            exact ⟨l, c', rs', hget, htk, hc'⟩
          · exact hK.elim
        · exact hK.elim
      obtain ⟨qs, hr, hqs⟩ := resV_us R'.mem R'.slots hres hc
      obtain ⟨h1, h2⟩ := flatV_of hqs
      obtain ⟨s1, s2, s3⟩ := R'.sav (env', a0) (by rw [hsav]; simp)
      have hlf : RepL w' g' σ' l v := by
        have := s1 0 true (.l l) hget rfl
        rwa [hslot0] at this
      have htk' : takeLs σ' [z] [l] = some (c' ∧ True, [.sl z es'], rs' ++ []) := by simp [takeLs, htk]
      obtain ⟨_, _, G, q1, q2, _⟩ := takeLs_rep R'.mem htk' ⟨hc', trivial⟩ (vs := [v]) ⟨hlf, trivial⟩
      refine ⟨_, hr, R'.siz, fun b hb hF => R'.frm b hb hF, R'.os, R'.tape, R'.out, ⟨G 0, q1 0 _ v rfl rfl, fun b hb => ?_⟩, qs, rfl, h1, h2⟩
      obtain ⟨r, row, _, p1, p2, p3⟩ := q2 0 b hb
      have ho : Owned g' σ' b := Or.inr ⟨r, row, p1, p2, p3⟩
      exact ⟨(R'.own b ho).symm, R'.mem.lt b ho⟩
    · exact hK.elim
  cases e with
  | normal => exact fin hK
  | ret => exact fin hK
  | _ => exact hK.elim
attribute [go_sem] flatV St.startM OutM St.mutated
end
end Go.Tw

namespace Go.Tw
inductive TD where
  | int (k : IntKind)
  | bool
  | str
  | sl (z : Nat) (fs : List TD)
def tdFields (P : Program) (r : TypeId → Option (List TD)) : Nat → List Field → Option (List TD)
  | _, [] => some []
  | off, f :: fs => if f.offset = off then (r f.type).bind fun l => if l.length = P.cellsOf f.type then (tdFields P r (off + l.length) fs).map (l ++ ·) else none else none
def tdOf (P : Program) : Nat → TypeId → Option (List TD)
  | 0, _ => none
  | n + 1, t => match P.underlying t with
    | some (.int k) => some [.int k]
    | some .bool => some [.bool]
    | some .string => some [.str]
    | some (.slice e) => (tdOf P n e).bind fun l => if l.length = P.cellsOf e ∧ 0 < l.length then some [.sl l.length l] else none
    | some (.struct fs) => (tdFields P (tdOf P n) 0 fs.toList).bind fun l => if l.length = P.cellsOf t then some l else none
    | _ => none
inductive Fits : TD → T → Prop where
  | int {k : IntKind} {n : Int} (h1 : k.min ≤ n) (h2 : n ≤ k.max) : Fits (.int k) (.int k n)
  | bool {b : Bool} : Fits .bool (.bool b)
  | str {s : ByteArray} (h : s.size ≤ 9223372036854775807) : Fits .str (.str s)
  | sl {z : Nat} {fs : List TD} {es : Els} (hl : es.length ≤ 9223372036854775807) (hz : ∀ x ∈ es, x.length = fs.length)
      (he : ∀ x ∈ es, ∀ (j : Nat) d t, fs[j]? = some d → x[j]? = some t → Fits d t) : Fits (.sl z fs) (.sl z es)
structure FitsL (ds : List TD) (ts : List T) : Prop where
  len : ts.length = ds.length
  each : ∀ (j : Nat) d t, ds[j]? = some d → ts[j]? = some t → Fits d t
structure Reads (w : World) (ds : List TD) (cs : List Value) (ts : List T) : Prop where
  fits : FitsL ds ts
  len : cs.length = ds.length
  rep : ∀ (j : Nat) t v, ts[j]? = some t → cs[j]? = some v → Rep w false v t fun _ => True
section
variable {H : Type} {enc : TypeId × Value → H} {P : Program} {w : World}
theorem Reads.one {d : TD} {v : Value} {t : T} (hf : Fits d t) (hr : Rep w false v t fun _ => True) : Reads w [d] [v] [t] :=
  ⟨⟨rfl, fun j d' t' h1 h2 => by
    cases j with
    | zero => simp at h1 h2; subst h1 h2; exact hf
    | succ j => simp at h1⟩, rfl, fun j t' v' h1 h2 => by
    cases j with
    | zero => simp at h1 h2; subst h1 h2; exact hr
    | succ j => simp at h1⟩
theorem Reads.nil : Reads w [] [] [] := ⟨⟨rfl, fun _ _ _ h => by simp at h⟩, rfl, fun _ _ _ h => by simp at h⟩
theorem Reads.append {d1 d2 : List TD} {c1 c2 : List Value} {t1 t2 : List T} (h1 : Reads w d1 c1 t1) (h2 : Reads w d2 c2 t2) : Reads w (d1 ++ d2) (c1 ++ c2) (t1 ++ t2) := by
  have l1 := h1.fits.len
  have l2 := h1.len
  refine ⟨⟨by simp [l1, h2.fits.len], fun j d t hd ht => ?_⟩, by simp [l2, h2.len], fun j t v ht hv => ?_⟩
  · by_cases hj : j < d1.length
    · rw [List.getElem?_append_left hj] at hd
      rw [List.getElem?_append_left (by omega)] at ht
      exact h1.fits.each j d t hd ht
    · rw [List.getElem?_append_right (by omega)] at hd
      rw [List.getElem?_append_right (by omega), l1] at ht
      exact h2.fits.each _ d t hd ht
  · by_cases hj : j < t1.length
    · rw [List.getElem?_append_left hj] at ht
      rw [List.getElem?_append_left (by omega)] at hv
      exact h1.rep j t v ht hv
    · rw [List.getElem?_append_right (by omega)] at ht
      rw [List.getElem?_append_right (by omega), show j - c1.length = j - t1.length from by omega] at hv
      exact h2.rep _ t v ht hv
theorem choose_list {α : Type} {Q : Nat → α → Prop} : ∀ (n : Nat), (∀ i, i < n → ∃ x, Q i x) → ∃ xs : List α, xs.length = n ∧ ∀ i x, xs[i]? = some x → Q i x
  | 0, _ => ⟨[], rfl, fun i x h => by simp at h⟩
  | n + 1, h => by
    obtain ⟨xs, hl, hx⟩ := choose_list n fun i hi => h i (by omega)
    obtain ⟨y, hy⟩ := h n (by omega)
    refine ⟨xs ++ [y], by simp [hl], fun i x hi => ?_⟩
    by_cases hlt : i < n
    · rw [List.getElem?_append_left (by omega)] at hi
      exact hx i x hi
    · rw [List.getElem?_append_right (by omega)] at hi
      cases he : i - xs.length with
      | zero =>
        rw [he] at hi
        simp at hi
        subst hi
        obtain rfl : i = n := by omega
        exact hy
      | succ k => rw [he] at hi; simp at hi
theorem cells_len {base : Nat} {a : Addr} {n : Nat} {cs : List Value} (h : w.cells? base a n = some cs) : cs.length = n ∧ ∀ i, i < n → w.cell? (a.add i) = cs[i]? := by
  unfold World.cells? at h
  split at h
  · refine ⟨by simpa using mapM_some_length h, fun i hi => ?_⟩
    exact mapM_some_get h i i (by simp [hi])
  · cases h
theorem spot_of_cell {x : Addr} {v : Value} (h : w.cell? x = some v) : x.spot = none := by
  unfold World.cell? at h
  split at h
  · split at h
    · cases h
    · rename_i hs; simpa using hs
  · cases h
theorem block_of_cell {x : Addr} {v : Value} (h : w.cell? x = some v) : ∃ cs e fr, w.heap[x.block]? = some (.cells cs e fr) ∧ cs[x.off]? = some v := by
  unfold World.cell? at h
  split at h
  · split at h
    · cases h
    · rename_i cs e fr hb _
      exact ⟨cs, e, fr, hb, h⟩
  · cases h
theorem fields_reads {r : TypeId → Option (List TD)} {rd : TypeId → List Value → Option (DataW H × List MemPlace)}
    (ih : ∀ t ds cs x, r t = some ds → rd t cs = some x → ∃ ts, Reads w ds cs ts) :
    ∀ (fs : List Field) (off : Nat) (ds : List TD) (cs : List Value) (xs : List (DataW H × List MemPlace)), tdFields P r off fs = some ds → xs.length = fs.length →
      (∀ (i : Nat) (f : Field), fs[i]? = some f → rd f.type ((cs.drop f.offset).take (P.cellsOf f.type)) = xs[i]?) → off + ds.length ≤ cs.length →
      ∃ ts, Reads w ds ((cs.drop off).take ds.length) ts
  | [], off, ds, cs, xs, h, _, _, _ => by
    simp only [tdFields, Option.some.injEq] at h
    subst h
    exact ⟨[], by simpa using Reads.nil⟩
  | f :: fs, off, ds, cs, xs, h, hl, hx, hc => by
    simp only [tdFields] at h
    split at h
    · rename_i hoff
      simp only [Option.bind_eq_some_iff] at h
      obtain ⟨l, hr, h⟩ := h
      split at h
      · rename_i hlen
        simp only [Option.map_eq_some_iff] at h
        obtain ⟨ds', hd, rfl⟩ := h
        match xs, hl with
        | x :: xs, hl =>
          have h0 := hx 0 f rfl
          simp only [List.getElem?_cons_zero] at h0
          obtain ⟨ts1, R1⟩ := ih f.type l _ x hr h0
          simp only [List.length_append] at hc
          obtain ⟨ts2, R2⟩ := fields_reads ih fs (off + l.length) ds' cs xs hd (by simpa using hl) (fun i g hg => hx (i + 1) g (by simpa using hg)) (by omega)
          refine ⟨ts1 ++ ts2, ?_⟩
          have e : (cs.drop off).take (l ++ ds').length = (cs.drop f.offset).take (P.cellsOf f.type) ++ (cs.drop (off + l.length)).take ds'.length := by
            rw [List.length_append, List.take_add, hoff, hlen, List.drop_drop]
          rw [e]
          exact R1.append R2
        | [], hl => simp at hl
      · cases h
    · cases h
theorem tree_of : ∀ (n : Nat) (t : TypeId) (ds : List TD), tdOf P n t = some ds → ∀ (fuel : Nat) (cs : List Value) (x : DataW H × List MemPlace), DataW.trod enc P w 0 (fun _ => true) true fuel t cs = some x →
    ∃ ts, Reads w ds cs ts
  | 0, _, _, h, _, _, _, _ => by cases h
  | n + 1, t, ds, h, fuel, cs, x, hx => by
    simp only [tdOf] at h
    split at h
    · rename_i k hu
      simp only [Option.some.injEq] at h
      subst h
      obtain ⟨m, rfl, _, hw⟩ := DataW.trod_int hu hx
      simp [Lit.wf] at hw
      exact ⟨[.int k m], Reads.one (.int hw.1 hw.2) .int⟩
    · rename_i hu
      simp only [Option.some.injEq] at h
      subst h
      obtain ⟨b, rfl, _⟩ := DataW.trod_bool hu hx
      exact ⟨[.bool b], Reads.one .bool .bool⟩
    · rename_i hu
      simp only [Option.some.injEq] at h
      subst h
      obtain ⟨s, rfl, _, hs⟩ := DataW.trod_string hu hx
      exact ⟨[.str s], Reads.one (.str (by simpa [maxLen] using hs)) .str⟩
    · rename_i e hu
      simp only [Option.bind_eq_some_iff] at h
      obtain ⟨l, he, h⟩ := h
      split at h
      · rename_i hz
        obtain ⟨hz, hpos⟩ := hz
        simp only [Option.some.injEq] at h
        subst h
        rcases DataW.trod_slice hu hx with ⟨rfl, _⟩ | ⟨a, len, cap, elems, rest, m, rfl, rfl, _, _, hlc, hcap, hel, hes, hrest, _⟩
        · exact ⟨[.sl l.length []], Reads.one (.sl (by simp) (by simp) (by simp)) .nils⟩
        · obtain ⟨hrl, hrs⟩ := hrest rfl
          have hcap' : cap ≤ 9223372036854775807 := by simpa [maxLen] using hcap
          have one : ∀ i, i < len → ∃ ts, ∃ cs, w.cells? 0 (a.add (i * P.cellsOf e)) (P.cellsOf e) = some cs ∧ Reads w l cs ts := by
            intro i hi
            have h1 := hes i hi
            rw [List.getElem?_eq_getElem (by omega)] at h1
            simp only [Option.bind_eq_some_iff] at h1
            obtain ⟨cs, h2, h3⟩ := h1
            obtain ⟨ts, R⟩ := tree_of n e l he _ _ _ h3
            exact ⟨ts, cs, h2, R⟩
          obtain ⟨es, hle, hall⟩ := choose_list len one
          have hfit : Fits (.sl l.length l) (.sl l.length es) := by
            refine .sl (by omega) (fun x hx => ?_) fun x hx => ?_
            · obtain ⟨i, hi⟩ := List.mem_iff_getElem?.1 hx
              obtain ⟨cs, _, R⟩ := hall i x hi
              exact R.fits.len
            · obtain ⟨i, hi⟩ := List.mem_iff_getElem?.1 hx
              obtain ⟨cs, _, R⟩ := hall i x hi
              exact R.fits.each
          refine ⟨[.sl l.length es], Reads.one hfit ?_⟩
          by_cases h0 : cap = 0
          · subst h0
            obtain rfl : len = 0 := by omega
            obtain rfl : es = [] := List.length_eq_zero_iff.1 hle
            exact .bare
          · have any : ∀ i, i < cap → ∃ cs, w.cells? 0 (a.add (i * P.cellsOf e)) (P.cellsOf e) = some cs := by
              intro i hi
              by_cases hil : i < len
              · obtain ⟨_, cs, h2, _⟩ := one i hil
                exact ⟨cs, h2⟩
              · have h1 := hrs (i - len) (by omega)
                rw [List.getElem?_eq_getElem (by omega), show len + (i - len) = i from by omega] at h1
                simp only [Option.bind_eq_some_iff] at h1
                obtain ⟨cs, h2, _⟩ := h1
                exact ⟨cs, h2⟩
            have hspot : a.spot = none := by
              obtain ⟨cs, h2⟩ := any 0 (by omega)
              obtain ⟨h3, h4⟩ := cells_len h2
              have h5 := h4 0 (by omega)
              rw [List.getElem?_eq_getElem (by omega)] at h5
              have := spot_of_cell h5
              rw [show (a.add (0 * P.cellsOf e)).add 0 = a from by simp [Addr.add]] at this
              exact this
            have plain : ∀ i, i < cap → ∀ j, j < l.length → ∃ v, w.cell? ⟨a.block, a.off + i * l.length + j, none⟩ = some v := by
              intro i hi j hj
              obtain ⟨cs, h2⟩ := any i hi
              obtain ⟨h3, h4⟩ := cells_len h2
              have h5 := h4 j (by omega)
              rw [List.getElem?_eq_getElem (by omega), Addr.add_plain hspot, Addr.add_plain rfl, ← hz] at h5
              exact ⟨_, h5⟩
            obtain ⟨v0, hv0⟩ := plain 0 (by omega) 0 hpos
            obtain ⟨bs, be, bf, hb, _⟩ := block_of_cell hv0
            have hb : w.heap[a.block]? = some (.cells bs be bf) := hb
            have hroom : a.off + cap * l.length ≤ bs.size := by
              obtain ⟨v1, hv1⟩ := plain (cap - 1) (by omega) (l.length - 1) (by omega)
              obtain ⟨bs', be', bf', hb', hv1⟩ := block_of_cell hv1
              rw [show (Addr.mk a.block (a.off + (cap - 1) * l.length + (l.length - 1)) none).block = a.block from rfl, hb] at hb'
              cases hb'
              have h6 := (Array.getElem?_eq_some_iff.1 hv1).1
              have h7 : (cap - 1) * l.length + l.length = cap * l.length := by
                rw [← Nat.succ_mul]
                congr 1
                omega
              simp only at h6
              omega
            have key := Rep.sl (w := w) (o := false) (a := a) (cap := cap) (z := l.length) (es := es) (F := fun _ => True) (cs := bs) (fun _ _ _ => True)
              ⟨⟨be, bf, hb, fun h => by cases h⟩, hspot, by omega, hroom, by cases hfit with | sl _ h _ => exact h⟩ trivial (fun _ _ _ _ => trivial) (fun h => by cases h) (fun h => by cases h) (fun i j y c hy hc => ?_)
            · rw [hle] at key
              exact key
            · obtain ⟨cs, h2, R⟩ := hall i y hy
              obtain ⟨h3, h4⟩ := cells_len h2
              have hi : i < len := by have := (List.getElem?_eq_some_iff.1 hy).1; omega
              have hj : j < l.length := by have := (List.getElem?_eq_some_iff.1 hc).1; rw [R.fits.len] at this; exact this
              have h5 := h4 j (by omega)
              have hcj : cs[j]? = some (cs[j]'(by omega)) := List.getElem?_eq_getElem _
              rw [hcj, Addr.add_plain hspot, Addr.add_plain rfl, ← hz] at h5
              have h6 := R.rep j c _ hc hcj
              obtain ⟨bs', be', bf', hb', h7⟩ := block_of_cell h5
              rw [show (Addr.mk a.block (a.off + i * l.length + j) none).block = a.block from rfl, hb] at hb'
              cases hb'
              simp only at h7
              rw [Array.getD_eq_getD_getElem?, h7]
              exact h6
      · cases h
    · rename_i fs hu
      obtain ⟨xs, m, rfl, rfl, hl, hxl, hf⟩ := DataW.trod_struct hu hx
      simp only [Option.bind_eq_some_iff] at h
      obtain ⟨l, h, hq⟩ := h
      split at hq
      · rename_i hll
        simp only [Option.some.injEq] at hq
        subst hq
        obtain ⟨ts, R⟩ := fields_reads (P := P) (w := w) (rd := fun t cs => DataW.trod enc P w 0 (fun _ => true) true m t cs) (fun t ds cs x h1 h2 => tree_of n t ds h1 m cs x h2) fs.toList 0 l cs xs h (by simpa using hxl)
          (fun i f hi => hf i f (by simpa using hi)) (by omega)
        rw [List.drop_zero, List.take_of_length_le (by omega)] at R
        exact ⟨ts, R⟩
      · cases hq
    · cases h
end
end Go.Tw

