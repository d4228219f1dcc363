/- The machine leaves what eff says: stores, all together. -/
import Derived.Test.YthajhlpbinjpgaaTw23
set_option linter.unusedSimpArgs false
set_option linter.unusedVariables false
namespace Go.Tw

section
variable {P : Program} {w0 w w' : World} {Al : Blks} {N : Nat} {g : Gh} {σ : St} {a : Act}

theorem eff_store (R : Rel w0 Al N σ a w g) {nm : Nat} {t : TypeId} {ad x : Operand} {c : Prop} {σ' : St} {rv : Option V} (h : eff P σ nm (.store t ad x) = some (c, σ', rv)) (hc : c) :
    Leaves w false w0 Al N σ' a rv (((do Instr.storeAt t (a.eval ad) (a.eval x); pure .skip) : Sem Next).run P w) := by
  simp only [eff] at h
  split at h
  · rename_i c1 k j c2 v had hx
    split at h
    · rename_i ls xs hb hv
      simp only [Option.some.injEq, Prod.mk.injEq] at h
      obtain ⟨rfl, rfl, rfl⟩ := h
      obtain ⟨h1, h2, h3, h4, h5⟩ := hc
      obtain ⟨w', d1, d2⟩ := store_box (P := P) R (t := t) (known_info h4) hb (evO_rep R.slots had h1) (RepV.cells (evO_rep R.slots hx h2) hv) h3 h5
      exact ⟨.skip, w', g, by simp only [Sem.run_bind, d1, Result.andThen_ok, Sem.run_pure], fun e => (by cases e), d2, rfl⟩
    · cases h
  · rename_i c1 r p i j d c2 v had hx
    split at h
    · rename_i row xs hrow hv
      split at h
      · rename_i z es hn
        have hx0 : c1 = true → es[i]? = some (es.getD i (tyOf P d).dz) := fun h1 => by
          obtain ⟨row', z', es', a', n, cap, e1, e2, _, e4, _⟩ := evO_rep R.slots had h1
          rw [hrow] at e1
          cases e1
          rw [hn] at e2
          cases e2
          rw [List.getD_eq_getElem?_getD, List.getElem?_eq_getElem e4]
          rfl
        split at h
        · rename_i hpm
          split at h
          · rename_i c3 ts rs hts
            simp only [Option.some.injEq, Prod.mk.injEq] at h
            obtain ⟨rfl, rfl, rfl⟩ := h
            obtain ⟨h1, h2, h3, h4, h5, h6, h7⟩ := hc
            obtain ⟨w', g', d1, d2⟩ := store_own (P := P) (d := d) R (t := t) (known_info h5) hrow hpm hn (hx0 h1) (evO_rep R.slots had h1) hts h3 (RepV.cells (evO_rep R.slots hx h2) hv) h4 h6 h7
            exact ⟨.skip, w', g', by simp only [Sem.run_bind, d1, Result.andThen_ok, Sem.run_pure], fun e => (by cases e), d2, rfl⟩
          · cases h
        · rename_i hpm
          split at h
          · rename_i c3 ts rs hts
            simp only [Option.some.injEq, Prod.mk.injEq] at h
            obtain ⟨rfl, rfl, rfl⟩ := h
            obtain ⟨h1, h2, h3, h4, h5, h6, h7⟩ := hc
            simp only [T.at?, Option.some.injEq, T.sl.injEq] at hn
            obtain ⟨rfl, rfl⟩ := hn
            have hv' := RepV.cells (evO_rep R.slots hx h2) hv
            obtain ⟨tl, hrep⟩ := shareLs_rep R.mem hts h3 hv'
            have R2 := rel_freeze R rs
            have hst := fun l => (freeze_in R.mem rs).stays R.mem (l := l) rfl
            have hrow2 : get (σ.freeze rs).row r = some row := by simp [St.freeze, get_append, get_frz, get_del, h7, hrow]
            obtain ⟨w', g', d1, d2⟩ := store_top (P := P) (d := d) R2 (t := t) (known_info h5) hrow2 hpm (hx0 h1) ((evO_rep R.slots had h1).stays fun l _ => hst l) tl (fun k t y q1 q2 => (hrep k t y q1 q2).mono fun b hb => RowsFp.ro R.mem hb)
              (hv'.stays fun l _ => hst l) h4 h6
            exact ⟨.skip, w', g', by simp only [Sem.run_bind, d1, Result.andThen_ok, Sem.run_pure], fun e => (by cases e), d2, rfl⟩
          · cases h
        · cases h
      · cases h
    · cases h
  · cases h

theorem eff_run (R : Rel w0 Al N σ a w g) {nm : Nat} {o : Oper} {c : Prop} {σ' : St} {rv : Option V} (h : eff P σ nm o.op = some (c, σ', rv)) (hc : c) : Leaves w (Op.grows o.op) w0 Al N σ' a rv ((execOp a.eval o).run P w) := by
  obtain ⟨dst, op, type, pos, after, guard⟩ := o
  simp only at h
  cases op with
  | alloc t =>
    simp only [eff, Option.some.injEq, Prod.mk.injEq] at h
    obtain ⟨rfl, rfl, rfl⟩ := h
    exact eff_alloc R hc.1 hc.2
  | box t x =>
    simp only [eff] at h
    split at h
    · rename_i c1 v hx
      split at h
      · rename_i ls hv
        simp only [Option.some.injEq, Prod.mk.injEq] at h
        obtain ⟨rfl, rfl, rfl⟩ := h
        exact eff_box R hx hc.1 hv hc.2
      · cases h
    · cases h
  | buildSlice t n parts =>
    simp only [eff] at h
    split at h
    · rename_i e hu
      split at h
      · rename_i c1 hp
        simp only [Option.some.injEq, Prod.mk.injEq] at h
        obtain ⟨rfl, rfl, rfl⟩ := h
        obtain ⟨rfl, hk⟩ := hc
        exact eff_lit_nil R hu hk hp
      · rename_i c1 lss hne hp
        split at h
        · rename_i c2 es rs ht
          simp only [Option.some.injEq, Prod.mk.injEq] at h
          obtain ⟨rfl, rfl, rfl⟩ := h
          obtain ⟨h1, h2, h3, h4, _, h5, h6, h7⟩ := hc
          exact eff_lit_own R hu h5 hp h1 ht h2 h3 h4 h6 h7
        · split at h
          · rename_i c2 es rs ht
            simp only [Option.some.injEq, Prod.mk.injEq] at h
            obtain ⟨rfl, rfl, rfl⟩ := h
            obtain ⟨h1, h2, h3, h4, _, h5, h6, h7⟩ := hc
            exact eff_lit_top R hu h5 hp h1 ht h2 h3 h4 h6 h7
          · cases h
      · cases h
    · cases h
  | makeSlice t l c0 =>
    simp only [eff] at h
    split at h
    · rename_i e c1 k1 n c2 k2 n' hu hl hcc
      split at h
      · rename_i q ts ht
        simp only [Option.some.injEq, Prod.mk.injEq] at h
        obtain ⟨rfl, rfl, rfl⟩ := h
        obtain ⟨hq, h1, h2, h3, h4, h5, h6, _, h7⟩ := hc
        exact eff_make R hu hl hcc ht hq h1 h2 h3 h4 h5 h6 h7
      · cases h
    · cases h
  | store t ad x => exact eff_store R h hc
  | call c0 =>
    obtain ⟨callee, args, argTypes⟩ := c0
    cases callee with
    | builtin b =>
      cases b with
      | append => exact eff_append R rfl h hc
      | _ => simp [eff] at h
    | _ => simp [eff] at h
  | _ => simp [eff] at h

end

end Go.Tw
