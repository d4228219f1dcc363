/- The machine answers as pv says. -/
import Derived.Test.YthajhlpbinjpgaaTw7
set_option linter.unusedSimpArgs false
set_option linter.unusedVariables false
namespace Go.Tw

section
variable {P : Program} {w : World} {g : Gh} {σ : St} {a : Act}

theorem Rep.cap_ge {o : Bool} {oa : Option Addr} {n cap z : Nat} {es : Els} {F : Blks} (h : Rep w o (.slice oa n cap) (.sl z es) F) : es.length ≤ cap ∧ n = es.length := by
  cases h with
  | nils => simp
  | bare => simp
  | sl f hl => exact ⟨hl.len, rfl⟩

theorem slice_run (m : Mem w g σ) (hs : Slots w g σ a) {t e : TypeId} {x : Operand} {lo hi : Option Operand} {r : Nat} {p : Path} {z off len : Nat} {c : Bool} {l h : Int} {c1 c2 : Prop} {es : Els} {z' : Nat}
    (hx : evO σ x = some (c, .l (.ref r p z off len))) (hu : (tyOf P t).u = .sl e) (hl : boundV σ lo 0 = some (c1, l)) (hh : boundV σ hi len = some (c2, h)) (hn : nodeOf σ r p = some (z', es))
    (hc : c = true) (h1 : c1) (h2 : c2) (h0 : 0 ≤ l ∧ l ≤ h ∧ h ≤ (es.length : Int) - off) (hz : (tyOf P e).sz = z) (hk : (tyOf P e).known = true) :
    ∃ v, (∀ w1, (Instr.sliceAt t (a.eval x) (lo.map a.eval) (hi.map a.eval) none).run P w1 = .ok v w1) ∧ RepV w g σ (.l (.ref r p z (off + l.toNat) (h.toNat - l.toNat))) v := by
  obtain ⟨row, es', u, e1, e2, e3, e4, e5⟩ := evO_rep hs hx hc
  have hn' : nodeOf σ r p = some (z, es') := by simp [nodeOf, e1, e2]
  rw [hn] at hn'
  simp only [Option.some.injEq, Prod.mk.injEq] at hn'
  obtain ⟨rfl, rfl⟩ := hn'
  obtain ⟨u', hu', hru⟩ := m.at e1 e2
  rw [e3] at hu'
  cases hu'
  obtain ⟨oa, n, cap, oa', rfl, hv, hoa⟩ := id e5
  obtain ⟨hcap, _⟩ := hru.cap_ge
  obtain ⟨oa2, cap2, hv2, hview, hle⟩ := e5.sub (l := l.toNat) (k := h.toNat - l.toNat) (by simp only; omega)
  have hb := fun w1 => bounds_run (P := P) (w := w) (w1 := w1) hs hl hh h1 h2 (isS := true) (len := len) (cap := cap2) rfl h0.1 h0.2.1 (by
    rw [hv] at hv2
    injection hv2 with _ _ h3
    omega)
  refine ⟨_, fun w1 => ?_, row, es, .slice oa n cap, e1, e2, e3, by omega, hview⟩
  rw [hv2]
  simp only [Instr.sliceAt, Sem.run_bind, run_underlying (u_sl hu), Result.andThen_ok, Instr.slice, hb, run_sizeOf' hk, Sem.run_pure, hz]

theorem index_run (m : Mem w g σ) (hs : Slots w g σ a) {t e : TypeId} {x ix : Operand} {r : Nat} {p : Path} {z off len : Nat} {c c' : Bool} {k : IntKind} {i : Int}
    (hx : evO σ x = some (c, .l (.ref r p z off len))) (hix : evO σ ix = some (c', .l (.t (.int k i)))) (hu : (tyOf P t).u = .sl e)
    (hc : c = true) (hc' : c' = true) (hi : 0 ≤ i ∧ i < (len : Int)) (hz : (tyOf P e).sz = z) (hk : (tyOf P e).known = true) (d : Nat) :
    ∃ v, (∀ w1, (Instr.indexAt t (a.eval x) (a.eval ix)).run P w1 = .ok v w1) ∧ RepV w g σ (.l (.ept r p (off + i.toNat) 0 d)) v := by
  obtain ⟨row, es, u, e1, e2, e3, e4, e5⟩ := evO_rep hs hx hc
  obtain ⟨u', hu', hru⟩ := m.at e1 e2
  rw [e3] at hu'
  cases hu'
  obtain ⟨oa, n, cap, oa', rfl, hv, hoa⟩ := e5
  obtain ⟨hcap, _⟩ := hru.cap_ge
  obtain ⟨x0, hx0⟩ : ∃ x0, es[off + i.toNat]? = some x0 := ⟨_, List.getElem?_eq_getElem (by omega)⟩
  obtain ⟨ad, rfl, _, hsp, _, _⟩ := hru.elem hx0
  rcases hoa with hoa | hoa
  · omega
  · have hi' : a.eval ix = .int k i := rep_int (g := g) (σ := σ) (evO_rep hs hix hc')
    refine ⟨.pointer (some ((ad.add (off * z)).add (i.toNat * z))), fun w1 => ?_, row, z, es, ad, n, cap, e1, e2, e3, by omega, hsp, ?_⟩
    · rw [hv, hoa, hi']
      simp only [Instr.indexAt, asIntOf, Sem.run_bind, Sem.run_pure, Result.andThen_ok, run_underlying (u_sl hu), Option.map_some, hi, and_self, if_true, run_sizeOf' hk, hz]
    · rw [Addr.add_plain hsp, Addr.add_plain rfl]
      simp [Nat.add_mul, Nat.add_assoc]

end

end Go.Tw
