/- Contracts of functions that write into one slice of their caller's own. -/
import Derived.Test.YthajhlpbinjpgaaTw34
set_option linter.unusedSimpArgs false
set_option linter.unusedVariables false
namespace Go.Tw

/-- The first argument, a slice of the caller's own, is written; the others are flat, and so is what it answers. -/
def MC1 (P : Program) (f : FuncId) (z : Nat) (es es' : Els) (flat res : List T) : Prop :=
  Ours P f ∧ ∀ w v us F, Rep w true v (.sl z es) F → (∀ b, F b → b < w.heap.size) → us.length = flat.length → (∀ (j : Nat) t u, flat[j]? = some t → us[j]? = some u → Rep w false u t fun _ => False) → Calls P f (v :: us).toArray w fun
    | .returned r, w' => w.heap.size ≤ w'.heap.size ∧ (∀ b, b < w.heap.size → ¬ F b → w'.heap[b]? = w.heap[b]?) ∧ w'.os = w.os ∧ w'.tape = w.tape ∧ w'.output = w.output ∧
        (∃ F', Rep w' true v (.sl z es') F' ∧ ∀ b, F' b → (F b ∨ w.heap.size ≤ b) ∧ b < w'.heap.size) ∧
        ∃ rs, r = oneU rs ∧ rs.length = res.length ∧ ∀ (j : Nat) t u, res[j]? = some t → rs[j]? = some u → Rep w' false u t fun _ => False
    | _, _ => False

def flatV (ts : List T) : List V := ts.map fun t => .l (.t t)

/-- The state behind it. -/
def St.mutated (σ : St) (r : Nat) (p : Path) (z : Nat) (row : Row) (es' : Els) : St := σ.swap (killSt [] r p) [r] r { row with es := (row.t.put p (.sl z es')).els }

section
variable {P : Program} {w0 w w' : World} {Al : Blks} {N : Nat} {g : Gh} {σ σ' : St} {a : Act}

theorem flatV_rep : ∀ {ts : List T} {us : List Value}, us.length = ts.length → (∀ (j : Nat) t u, ts[j]? = some t → us[j]? = some u → Rep w false u t fun _ => False) → RepVs w g σ (flatV ts) us
  | [], [], _, _ => trivial
  | t :: ts, u :: us, hl, h => ⟨h 0 t u rfl rfl, flatV_rep (by simpa using hl) fun j t' u' h1 h2 => h (j + 1) t' u' (by simpa using h1) (by simpa using h2)⟩
  | [], _ :: _, hl, _ => by simp at hl
  | _ :: _, [], hl, _ => by simp at hl

theorem flatV_of : ∀ {ts : List T} {us : List Value}, RepVs w g σ (flatV ts) us → us.length = ts.length ∧ ∀ (j : Nat) t u, ts[j]? = some t → us[j]? = some u → Rep w false u t fun _ => False
  | [], [], _ => ⟨rfl, by simp⟩
  | t :: ts, u :: us, h => by
    obtain ⟨h1, h2⟩ := flatV_of (ts := ts) h.2
    refine ⟨by simp [h1], fun j t' u' ht hu => ?_⟩
    cases j with
    | zero => simp at ht hu; subst ht hu; exact h.1
    | succ j => exact h2 j t' u' (by simpa using ht) (by simpa using hu)
  | [], _ :: _, h => h.elim
  | _ :: _, [], h => h.elim

theorem CallW_mut {f : FuncId} {r : Nat} {p : Path} {z len : Nat} {row : Row} {es es' : Els} {flat res : List T} {v : V} {K : St → V → Prop} (hmc : MC1 P f z es es' flat res) (hrow : get σ.row r = some row) (hpm : row.pm = .own)
    (hn : row.t.at? p = some (.sl z es)) (hlen : len = es.length) (hv : oneV (flatV res) = some v) (hK : K (σ.mutated r p z row es') v) : CallW P false f (.l (.ref r p z 0 len) :: flatV flat) K σ := by
  refine ⟨hmc.1, fun w0 Al N a w g us R hus => ?_⟩
  have mem := R.mem
  match us, hus with
  | v0 :: us, hus =>
    obtain ⟨hv0, hus⟩ := hus
    obtain ⟨row1, es1, u, e1, e2, e3, e4, e5⟩ := hv0
    rw [hrow] at e1
    cases e1
    rw [hn] at e2
    cases e2
    obtain ⟨hul, huf⟩ := flatV_of hus
    obtain ⟨u', G, hu, hru, hGF, hcont⟩ := (mem.own r row hrow hpm).focus hn
    rw [e3] at hu
    cases hu
    have hG : ∀ b, G b → b < w.heap.size := fun b hb => mem.lt b (Or.inr ⟨r, row, hrow, by simp [hpm], hGF b hb⟩)
    have hr0 : Rep w true v0 (.sl z es) G := by
      have := hru.view e5 (by omega)
      rwa [hlen, List.drop_zero, List.take_length] at this
    refine Calls.mono (hmc.2 w v0 us G hr0 hG hul huf) fun e w' he => ?_
    cases e with
    | panicked => exact he
    | outgrown => exact he
    | returned q =>
      obtain ⟨s1, s2, s3, s4, s5, ⟨F', hF', hF2⟩, rs, rfl, hrl, hrs⟩ := he
      have hru' : Rep w' true u (.sl z es') F' := by
        obtain ⟨oa, n, cap, oa', rfl, hv, hoa⟩ := e5
        obtain ⟨hcap, hnl⟩ := hru.cap_ge
        rcases hoa with hoa | hoa
        · subst hoa
          have hes : es.length = 0 := by omega
          have hes' : es' = [] := by
            rw [hv, hlen, hes] at hF'
            have := hF'.cap_ge.2
            exact List.length_eq_zero_iff.1 this.symm
          subst hes'
          have hn0 : n = 0 := by omega
          subst hn0
          cases oa with
          | none => exact .nils
          | some ad => exact .bare
        · have : oa' = oa := by rw [hoa]; cases oa <;> simp [Addr.add]
          subst this
          rw [hv, hlen, ← hnl] at hF'
          simpa using hF'
      obtain ⟨c1, c2, c3⟩ := hcont w' (.sl z es') F' (fun b hb hnG => s2 b (mem.lt b (Or.inr ⟨r, row, hrow, by simp [hpm], hb⟩)) hnG) hru' (fun b hb => (hF2 b hb).1.imp id fun h hf => by
        have := mem.lt b (Or.inr ⟨r, row, hrow, by simp [hpm], hf⟩)
        omega)
      have hput := T.put_sl (n := es') hn
      have hin := swap_in (w' := w') mem (kill := killSt [] r p) (rs := [r]) (k := r) (row := { row with es := (row.t.put p (.sl z es')).els }) (hv := g.rw r) (F := fun b => (g.fp r b ∧ ¬ G b) ∨ F' b) (N := fun _ => False) (Or.inl (by simp))
        (by simp [hpm]) (fun _ => ?_) (fun h => by simp [hpm] at h) (fun b h => h.elim) (fun b hb => ?_) (fun b hb hp => s2 b hb fun hg => hp ⟨r, row, by simp, hrow, by simp [hpm], hGF b hg⟩) s1 (fun l hl r' q hq hs hm => ?_)
      · have R' := R.turn hin ⟨rfl, rfl⟩ s3 s4 s5
        exact ⟨_, _, v, R', oneV_unit hv (flatV_rep hrl hrs), hK, fun e => by cases e⟩
      · show Rep _ true (g.rw r) (.sl row.z _) _
        rw [← hput]
        exact c1
      · rcases hb with ⟨hb, _⟩ | hb
        · exact ⟨Or.inl ⟨r, row, by simp, hrow, by simp [hpm], hb⟩, Nat.lt_of_lt_of_le (mem.lt b (Or.inr ⟨r, row, hrow, by simp [hpm], hb⟩)) s1⟩
        · obtain ⟨h1, h2⟩ := hF2 b hb
          exact ⟨h1.imp (fun h => ⟨r, row, by simp, hrow, by simp [hpm], hGF b h⟩) id, h2⟩
      · unfold killSt hits at hl
        rw [hq] at hl
        simp only [Bool.or_eq_false_iff, Bool.and_eq_false_iff] at hl
        obtain rfl : r' = r := by simpa using hm
        have hth : thru p q = false := by
          rcases hl.2 with h | h
          · simp at h
          · exact h
        intro row2 hrow2
        rw [hrow] at hrow2
        cases hrow2
        refine ⟨{ row with es := (row.t.put p (.sl z es')).els }, by simp [St.swap, get], by simp [Gh.row, upd_self], fun z2 es2 u2 h1 h2 => ?_⟩
        obtain ⟨eq', d1, d2, d3⟩ := c3 q hth ⟨z, es, _, rfl, rfl⟩ z2 es2 h1
        refine ⟨eq', ?_, d2, ?_⟩
        · show (T.sl row.z _).at? q = _
          rw [← hput]
          exact d1
        · show valAt _ _ (T.sl row.z _) q = _
          simp only [Gh.row, upd_self]
          rw [← hput, d3]
          exact h2
  | [], hus => exact hus.elim

/-- The state in which such a function begins. -/
def St.startM (a0 : Act) (z : Nat) (es : Els) (flat : List T) : St :=
  { env := (0, true, .l (.ref 0 [] z 0 es.length)) :: paramsE 1 (flatV flat), box := [], row := [(0, ⟨.own, z, es⟩)], nxt := 1, sav := [([(0, true, .l (.ref 0 [] z 0 es.length))], a0)] }

/-- What it must end with. -/
def OutM (P : Program) (rs : List ResultVar) (a0 : Act) (z : Nat) (es' : Els) (res : List T) : Exit → St → Prop
  | .normal, σ | .ret, σ => match resV P σ rs with
    | some (c, vs) => c ∧ vs = flatV res ∧ ∃ env', σ.sav = [(env', a0)] ∧ match get env' 0 with
      | some (true, .l l) => match takeL σ z l with
        | some (c', t, _) => c' ∧ t = .sl z es'
        | none => False
      | _ => False
    | none => False
  | _, _ => False

theorem MC1_of {f : FuncId} {fn : Func} {c : Code} {z : Nat} {es es' : Els} {flat res : List T} (hf : P.funcs[f]? = some fn) (hb : fn.body = some c) (hn : (fn.name == "runtime.NumGoroutine") = false) {n : Nat} (hnt : fn.ntmps = n) {rs : List ResultVar} (hrs : fn.results.toList = rs) (hl : flat.length + 1 ≤ n)
    (h : ∀ a0, W P n c (OutM P rs a0 z es' res) (St.startM a0 z es flat)) : MC1 P f z es es' flat res := by
  subst hnt hrs
  refine ⟨⟨fn, hf, by simp [hb], hn⟩, fun w v us F hrep hlt hul huf => calls_of_wp hf hb ?_⟩
  let g : Gh := ⟨fun _ => 0, fun _ => v, fun _ => F⟩
  let a0 : Act := { tmps := (v :: us).toArray ++ Array.replicate (fn.ntmps - (v :: us).toArray.size) undef, defers := [] }
  have hrow : ∀ r row, get (St.startM a0 z es flat).row r = some row → r = 0 ∧ row = ⟨.own, z, es⟩ := by
    intro r row hr
    simp only [St.startM, get] at hr
    split at hr
    · rename_i e
      simp only [Option.some.injEq] at hr
      exact ⟨e, hr.symm⟩
    · cases hr
  have hown : ∀ b, Owned g (St.startM a0 z es flat) b → F b := by
    rintro b (⟨k, ls, h1, _⟩ | ⟨r, row, h1, h2, h3⟩)
    · simp [St.startM, get] at h1
    · exact h3
  obtain ⟨oa, cap, hvs⟩ := hrep.head
  have hleaf : RepL w g (St.startM a0 z es flat) (.ref 0 [] z 0 es.length) v := by
    refine ⟨⟨.own, z, es⟩, es, v, by simp [St.startM, get], rfl, by simp [valAt, g], by simp, ?_⟩
    rw [hvs]
    exact View.whole _ _ _ _ _
  have hflat : RepVs w g (St.startM a0 z es flat) (flatV flat) us := flatV_rep hul huf
  have hslot0 : a0.tmps.getD 0 undef = v := by
    simp only [a0]
    rw [Array.getD_eq_getD_getElem?, Array.getElem?_append_left (by simp)]
    simp
  have hlen := hflat.length
  have hfl : (flatV flat).length = flat.length := by simp [flatV]
  have R : Rel w F fn.ntmps (St.startM a0 z es flat) a0 w g := by
    refine ⟨⟨fun t c u hg hc => ?_, fun t c u hg hc => ?_⟩, ?_, ⟨?_, ?_, ?_, ?_, ?_, ?_, ?_, fun b hb => hlt b (hown b hb)⟩, fun b hb => Or.inr (hown b hb), fun _ _ _ => rfl, Nat.le_refl _, rfl, rfl, rfl, rfl, by simp [a0]; omega, fun x hx => ?_⟩
    · simp only [St.startM, get] at hg
      split at hg
      · rename_i e
        subst e
        simp only [Option.some.injEq, Prod.mk.injEq] at hg
        obtain ⟨_, rfl⟩ := hg
        rw [hslot0]
        exact hleaf
      · obtain ⟨_, h2, h3⟩ := get_paramsE _ 1 t c u hg
        obtain ⟨y, hy, hr⟩ := hflat.nth (j := t - 1) h3
        have hlt : t - 1 < us.length := (List.getElem?_eq_some_iff.1 hy).1
        have : a0.tmps.getD t undef = y := by
          simp only [a0]
          rw [Array.getD_eq_getD_getElem?, Array.getElem?_append_left (by simp; omega)]
          have e : t = (t - 1) + 1 := by omega
          rw [e]
          simp [hy]
        rw [this]
        exact hr
    · simp only [St.startM, get] at hg
      split at hg
      · simp only [Option.some.injEq, Prod.mk.injEq] at hg
        rw [hc] at hg
        cases hg.1
      · have := (get_paramsE _ 1 t c u hg).1
        rw [hc] at this
        cases this
    · refine List.pairwise_cons.2 ⟨fun y hy => ?_, paramsE_unq _ 1⟩
      have := get_paramsE_lt _ 1 y.1 y.2 hy
      simp only
      omega
    · intro k ls h; simp [St.startM, get] at h
    · intro r row h _
      obtain ⟨_, rfl⟩ := hrow r row h
      exact hrep
    · intro r row h hp
      obtain ⟨_, rfl⟩ := hrow r row h
      cases hp
    · intro r row h hp
      obtain ⟨_, rfl⟩ := hrow r row h
      cases hp
    · intro k k' ls ls' h; simp [St.startM, get] at h
    · intro k ls r row h; simp [St.startM, get] at h
    · intro r r' row row' b h h' _ _ _ _
      rw [(hrow r row h).1, (hrow r' row' h').1]
    · simp only [St.startM, List.mem_singleton] at hx
      subst hx
      refine ⟨fun t c u hg hc => ?_, fun t c u hg hc => ?_, by simp⟩
      · simp only [get] at hg
        split at hg
        · rename_i e
          subst e
          simp only [Option.some.injEq, Prod.mk.injEq] at hg
          obtain ⟨_, rfl⟩ := hg
          rw [hslot0]
          exact hleaf
        · cases hg
      · simp only [get] at hg
        split at hg
        · simp only [Option.some.injEq, Prod.mk.injEq] at hg
          rw [hc] at hg
          cases hg.1
        · cases hg
  refine wp_mono (h a0 w F _ w g R) fun e a' w' ⟨σ', g', R', hK⟩ => ?_
  have fin : (match resV P σ' fn.results.toList with
    | some (c, vs) => c ∧ vs = flatV res ∧ ∃ env', σ'.sav = [(env', a0)] ∧ match get env' 0 with
      | some (true, .l l) => match takeL σ' z l with
        | some (c', t, _) => c' ∧ t = .sl z es'
        | none => False
      | _ => False
    | none => False) → a'.defers = [] ∧ ∃ r, (results fn a'.tmps).run P w' = .ok r w' ∧ (w.heap.size ≤ w'.heap.size ∧ (∀ b, b < w.heap.size → ¬ F b → w'.heap[b]? = w.heap[b]?) ∧ w'.os = w.os ∧ w'.tape = w.tape ∧ w'.output = w.output ∧
        (∃ F', Rep w' true v (.sl z es') F' ∧ ∀ b, F' b → (F b ∨ w.heap.size ≤ b) ∧ b < w'.heap.size) ∧
        ∃ rs, r = oneU rs ∧ rs.length = res.length ∧ ∀ (j : Nat) t u, res[j]? = some t → rs[j]? = some u → Rep w' false u t fun _ => False) := by
    intro hK
    refine ⟨R'.dfr, ?_⟩
    split at hK
    · rename_i c vs' hres
      obtain ⟨hc, rfl, env', hsav, hK⟩ := hK
      obtain ⟨l, c', rs', hget, htk, hc'⟩ : ∃ l c' rs', get env' 0 = some (true, .l l) ∧ takeL σ' z l = some (c', .sl z es', rs') ∧ c' := by
        split at hK
        · rename_i l hget
          split at hK
          · rename_i c' t rs' htk
            obtain ⟨hc', rfl⟩ := hK
            exact ⟨l, c', rs', hget, htk, hc'⟩
          · exact hK.elim
        · exact hK.elim
      obtain ⟨qs, hr, hqs⟩ := resV_us R'.mem R'.slots hres hc
      obtain ⟨h1, h2⟩ := flatV_of hqs
      obtain ⟨s1, s2, s3⟩ := R'.sav (env', a0) (by rw [hsav]; simp)
      have hlf : RepL w' g' σ' l v := by
        have := s1 0 true (.l l) hget rfl
        rwa [hslot0] at this
      have htk' : takeLs σ' [z] [l] = some (c' ∧ True, [.sl z es'], rs' ++ []) := by simp [takeLs, htk]
      obtain ⟨_, _, G, q1, q2, _⟩ := takeLs_rep R'.mem htk' ⟨hc', trivial⟩ (vs := [v]) ⟨hlf, trivial⟩
      refine ⟨_, hr, R'.siz, fun b hb hF => R'.frm b hb hF, R'.os, R'.tape, R'.out, ⟨G 0, q1 0 _ v rfl rfl, fun b hb => ?_⟩, qs, rfl, h1, h2⟩
      obtain ⟨r, row, _, p1, p2, p3⟩ := q2 0 b hb
      have ho : Owned g' σ' b := Or.inr ⟨r, row, p1, p2, p3⟩
      exact ⟨(R'.own b ho).symm, R'.mem.lt b ho⟩
    · exact hK.elim
  cases e with
  | normal => exact fin hK
  | ret => exact fin hK
  | _ => exact hK.elim

attribute [go_sem] flatV St.startM OutM St.mutated

end

end Go.Tw
