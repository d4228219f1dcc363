/- Into a function and out of it. -/
import Derived.Test.YthajhlpbinjpgaaTw26
set_option linter.unusedSimpArgs false
set_option linter.unusedVariables false
namespace Go.Tw

def paramsE : Nat → List V → List (Nat × Bool × V)
  | _, [] => []
  | k, v :: vs => (k, true, v) :: paramsE (k + 1) vs

/-- What a function's results hold. -/
def resV (P : Program) (σ : St) : List ResultVar → Option (Prop × List V)
  | [] => some (True, [])
  | .tmp t :: r => match get σ.env t, resV P σ r with
    | some (c, v), some (c', vs) => some (c = true ∧ c', v :: vs)
    | _, _ => none
  | .cell ad t :: r => match get σ.env ad, resV P σ r with
    | some (c, v), some (c', vs) => match loadV P σ t v with
      | some (c2, u) => some (c = true ∧ c2 ∧ c', u :: vs)
      | none => none
    | _, _ => none

def tupV : List V → Option (List (Bool × List L))
  | [] => some []
  | .l x :: r => (tupV r).map fun q => (false, [x]) :: q
  | .agg xs :: r => (tupV r).map fun q => (true, xs) :: q
  | .tup _ :: _ => none

/-- The call's value. -/
def oneV : List V → Option V
  | [v] => some v
  | vs => (tupV vs).map .tup

def resF (tmps : Array Value) : ResultVar → Sem Value
  | .tmp t => pure (tmps.getD t undef)
  | .cell ad t => do loadVar t (← asAddr (tmps.getD ad undef))

theorem results_resF (fn : Func) (tmps : Array Value) : results fn tmps = (do
    let vs ← fn.results.mapM (resF tmps)
    pure (if h : vs.size = 1 then vs[0] else .tuple vs)) := by
  unfold results
  congr 2

section
variable {P : Program} {w0 w w' : World} {Al : Blks} {N : Nat} {g : Gh} {σ σ' : St} {a : Act}

theorem get_paramsE_lt : ∀ (vs : List V) (k t : Nat) (x : Bool × V), (t, x) ∈ paramsE k vs → k ≤ t
  | v :: vs, k, t, x, h => by
    simp only [paramsE, List.mem_cons, Prod.mk.injEq] at h
    rcases h with ⟨rfl, _⟩ | h
    · exact Nat.le_refl _
    · have := get_paramsE_lt vs (k + 1) t x h; omega
  | [], _, _, _, h => by simp [paramsE] at h

theorem paramsE_unq : ∀ (vs : List V) (k : Nat), (paramsE k vs).Pairwise fun x y => x.1 ≠ y.1
  | [], _ => .nil
  | v :: vs, k => List.pairwise_cons.2 ⟨fun y hy => by have := get_paramsE_lt vs (k + 1) y.1 y.2 hy; simp only; omega, paramsE_unq vs (k + 1)⟩

theorem get_paramsE : ∀ (vs : List V) (k t : Nat) (c : Bool) (v : V), get (paramsE k vs) t = some (c, v) → c = true ∧ k ≤ t ∧ vs[t - k]? = some v
  | [], _, _, _, _, h => by simp [paramsE, get] at h
  | x :: vs, k, t, c, v, h => by
    simp only [paramsE, get] at h
    split at h
    · rename_i e
      subst e
      simp only [Option.some.injEq, Prod.mk.injEq] at h
      obtain ⟨rfl, rfl⟩ := h
      simp
    · rename_i e
      obtain ⟨h1, h2, h3⟩ := get_paramsE vs (k + 1) t c v h
      refine ⟨h1, by omega, ?_⟩
      have : t - k = (t - (k + 1)) + 1 := by omega
      rw [this]
      simpa using h3

theorem tupV_rep : ∀ {vs : List V} {us : List Value} {q : List (Bool × List L)}, tupV vs = some q → RepVs w g σ vs us → RepWs w g σ q us
  | [], [], q, h, _ => by simp only [tupV, Option.some.injEq] at h; subst h; trivial
  | .l x :: r, u :: us, q, h, hr => by
    simp only [tupV, Option.map_eq_some_iff] at h
    obtain ⟨q', h', rfl⟩ := h
    exact ⟨by simp only [RepW, Bool.false_eq_true, if_false]; exact ⟨x, rfl, hr.1⟩, tupV_rep h' hr.2⟩
  | .agg xs :: r, u :: us, q, h, hr => by
    simp only [tupV, Option.map_eq_some_iff] at h
    obtain ⟨q', h', rfl⟩ := h
    exact ⟨by simp only [RepW, if_true]; exact hr.1, tupV_rep h' hr.2⟩
  | .tup _ :: _, _, q, h, _ => by simp [tupV] at h
  | [], _ :: _, _, _, h => h.elim
  | .l _ :: _, [], _, _, h => h.elim
  | .agg _ :: _, [], _, _, h => h.elim

theorem resV_list (m : Mem w g σ) (hs : Slots w g σ a) : ∀ {rs : List ResultVar} {c : Prop} {vs : List V}, resV P σ rs = some (c, vs) → c →
    ∃ us : List Value, RepVs w g σ vs us ∧ (rs.mapM (resF a.tmps) : Sem (List Value)).run P w = .ok us w
  | [], c, vs, h, _ => by
    simp only [resV, Option.some.injEq, Prod.mk.injEq] at h
    obtain ⟨_, rfl⟩ := h
    exact ⟨[], trivial, by simp⟩
  | .tmp t :: r, c, vs, h, hc => by
    simp only [resV] at h
    split at h
    · rename_i c1 v c2 vs' hg hr
      simp only [Option.some.injEq, Prod.mk.injEq] at h
      obtain ⟨rfl, rfl⟩ := h
      obtain ⟨us, h1, h2⟩ := resV_list m hs hr hc.2
      refine ⟨a.tmps.getD t undef :: us, ⟨hs.yes t c1 v hg hc.1, h1⟩, ?_⟩
      simp only [List.mapM_cons, Sem.run_bind, resF, Sem.run_pure, Result.andThen_ok, h2]
    · cases h
  | .cell ad t :: r, c, vs, h, hc => by
    simp only [resV] at h
    split at h
    · rename_i c1 v c2 vs' hg hr
      split at h
      · rename_i c3 u hl
        simp only [Option.some.injEq, Prod.mk.injEq] at h
        obtain ⟨rfl, rfl⟩ := h
        obtain ⟨h0, h00, h000⟩ := hc
        obtain ⟨us, h1, h2⟩ := resV_list m hs hr h000
        have had := hs.yes ad c1 v hg h0
        obtain ⟨x, hx1', hx2⟩ := loadV_run m had hl h00
        have hx1 := hx1' w (.refl w)
        refine ⟨x :: us, ⟨hx2, h1⟩, ?_⟩
        have haddr : ∃ q, a.tmps.getD ad undef = .pointer (some q) := by
          unfold loadV at hl
          split at hl
          · exact ⟨_, had.2⟩
          · obtain ⟨_, _, _, _, _, _, _, _, _, _, _, hq⟩ := had; exact ⟨_, hq⟩
          · cases hl
        obtain ⟨q, hq⟩ := haddr
        rw [hq] at hx1
        simp only [Instr.loadAt, Instr.sureAddr, Sem.run_bind, Sem.run_pure, Result.andThen_ok] at hx1
        have e : (resF a.tmps (.cell ad t)).run P w = .ok x w := by simp only [resF, Sem.run_bind, hq, asAddr, Sem.run_pure, Result.andThen_ok, hx1]
        simp only [List.mapM_cons, Sem.run_bind, e, Sem.run_pure, Result.andThen_ok, h2]
      · cases h
    · cases h

theorem resV_run (m : Mem w g σ) (hs : Slots w g σ a) {fn : Func} {c : Prop} {vs : List V} {v : V} (h : resV P σ fn.results.toList = some (c, vs)) (hc : c) (hv : oneV vs = some v) :
    ∃ r, (results fn a.tmps).run P w = .ok r w ∧ RepV w g σ v r := by
  obtain ⟨us, h1, h2⟩ := resV_list m hs h hc
  have hrun : (results fn a.tmps).run P w = .ok (if h : us.toArray.size = 1 then us.toArray[0] else .tuple us.toArray) w := by
    have e : fn.results = fn.results.toList.toArray := by simp
    rw [results_resF, e, List.mapM_toArray]
    simp only [Sem.run_bind, Sem.run_map, h2, Result.andThen_ok, Sem.run_pure]
  refine ⟨_, hrun, ?_⟩
  match vs, us, h1, hv with
  | [], [], _, hv =>
    simp only [oneV, tupV, Option.map_some, Option.some.injEq] at hv
    subst hv
    exact ⟨[], by simp, trivial⟩
  | [x], [u], h1, hv =>
    simp only [oneV, Option.some.injEq] at hv
    subst hv
    simpa using h1.1
  | x :: y :: vs, u1 :: u2 :: us, h1, hv =>
    simp only [oneV, Option.map_eq_some_iff] at hv
    obtain ⟨q, hq, rfl⟩ := hv
    have := tupV_rep hq h1
    refine ⟨u1 :: u2 :: us, by simp, this⟩

/-- What must hold when a function ends. -/
def Out (P : Program) (rs : List ResultVar) (K : St → V → Prop) : Exit → St → Prop
  | .normal, σ | .ret, σ => match resV P σ rs with
    | some (c, vs) => c ∧ match oneV vs with
      | some v => K σ v
      | none => False
    | none => False
  | _, _ => False

/-- A function's body against its caller's memory. -/
theorem CallW_inline {f : FuncId} {fn : Func} {c : Code} {args : List V} {K : St → V → Prop} (hf : P.funcs[f]? = some fn) (hb : fn.body = some c) (hn : (fn.name == "runtime.NumGoroutine") = false) {n : Nat} (hnt : fn.ntmps = n) {rs : List ResultVar} (hrs : fn.results.toList = rs) (hl : args.length ≤ n)
    (h : ∀ a : Act, W P n c (Out P rs fun σ' v => ∃ env' sav', σ'.sav = (env', a) :: sav' ∧ K { σ' with env := env', sav := sav' } v) { σ with env := paramsE 0 args, sav := (σ.env, a) :: σ.sav }) :
    CallW P false f args K σ := by
  subst hnt hrs
  refine ⟨⟨fn, hf, by simp [hb], hn⟩, fun w0 Al N a w g vs R hvs => calls_of_wp hf hb ?_⟩
  have hlen := hvs.length
  have R1 : Rel w0 Al fn.ntmps { σ with env := paramsE 0 args, sav := (σ.env, a) :: σ.sav } { tmps := vs.toArray ++ Array.replicate (fn.ntmps - vs.toArray.size) undef, defers := [] } w g := by
    refine ⟨⟨fun t c v hg hc => ?_, fun t c v hg hc => ?_⟩, paramsE_unq args 0, R.mem.same rfl rfl, ?_, R.frm, R.siz, R.os, R.tape, R.out, rfl, by simp; omega, fun x hx => ?_⟩
    · obtain ⟨_, _, h3⟩ := get_paramsE args 0 t c v hg
      obtain ⟨u, hu, hr⟩ := hvs.nth (j := t) (by simpa using h3)
      have hlt : t < vs.length := (List.getElem?_eq_some_iff.1 hu).1
      have : (vs.toArray ++ Array.replicate (fn.ntmps - vs.toArray.size) undef).getD t undef = u := by
        rw [Array.getD_eq_getD_getElem?, Array.getElem?_append_left (by simpa using hlt)]
        simp [hu]
      rw [this]
      exact hr.same rfl rfl
    · have := (get_paramsE args 0 t c v hg).1
      rw [hc] at this
      cases this
    · rw [Owned.same (g := g) (σ' := { σ with env := paramsE 0 args, sav := (σ.env, a) :: σ.sav }) (σ := σ) rfl rfl]; exact R.own
    · rcases List.mem_cons.1 hx with rfl | hx
      · exact ⟨fun t c v hg hc => (R.slots.yes t c v hg hc).same rfl rfl, R.slots.no, R.unq⟩
      · obtain ⟨q1, q2, q3⟩ := R.sav x hx
        exact ⟨fun t c v hg hc => (q1 t c v hg hc).same rfl rfl, q2, q3⟩
  refine wp_mono (h a w0 Al _ w g R1) fun e a' w' ⟨σ', g', R', hK⟩ => ?_
  have fin : (match resV P σ' fn.results.toList with
      | some (c, vs) => c ∧ match oneV vs with
        | some v => ∃ env' sav', σ'.sav = (env', a) :: sav' ∧ K { σ' with env := env', sav := sav' } v
        | none => False
      | none => False) → a'.defers = [] ∧ ∃ v, (results fn a'.tmps).run P w' = .ok v w' ∧ ∃ σ' g' u, Rel w0 Al N σ' a w' g' ∧ RepV w' g' σ' u v ∧ K σ' u ∧ (false = true → Kept w w') := by
    intro hK
    refine ⟨R'.dfr, ?_⟩
    split at hK
    · rename_i c vs' hres
      obtain ⟨hc, hK⟩ := hK
      split at hK
      · rename_i v hv
        obtain ⟨r, hr, hrep⟩ := resV_run R'.mem R'.slots hres hc hv
        obtain ⟨env', sav', hsav, hK⟩ := hK
        obtain ⟨s1, s2, s3⟩ := R'.sav (env', a) (by rw [hsav]; simp)
        refine ⟨r, hr, { σ' with env := env', sav := sav' }, g', v, ⟨⟨fun t c v hg hc => (s1 t c v hg hc).same rfl rfl, s2⟩, s3, R'.mem.same rfl rfl, ?_, R'.frm, R'.siz, R'.os, R'.tape, R'.out, R.dfr, R.tsz, fun x hx => ?_⟩, hrep.same rfl rfl, hK, fun e => by cases e⟩
        · rw [Owned.same (g := g') (σ' := { σ' with env := env', sav := sav' }) (σ := σ') rfl rfl]; exact R'.own
        · obtain ⟨q1, q2, q3⟩ := R'.sav x (by rw [hsav]; simp [hx])
          exact ⟨fun t c v hg hc => (q1 t c v hg hc).same rfl rfl, q2, q3⟩
      · exact hK.elim
    · exact hK.elim
  cases e with
  | normal => exact fin hK
  | ret => exact fin hK
  | _ => exact hK.elim

end

end Go.Tw
