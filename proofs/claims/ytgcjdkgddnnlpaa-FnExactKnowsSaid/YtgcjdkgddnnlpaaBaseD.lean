/- The layer: trees, states, rules; plain functions. -/
import Derived.Test.YtgcjdkgddnnlpaaBaseC
set_option linter.unusedSimpArgs false
set_option linter.unusedVariables false
set_option linter.unnecessarySimpa false
namespace Go.Tw
open Go.ChangeShapes Go.WideShapes Go.RowKit
def tdArg (P : Program) (t : TypeId) : Option (Bool × List TD) := (tdOf P 12 t).map fun l => (isAggD (P.underlying t), l)
def FitsA : List (Bool × List TD) → List A → Prop
  | [], [] => True
  | d :: ds, x :: xs => (x.1 = d.1 ∧ FitsL d.2 x.2) ∧ FitsA ds xs
  | _, _ => False
def rowOk (P : Program) (t : TypeId) : Bool := P.readableRec t && decide (t < P.types.size)
section
variable {H : Type} {enc : TypeId × Value → H} {P : Program} {w : World}
theorem tdOf_one {n : Nat} {t : TypeId} {l : List TD} (h : tdOf P n t = some l) (ha : isAggD (P.underlying t) = false) : l.length = 1 := by
  cases n with
  | zero => cases h
  | succ n =>
    simp only [tdOf] at h
    split at h
    · cases h; rfl
    · cases h; rfl
    · cases h; rfl
    · simp only [Option.bind_eq_some_iff] at h
      obtain ⟨_, _, h⟩ := h
      split at h
      · cases h; rfl
      · cases h
    · rename_i hu
      rw [hu] at ha
      cases ha
    · cases h
theorem arg_reads {t : TypeId} {v : Value} {d : DataW H} {ps : List MemPlace} {td : Bool × List TD} (ht : tdArg P t = some td) (h : DataW.Trod enc P w 0 (fun _ => true) true t v d ps)
    {base : Nat} (hok : Value.okWide P w .any base t v) : ∃ ts, FitsL td.2 ts ∧ ShapeV (td.1, ts) v ∧ ts.length = v.cells.toList.length ∧ ∀ (j : Nat) t u, ts[j]? = some t → v.cells.toList[j]? = some u → Rep w false u t fun _ => True := by
  simp only [tdArg, Option.map_eq_some_iff] at ht
  obtain ⟨l, hl, rfl⟩ := ht
  obtain ⟨fuel, hf⟩ := h
  obtain ⟨ts, R⟩ := tree_of 12 t l hl fuel _ _ hf
  refine ⟨ts, R.fits, ?_, by rw [R.fits.len, R.len], R.rep⟩
  unfold ShapeV
  cases ha : isAggD (P.underlying t) with
  | true =>
    simp only [if_true]
    unfold Value.okWide at hok
    unfold isAggD at ha
    split at ha
    · rename_i hu
      rw [hu] at hok
      obtain ⟨cs, rfl, h1, _⟩ := hok
      refine ⟨cs.toList, rfl, ?_⟩
      have := R.len
      simp [Value.cells] at this
      simp [R.fits.len, this]
    · rename_i hu
      rw [hu] at hok
      obtain ⟨cs, rfl, h1, _⟩ := hok
      refine ⟨cs.toList, rfl, ?_⟩
      have := R.len
      simp [Value.cells] at this
      simp [R.fits.len, this]
    · cases ha
  | false =>
    simp only [Bool.false_eq_true, if_false]
    have h1 := tdOf_one hl ha
    have h2 := R.len
    rw [h1] at h2
    have h3 := R.fits.len
    rw [h1] at h3
    refine ⟨h3, ?_⟩
    match hc : v.cells.toList, h2 with
    | [u], _ =>
      have h4 := R.rep 0 (ts[0]'(by omega)) u (by simp) (by rw [hc]; rfl)
      have h5 := h4.one
      cases v with
      | agg cs =>
        unfold Value.okWide at hok
        unfold isAggD at ha
        split at ha
        · cases ha
        · cases ha
        · rename_i n1 n2
          split at hok
          · rename_i fs hu
            exact absurd hu (n1 fs)
          · rename_i k e hu
            exact absurd hu (n2 k e)
          · unfold Cell.okWide at hok
            split at hok <;> simp_all [Cell.ok]
      | _ => simp [Value.cells] at hc; subst hc; exact h5
theorem args_reads {base : Nat} : ∀ (ts : List TypeId) (tds : List (Bool × List TD)), ts.mapM (tdArg P) = some tds → ∀ (vs : List Value) (ds : List (DataW H)) (ps : List MemPlace), DataW.TrodAll enc P w 0 (fun _ => true) true ts vs ds ps →
    (∀ (j : Nat) t v, ts[j]? = some t → vs[j]? = some v → Value.okWide P w .any base t v) →
    ∃ args : List A, FitsA tds args ∧ Shapes args vs ∧ (flatA args).length = (flatU vs).length ∧ ∀ (j : Nat) t u, (flatA args)[j]? = some t → (flatU vs)[j]? = some u → Rep w false u t fun _ => True
  | [], tds, h, vs, ds, ps, hT, _ => by
    simp at h
    subst h
    obtain ⟨rfl, rfl, rfl⟩ := trodAll_nil hT
    exact ⟨[], trivial, trivial, rfl, fun j t u h => by simp [flatA] at h⟩
  | t :: ts, tds, h, vs, ds, ps, hT, hok => by
    obtain ⟨v, vs', d, ds', p, q, rfl, rfl, rfl, h1, h2⟩ := trodAll_cons hT
    rw [List.mapM_cons] at h
    simp only [Option.bind_eq_bind, Option.bind_eq_some_iff, Option.pure_def, Option.some.injEq] at h
    obtain ⟨td, ht, tds', hts, rfl⟩ := h
    obtain ⟨xs, f1, f2, f3, f4⟩ := arg_reads ht h1 (hok 0 t v rfl rfl)
    obtain ⟨args, g1, g2, g3, g4⟩ := args_reads ts tds' hts vs' ds' q h2 fun j t v e1 e2 => hok (j + 1) t v (by simpa using e1) (by simpa using e2)
    refine ⟨(td.1, xs) :: args, ⟨⟨rfl, f1⟩, g1⟩, ⟨f2, g2⟩, ?_, fun j t u e1 e2 => ?_⟩
    · simp only [flatA, flatU, List.flatMap_cons, List.length_append] at g3 ⊢
      omega
    · simp only [flatA, flatU, List.flatMap_cons] at e1 e2
      by_cases hj : j < xs.length
      · rw [List.getElem?_append_left hj] at e1
        rw [List.getElem?_append_left (by omega)] at e2
        exact f4 j t u e1 e2
      · rw [List.getElem?_append_right (by omega)] at e1
        rw [List.getElem?_append_right (by omega), ← f3] at e2
        exact g4 _ t u e1 e2
theorem trodAll_len : ∀ {ts : List TypeId} {vs : List Value} {ds : List (DataW H)} {ps : List MemPlace}, DataW.TrodAll enc P w 0 (fun _ => true) true ts vs ds ps → ds.length = ts.length
  | [], vs, ds, ps, h => by
    obtain ⟨rfl, rfl, rfl⟩ := trodAll_nil h
    rfl
  | t :: ts, vs, ds, ps, h => by
    obtain ⟨v, vs', d, ds', p, q, rfl, rfl, rfl, _, h2⟩ := trodAll_cons h
    simp [trodAll_len h2]
theorem trodAll_lt : ∀ {ts : List TypeId} {vs : List Value} {ds : List (DataW H)} {ps : List MemPlace}, DataW.TrodAll enc P w 0 (fun _ => true) true ts vs ds ps → ∀ x ∈ ps, x.block < w.heap.size
  | [], vs, ds, ps, h => by
    obtain ⟨rfl, rfl, rfl⟩ := trodAll_nil h
    simp
  | t :: ts, vs, ds, ps, h => by
    obtain ⟨v, vs', d, ds', p, q, rfl, rfl, rfl, ⟨m, hm⟩, h2⟩ := trodAll_cons h
    intro x hx
    rcases List.mem_append.1 hx with hx | hx
    · exact DataW.trod_lt m _ _ _ hm x hx
    · exact trodAll_lt h2 x hx
theorem trodAll_below (hl : laidOutB P = true) {w' : World} : ∀ {ts : List TypeId}, ts.all (rowOk P) = true → ∀ {vs : List Value} {ds : List (DataW H)} {ps : List MemPlace}, DataW.TrodAll enc P w 0 (fun _ => true) true ts vs ds ps → Below w.heap.size w w' →
    (∀ x ∈ ps, x.block < w.heap.size) → DataW.TrodAll enc P w' 0 (fun b => decide (b < w.heap.size)) true ts vs ds ps
  | [], _, vs, ds, ps, h, _, _ => by
    obtain ⟨rfl, rfl, rfl⟩ := trodAll_nil h
    exact rfl
  | t :: ts, hr, vs, ds, ps, h, hb, hlt => by
    obtain ⟨v, vs', d, ds', p, q, rfl, rfl, rfl, h1, h2⟩ := trodAll_cons h
    simp only [List.all_cons, Bool.and_eq_true, rowOk, decide_eq_true_eq] at hr
    exact ⟨p, q, Below.trod hl hr.1.1 hr.1.2 h1 hb fun x hx => hlt x (by simp [hx]), trodAll_below hl hr.2 h2 hb fun x hx => hlt x (by simp [hx]), rfl⟩
theorem law_lift {C : Checked} {os : Os} {f : FuncId} {fn : Func} {s : ChangeSpec} {tds : List (Bool × List TD)} {tb : TypeId} (own : ownKnob C.prog.godebug = none) (laid : laidOutB C.prog = true) (started : os.Started)
    (noInit : C.prog.inits.idxOf? f = none) (hfn : C.prog.funcs[f]? = some fn)
    (witness : ∃ (w : World) (tape : Tape) (i : Input), w.os = os ∧ (w.forCall tape i).Shaped C.prog ∧ i.vars = [] ∧ Input.okWide C.prog (w.forCall tape i) .any w.heap.size f i ∧
      s.pre6 enc C.prog fn [] false (w.forCall tape i).memory i.args ∧ ({} : Assume).holds C.prog (lone (Frame.enter C.prog f i.args .normal) [] (w.forCall tape i)))
    (hvars : s.vars = []) (hs : ∀ ds : List (DataW H), ds.length = fn.params.toList.length → (s.fn H ds).results = [.lit (.bool true)] ∧ (s.fn H ds).args = ds ∧ (s.fn H ds).vars = [])
    (htd : fn.params.toList.mapM (tdArg C.prog) = some tds) (hrow : fn.params.toList.all (rowOk C.prog) = true) (hres : fn.resultTypes = #[tb]) (hbool : C.prog.underlying tb = some .bool)
    (hpc : ∀ args : List A, FitsA tds args → PC C.prog f args [(false, [.bool true])]) :
    ReturnsInHanded {} C os f .any (s.pre6 enc C.prog fn [] false) (s.post enc C.prog fn false true false false) := by
  refine returnsInHanded_of_change_sized own started noInit hfn witness ?_
  intro W base args ds gs before hval hW _ _ _
  have hW' := hW
  obtain ⟨p, q, hA, hV, rfl, _, _⟩ := hW
  rw [hvars] at hV
  obtain ⟨rfl, rfl⟩ := trodVars_none hV
  have hval' : ∀ (j : Nat) t v, fn.params.toList[j]? = some t → args.toList[j]? = some v → Value.okWide C.prog W .any base t v := fun j t v h1 h2 => hval j t v (by simpa using h1) (by simpa using h2)
  obtain ⟨as, h1, h2, h3, h4⟩ := args_reads _ _ htd _ _ _ hA hval'
  have hlt := trodAll_lt hA
  have hlen : ds.length = fn.params.toList.length := by
    exact (trodAll_len hA)
  obtain ⟨e1, e2, e3⟩ := hs ds hlen
  have hcall := (hpc as h1).2 W args.toList h2 h4
  rw [Array.toArray_toList] at hcall
  refine hcall.mono fun e W' he => ?_
  cases e with
  | panicked => exact he.elim
  | outgrown => exact he.elim
  | returned r =>
    obtain ⟨s1, s2, s3, s4, s5, us, rfl, hsh, F, hF, _⟩ := he
    have bel : Below W.heap.size W W' := ⟨s3, s4, s5, s1, s2⟩
    have hr : oneU us = .bool true := by
      match us, hsh with
      | [u], hsh =>
        have h1 := hsh.1
        simp [ShapeV] at h1
        have hu := cells_one h1
        have := hF 0 (.bool true) u rfl (by simp [flatU, hu])
        cases this
        rfl
    rw [hr]
    refine ⟨_, rfl, ds, [], p ++ [], [], p, [], hW', ?_, ?_, ?_, bel.frame _, fun h => by cases h⟩
    · rw [List.append_nil, e1, hres]
      exact trodAll_mk1 (shut_bool hbool _)
    · rw [List.append_nil, e2]
      exact trodAll_below laid hrow hA bel hlt
    · rw [List.append_nil, e3, hvars]
      rfl
end
end Go.Tw

namespace Go.Tw
theorem Sub.of_to {σ σ' : St} (ts : List Nat) (n : Nat) (hn : ts.Nodup) (h : σ.to ts n = σ') : Sub σ σ' := h ▸ Sub.to ts n hn
def St.tidy (σ : St) (ts rs bs : List Nat) (n : Nat) : St :=
  { ((σ.only ts).drop ((σ.row.map (·.1)).filter fun k => !rs.contains k) ((σ.box.map (·.1)).filter fun k => !bs.contains k)) with nxt := n }
theorem Sub.of_tidy {σ σ' : St} (ts rs bs : List Nat) (n : Nat) (hn : ts.Nodup) (h : σ.tidy ts rs bs n = σ') : Sub σ σ' := by
  subst h
  exact (Sub.only ts hn).trans ((Sub.drop _ _).trans (Sub.num n))
theorem ofL_def (DR DB : List Nat) (l : L) : L.of DR DB l = ((match l.rowOf with
  | some (r, _) => DR.contains r
  | none => false) || l.boxOf.any DB.contains) := by rfl
theorem Sub.swp_row (a b : Nat) {σ σ' : St} (h : σ.ren (swp a b) (fun n => n) = σ') : Sub σ σ' := by
  subst h
  exact Sub.ren (swp_swp a b) fun _ => rfl
attribute [go_sem] St.tidy St.drop ofL_def St.ren renE renV renL swp killS
theorem W_loopI {P : Program} {N : Nat} {K : Exit → St → Prop} {c : Code} {σ : St} {α : Type} (I : α → St) (φ : α → Prop) (μ : α → Nat) (x : α) (hs : Sub σ (I x)) (h0 : φ x)
    (round : ∀ x, φ x → W P N c (Then (fun σ' => ∃ y, Sub σ' (I y) ∧ φ y ∧ μ y < μ x) K) (I x)) : W P N (.loop c) K σ :=
  W_loopS (fun n σ => ∃ x, φ x ∧ n = μ x ∧ σ = I x) hs ⟨x, h0, rfl, rfl⟩ fun n σ ⟨x, h1, h2, h3⟩ => by
    subst h2 h3
    refine W_mono (round x h1) fun e σ' h => ?_
    cases e with
    | normal =>
      obtain ⟨y, q1, q2, q3⟩ := h
      exact ⟨μ y, I y, q3, q1, y, q2, rfl, rfl⟩
    | _ => exact h
theorem fits_nil {ts : List T} (h : FitsL [] ts) : ts = [] := List.length_eq_zero_iff.1 h.len
theorem fits_cons {d : TD} {ds : List TD} {ts : List T} (h : FitsL (d :: ds) ts) : ∃ t ts', ts = t :: ts' ∧ Fits d t ∧ FitsL ds ts' := by
  match ts, h with
  | t :: ts, h => exact ⟨t, ts, rfl, h.each 0 d t rfl rfl, by simpa using h.len, fun j d t h1 h2 => h.each (j + 1) d t (by simpa using h1) (by simpa using h2)⟩
  | [], h => simpa using h.len
theorem fits_int {k : IntKind} {t : T} (h : Fits (.int k) t) : ∃ n, t = .int k n ∧ k.min ≤ n ∧ n ≤ k.max := by cases h with | int h1 h2 => exact ⟨_, rfl, h1, h2⟩
theorem enc_of {α : Type} {e : α → List T} {Q : α → Prop} : ∀ {es : Els}, (∀ x ∈ es, ∃ a, x = e a ∧ Q a) → ∃ xs, es = enc e xs ∧ ∀ a ∈ xs, Q a
  | [], _ => ⟨[], rfl, by simp⟩
  | x :: es, h => by
    obtain ⟨a, rfl, ha⟩ := h x (by simp)
    obtain ⟨xs, rfl, hx⟩ := enc_of (es := es) fun y hy => h y (by simp [hy])
    exact ⟨a :: xs, rfl, by simp; exact ⟨ha, hx⟩⟩
theorem fits_sl {α : Type} {e : α → List T} {Q : α → Prop} {z : Nat} {fs : List TD} {t : T} (h : Fits (.sl z fs) t) (he : ∀ ts, FitsL fs ts → ∃ a, ts = e a ∧ Q a) :
    ∃ xs : List α, t = .sl z (enc e xs) ∧ xs.length ≤ 9223372036854775807 ∧ ∀ a ∈ xs, Q a := by
  cases h with
  | sl hl hz hx =>
    obtain ⟨xs, rfl, hq⟩ := enc_of fun x hx' => he x ⟨hz x hx', hx x hx'⟩
    exact ⟨xs, rfl, by simpa [enc_length] using hl, hq⟩
theorem fits_I {ts : List T} (h : FitsL [.int .i64] ts) : ∃ n, ts = eI n ∧ -9223372036854775808 ≤ n ∧ n ≤ 9223372036854775807 := by
  obtain ⟨t, ts', rfl, h1, h2⟩ := fits_cons h
  obtain rfl := fits_nil h2
  obtain ⟨n, rfl, h3, h4⟩ := fits_int h1
  exact ⟨n, rfl, h3, h4⟩
theorem fitsA_nil {as : List A} (h : FitsA [] as) : as = [] := by
  cases as with
  | nil => rfl
  | cons => exact h.elim
theorem fitsA_cons {d : Bool × List TD} {ds : List (Bool × List TD)} {as : List A} (h : FitsA (d :: ds) as) : ∃ ts as', as = (d.1, ts) :: as' ∧ FitsL d.2 ts ∧ FitsA ds as' := by
  match as, h with
  | x :: as, h => exact ⟨x.2, as, by rw [← h.1.1], h.1.2, h.2⟩
  | [], h => exact h.elim
end Go.Tw

namespace Go.Tw
@[ext] structure GMsg where
  kind : Int
  page : Int
  own : Bool
  list : List Int
  deriving DecidableEq
@[ext] structure GSender where
  base : Int
  queue : List GMsg
  deriving DecidableEq
@[ext] structure GReceiver where
  got : Int
  deriving DecidableEq
@[ext] structure GPacket where
  from_ : Int
  to : Int
  ack : Bool
  n : Int
  msg : GMsg
  deriving DecidableEq
@[ext] structure GFrame where
  state : Int
  list : List Int
  asked : Bool
  deriving DecidableEq
@[ext] structure GWait where
  who : Int
  own : Bool
  deriving DecidableEq
@[ext] structure GHome where
  list : List Int
  owner : Int
  readers : List Bool
  busy : Bool
  now : GWait
  acks : Int
  queue : List GWait
  deriving DecidableEq
@[ext] structure GTold where
  to : Int
  msg : GMsg
  deriving DecidableEq
@[ext] structure GNode where
  id : Int
  frames : List GFrame
  homes : List GHome
  out : List GSender
  in_ : List GReceiver
  deriving DecidableEq
@[ext] structure GWorld where
  size : Int
  nodes : List GNode
  net : List GPacket
  deriving DecidableEq
@[ext] structure GDeed where
  kind : Int
  a : Int
  b : Int
  c : Int
  deriving DecidableEq
@[ext] structure GIns where
  op : Int
  r : Int
  a : Int
  b : Int
  n : Int
  deriving DecidableEq
@[ext] structure GHart where
  regs : List Int
  pc : Int
  state : Int
  deriving DecidableEq
@[ext] structure GBlock where
  start : Int
  list : List GIns
  deriving DecidableEq
@[ext] structure GCore where
  hart : GHart
  cache : List GBlock
  deriving DecidableEq
@[ext] structure GFlock where
  world : GWorld
  cores : List GCore
  deriving DecidableEq
@[ext] structure GEvent where
  who : Int
  pc : Int
  at_ : Int
  got : Int
  put : Int
  deriving DecidableEq
@[ext] structure GRace where
  i : Int
  k : Int
  deriving DecidableEq
def eB (x : Bool) : List T := [.bool x]
theorem eB_def (x : Bool) : eB x = [.bool x] := rfl
theorem getD_eB (o : Option Bool) : (Option.map eB o).getD [.bool false] = eB (o.getD false) := by cases o <;> rfl
theorem rep_eB (n : Nat) : List.replicate n [.bool false] = enc eB (List.replicate n false) := enc_rep eB n false
theorem set_eB (xs : List Bool) (i : Nat) (x : Bool) : (enc eB xs).set i [.bool x] = enc eB (xs.set i x) := enc_set eB xs i x
theorem snoc_eB (xs : List Bool) (x : Bool) : enc eB xs ++ [[.bool x]] = enc eB (xs ++ [x]) := enc_snoc eB xs x
def eU (x : Int) : List T := [.int .u8 x]
theorem eU_def (x : Int) : eU x = [.int .u8 x] := rfl
theorem getD_eU (o : Option Int) : (Option.map eU o).getD [.int .u8 0] = eU (o.getD 0) := by cases o <;> rfl
theorem set_eU (xs : List Int) (i : Nat) (x : Int) : (enc eU xs).set i [.int .u8 x] = enc eU (xs.set i x) := enc_set eU xs i x
theorem snoc_eU (xs : List Int) (x : Int) : enc eU xs ++ [[.int .u8 x]] = enc eU (xs ++ [x]) := enc_snoc eU xs x
def eIS (x : List Int) : List T := [.sl 1 (enc eI x)]
theorem eIS_def (x : List Int) : eIS x = [.sl 1 (enc eI x)] := rfl
theorem getD_eIS (o : Option (List Int)) : (Option.map eIS o).getD [.sl 1 []] = eIS (o.getD []) := by cases o <;> rfl
theorem rep_eIS (n : Nat) : List.replicate n [.sl 1 []] = enc eIS (List.replicate n []) := enc_rep eIS n []
theorem set_eIS (xs : List (List Int)) (i : Nat) (x : List Int) : (enc eIS xs).set i [.sl 1 (enc eI x)] = enc eIS (xs.set i x) := enc_set eIS xs i x
theorem snoc_eIS (xs : List (List Int)) (x : List Int) : enc eIS xs ++ [[.sl 1 (enc eI x)]] = enc eIS (xs ++ [x]) := enc_snoc eIS xs x
theorem fits_IS {ts : List T} (h : FitsL [.sl 1 [.int .i64]] ts) : ∃ xs : List Int, ts = [.sl 1 (enc eI xs)] ∧ xs.length ≤ 9223372036854775807 ∧ ∀ a ∈ xs, -9223372036854775808 ≤ a ∧ a ≤ 9223372036854775807 := by
  obtain ⟨t, ts', rfl, h1, h2⟩ := fits_cons h
  obtain rfl := fits_nil h2
  obtain ⟨xs, rfl, h3, h4⟩ := fits_sl (e := eI) (Q := fun a : Int => -9223372036854775808 ≤ a ∧ a ≤ 9223372036854775807) h1 fun ts h => fits_I h
  exact ⟨xs, rfl, h3, h4⟩
def eMsg (x : GMsg) : List T := [.int .i64 x.kind, .int .i64 x.page, .bool x.own, .sl 1 (enc eI x.list)]
theorem eMsg_def (x : GMsg) : eMsg x = [.int .i64 x.kind, .int .i64 x.page, .bool x.own, .sl 1 (enc eI x.list)] := rfl
theorem getD_eMsg (o : Option GMsg) : (Option.map eMsg o).getD [.int .i64 0, .int .i64 0, .bool false, .sl 1 []] = eMsg (o.getD ⟨0, 0, false, []⟩) := by cases o <;> rfl
theorem set_eMsg (xs : List GMsg) (i : Nat) (kind0 : Int) (page0 : Int) (own0 : Bool) (list0 : List Int) : (enc eMsg xs).set i [.int .i64 kind0, .int .i64 page0, .bool own0, .sl 1 (enc eI list0)] = enc eMsg (xs.set i (⟨kind0, page0, own0, list0⟩ : GMsg)) := enc_set eMsg xs i (⟨kind0, page0, own0, list0⟩ : GMsg)
theorem snoc_eMsg (xs : List GMsg) (kind0 : Int) (page0 : Int) (own0 : Bool) (list0 : List Int) : enc eMsg xs ++ [[.int .i64 kind0, .int .i64 page0, .bool own0, .sl 1 (enc eI list0)]] = enc eMsg (xs ++ [(⟨kind0, page0, own0, list0⟩ : GMsg)]) := enc_snoc eMsg xs (⟨kind0, page0, own0, list0⟩ : GMsg)
theorem eta_Msg (x : GMsg) : (⟨x.kind, x.page, x.own, x.list⟩ : GMsg) = x := rfl
def GMsg.ok (x : GMsg) : Prop := (-9223372036854775808 ≤ x.kind ∧ x.kind ≤ 9223372036854775807) ∧ (-9223372036854775808 ≤ x.page ∧ x.page ≤ 9223372036854775807) ∧ (True) ∧ (x.list.length ≤ 9223372036854775807 ∧ ∀ a ∈ x.list, -9223372036854775808 ≤ a ∧ a ≤ 9223372036854775807)
def eSender (x : GSender) : List T := [.int .i64 x.base, .sl 4 (enc eMsg x.queue)]
theorem eSender_def (x : GSender) : eSender x = [.int .i64 x.base, .sl 4 (enc eMsg x.queue)] := rfl
theorem getD_eSender (o : Option GSender) : (Option.map eSender o).getD [.int .i64 0, .sl 4 []] = eSender (o.getD ⟨0, []⟩) := by cases o <;> rfl
theorem rep_eSender (n : Nat) : List.replicate n [.int .i64 0, .sl 4 []] = enc eSender (List.replicate n ⟨0, []⟩) := enc_rep eSender n ⟨0, []⟩
theorem set_eSender (xs : List GSender) (i : Nat) (base0 : Int) (queue0 : List GMsg) : (enc eSender xs).set i [.int .i64 base0, .sl 4 (enc eMsg queue0)] = enc eSender (xs.set i (⟨base0, queue0⟩ : GSender)) := enc_set eSender xs i (⟨base0, queue0⟩ : GSender)
theorem snoc_eSender (xs : List GSender) (base0 : Int) (queue0 : List GMsg) : enc eSender xs ++ [[.int .i64 base0, .sl 4 (enc eMsg queue0)]] = enc eSender (xs ++ [(⟨base0, queue0⟩ : GSender)]) := enc_snoc eSender xs (⟨base0, queue0⟩ : GSender)
theorem eta_Sender (x : GSender) : (⟨x.base, x.queue⟩ : GSender) = x := rfl
def GSender.ok (x : GSender) : Prop := (-9223372036854775808 ≤ x.base ∧ x.base ≤ 9223372036854775807) ∧ (x.queue.length ≤ 9223372036854775807 ∧ ∀ a ∈ x.queue, a.ok)
def eReceiver (x : GReceiver) : List T := [.int .i64 x.got]
theorem eReceiver_def (x : GReceiver) : eReceiver x = [.int .i64 x.got] := rfl
theorem getD_eReceiver (o : Option GReceiver) : (Option.map eReceiver o).getD [.int .i64 0] = eReceiver (o.getD ⟨0⟩) := by cases o <;> rfl
theorem rep_eReceiver (n : Nat) : List.replicate n [.int .i64 0] = enc eReceiver (List.replicate n ⟨0⟩) := enc_rep eReceiver n ⟨0⟩
theorem set_eReceiver (xs : List GReceiver) (i : Nat) (got0 : Int) : (enc eReceiver xs).set i [.int .i64 got0] = enc eReceiver (xs.set i (⟨got0⟩ : GReceiver)) := enc_set eReceiver xs i (⟨got0⟩ : GReceiver)
theorem snoc_eReceiver (xs : List GReceiver) (got0 : Int) : enc eReceiver xs ++ [[.int .i64 got0]] = enc eReceiver (xs ++ [(⟨got0⟩ : GReceiver)]) := enc_snoc eReceiver xs (⟨got0⟩ : GReceiver)
theorem eta_Receiver (x : GReceiver) : (⟨x.got⟩ : GReceiver) = x := rfl
def GReceiver.ok (x : GReceiver) : Prop := (-9223372036854775808 ≤ x.got ∧ x.got ≤ 9223372036854775807)
def ePacket (x : GPacket) : List T := [.int .i64 x.from_, .int .i64 x.to, .bool x.ack, .int .i64 x.n, .int .i64 x.msg.kind, .int .i64 x.msg.page, .bool x.msg.own, .sl 1 (enc eI x.msg.list)]
theorem ePacket_def (x : GPacket) : ePacket x = [.int .i64 x.from_, .int .i64 x.to, .bool x.ack, .int .i64 x.n, .int .i64 x.msg.kind, .int .i64 x.msg.page, .bool x.msg.own, .sl 1 (enc eI x.msg.list)] := rfl
theorem getD_ePacket (o : Option GPacket) : (Option.map ePacket o).getD [.int .i64 0, .int .i64 0, .bool false, .int .i64 0, .int .i64 0, .int .i64 0, .bool false, .sl 1 []] = ePacket (o.getD ⟨0, 0, false, 0, ⟨0, 0, false, []⟩⟩) := by cases o <;> rfl
theorem set_ePacket (xs : List GPacket) (i : Nat) (from_0 : Int) (to0 : Int) (ack0 : Bool) (n0 : Int) (msg_kind0 : Int) (msg_page0 : Int) (msg_own0 : Bool) (msg_list0 : List Int) : (enc ePacket xs).set i [.int .i64 from_0, .int .i64 to0, .bool ack0, .int .i64 n0, .int .i64 msg_kind0, .int .i64 msg_page0, .bool msg_own0, .sl 1 (enc eI msg_list0)] = enc ePacket (xs.set i (⟨from_0, to0, ack0, n0, ⟨msg_kind0, msg_page0, msg_own0, msg_list0⟩⟩ : GPacket)) := enc_set ePacket xs i (⟨from_0, to0, ack0, n0, ⟨msg_kind0, msg_page0, msg_own0, msg_list0⟩⟩ : GPacket)
theorem snoc_ePacket (xs : List GPacket) (from_0 : Int) (to0 : Int) (ack0 : Bool) (n0 : Int) (msg_kind0 : Int) (msg_page0 : Int) (msg_own0 : Bool) (msg_list0 : List Int) : enc ePacket xs ++ [[.int .i64 from_0, .int .i64 to0, .bool ack0, .int .i64 n0, .int .i64 msg_kind0, .int .i64 msg_page0, .bool msg_own0, .sl 1 (enc eI msg_list0)]] = enc ePacket (xs ++ [(⟨from_0, to0, ack0, n0, ⟨msg_kind0, msg_page0, msg_own0, msg_list0⟩⟩ : GPacket)]) := enc_snoc ePacket xs (⟨from_0, to0, ack0, n0, ⟨msg_kind0, msg_page0, msg_own0, msg_list0⟩⟩ : GPacket)
theorem eta_Packet (x : GPacket) : (⟨x.from_, x.to, x.ack, x.n, ⟨x.msg.kind, x.msg.page, x.msg.own, x.msg.list⟩⟩ : GPacket) = x := rfl
def GPacket.ok (x : GPacket) : Prop := (-9223372036854775808 ≤ x.from_ ∧ x.from_ ≤ 9223372036854775807) ∧ (-9223372036854775808 ≤ x.to ∧ x.to ≤ 9223372036854775807) ∧ (True) ∧ (-9223372036854775808 ≤ x.n ∧ x.n ≤ 9223372036854775807) ∧ (x.msg.ok)
def eFrame (x : GFrame) : List T := [.int .i64 x.state, .sl 1 (enc eI x.list), .bool x.asked]
theorem eFrame_def (x : GFrame) : eFrame x = [.int .i64 x.state, .sl 1 (enc eI x.list), .bool x.asked] := rfl
theorem getD_eFrame (o : Option GFrame) : (Option.map eFrame o).getD [.int .i64 0, .sl 1 [], .bool false] = eFrame (o.getD ⟨0, [], false⟩) := by cases o <;> rfl
theorem rep_eFrame (n : Nat) : List.replicate n [.int .i64 0, .sl 1 [], .bool false] = enc eFrame (List.replicate n ⟨0, [], false⟩) := enc_rep eFrame n ⟨0, [], false⟩
theorem set_eFrame (xs : List GFrame) (i : Nat) (state0 : Int) (list0 : List Int) (asked0 : Bool) : (enc eFrame xs).set i [.int .i64 state0, .sl 1 (enc eI list0), .bool asked0] = enc eFrame (xs.set i (⟨state0, list0, asked0⟩ : GFrame)) := enc_set eFrame xs i (⟨state0, list0, asked0⟩ : GFrame)
theorem snoc_eFrame (xs : List GFrame) (state0 : Int) (list0 : List Int) (asked0 : Bool) : enc eFrame xs ++ [[.int .i64 state0, .sl 1 (enc eI list0), .bool asked0]] = enc eFrame (xs ++ [(⟨state0, list0, asked0⟩ : GFrame)]) := enc_snoc eFrame xs (⟨state0, list0, asked0⟩ : GFrame)
theorem eta_Frame (x : GFrame) : (⟨x.state, x.list, x.asked⟩ : GFrame) = x := rfl
def GFrame.ok (x : GFrame) : Prop := (-9223372036854775808 ≤ x.state ∧ x.state ≤ 9223372036854775807) ∧ (x.list.length ≤ 9223372036854775807 ∧ ∀ a ∈ x.list, -9223372036854775808 ≤ a ∧ a ≤ 9223372036854775807) ∧ (True)
def eWait (x : GWait) : List T := [.int .i64 x.who, .bool x.own]
theorem eWait_def (x : GWait) : eWait x = [.int .i64 x.who, .bool x.own] := rfl
theorem getD_eWait (o : Option GWait) : (Option.map eWait o).getD [.int .i64 0, .bool false] = eWait (o.getD ⟨0, false⟩) := by cases o <;> rfl
theorem set_eWait (xs : List GWait) (i : Nat) (who0 : Int) (own0 : Bool) : (enc eWait xs).set i [.int .i64 who0, .bool own0] = enc eWait (xs.set i (⟨who0, own0⟩ : GWait)) := enc_set eWait xs i (⟨who0, own0⟩ : GWait)
theorem snoc_eWait (xs : List GWait) (who0 : Int) (own0 : Bool) : enc eWait xs ++ [[.int .i64 who0, .bool own0]] = enc eWait (xs ++ [(⟨who0, own0⟩ : GWait)]) := enc_snoc eWait xs (⟨who0, own0⟩ : GWait)
theorem eta_Wait (x : GWait) : (⟨x.who, x.own⟩ : GWait) = x := rfl
def GWait.ok (x : GWait) : Prop := (-9223372036854775808 ≤ x.who ∧ x.who ≤ 9223372036854775807) ∧ (True)
def eHome (x : GHome) : List T := [.sl 1 (enc eI x.list), .int .i64 x.owner, .sl 1 (enc eB x.readers), .bool x.busy, .int .i64 x.now.who, .bool x.now.own, .int .i64 x.acks, .sl 2 (enc eWait x.queue)]
theorem eHome_def (x : GHome) : eHome x = [.sl 1 (enc eI x.list), .int .i64 x.owner, .sl 1 (enc eB x.readers), .bool x.busy, .int .i64 x.now.who, .bool x.now.own, .int .i64 x.acks, .sl 2 (enc eWait x.queue)] := rfl
theorem getD_eHome (o : Option GHome) : (Option.map eHome o).getD [.sl 1 [], .int .i64 0, .sl 1 [], .bool false, .int .i64 0, .bool false, .int .i64 0, .sl 2 []] = eHome (o.getD ⟨[], 0, [], false, ⟨0, false⟩, 0, []⟩) := by cases o <;> rfl
theorem set_eHome (xs : List GHome) (i : Nat) (list0 : List Int) (owner0 : Int) (readers0 : List Bool) (busy0 : Bool) (now_who0 : Int) (now_own0 : Bool) (acks0 : Int) (queue0 : List GWait) : (enc eHome xs).set i [.sl 1 (enc eI list0), .int .i64 owner0, .sl 1 (enc eB readers0), .bool busy0, .int .i64 now_who0, .bool now_own0, .int .i64 acks0, .sl 2 (enc eWait queue0)] = enc eHome (xs.set i (⟨list0, owner0, readers0, busy0, ⟨now_who0, now_own0⟩, acks0, queue0⟩ : GHome)) := enc_set eHome xs i (⟨list0, owner0, readers0, busy0, ⟨now_who0, now_own0⟩, acks0, queue0⟩ : GHome)
theorem snoc_eHome (xs : List GHome) (list0 : List Int) (owner0 : Int) (readers0 : List Bool) (busy0 : Bool) (now_who0 : Int) (now_own0 : Bool) (acks0 : Int) (queue0 : List GWait) : enc eHome xs ++ [[.sl 1 (enc eI list0), .int .i64 owner0, .sl 1 (enc eB readers0), .bool busy0, .int .i64 now_who0, .bool now_own0, .int .i64 acks0, .sl 2 (enc eWait queue0)]] = enc eHome (xs ++ [(⟨list0, owner0, readers0, busy0, ⟨now_who0, now_own0⟩, acks0, queue0⟩ : GHome)]) := enc_snoc eHome xs (⟨list0, owner0, readers0, busy0, ⟨now_who0, now_own0⟩, acks0, queue0⟩ : GHome)
theorem eta_Home (x : GHome) : (⟨x.list, x.owner, x.readers, x.busy, ⟨x.now.who, x.now.own⟩, x.acks, x.queue⟩ : GHome) = x := rfl
def GHome.ok (x : GHome) : Prop := (x.list.length ≤ 9223372036854775807 ∧ ∀ a ∈ x.list, -9223372036854775808 ≤ a ∧ a ≤ 9223372036854775807) ∧ (-9223372036854775808 ≤ x.owner ∧ x.owner ≤ 9223372036854775807) ∧ (x.readers.length ≤ 9223372036854775807 ∧ ∀ a ∈ x.readers, True) ∧ (True) ∧ (x.now.ok) ∧ (-9223372036854775808 ≤ x.acks ∧ x.acks ≤ 9223372036854775807) ∧ (x.queue.length ≤ 9223372036854775807 ∧ ∀ a ∈ x.queue, a.ok)
theorem eta_Told (x : GTold) : (⟨x.to, ⟨x.msg.kind, x.msg.page, x.msg.own, x.msg.list⟩⟩ : GTold) = x := rfl
def GTold.ok (x : GTold) : Prop := (-9223372036854775808 ≤ x.to ∧ x.to ≤ 9223372036854775807) ∧ (x.msg.ok)
def eNode (x : GNode) : List T := [.int .i64 x.id, .sl 3 (enc eFrame x.frames), .sl 8 (enc eHome x.homes), .sl 2 (enc eSender x.out), .sl 1 (enc eReceiver x.in_)]
theorem eNode_def (x : GNode) : eNode x = [.int .i64 x.id, .sl 3 (enc eFrame x.frames), .sl 8 (enc eHome x.homes), .sl 2 (enc eSender x.out), .sl 1 (enc eReceiver x.in_)] := rfl
theorem getD_eNode (o : Option GNode) : (Option.map eNode o).getD [.int .i64 0, .sl 3 [], .sl 8 [], .sl 2 [], .sl 1 []] = eNode (o.getD ⟨0, [], [], [], []⟩) := by cases o <;> rfl
theorem set_eNode (xs : List GNode) (i : Nat) (id0 : Int) (frames0 : List GFrame) (homes0 : List GHome) (out0 : List GSender) (in_0 : List GReceiver) : (enc eNode xs).set i [.int .i64 id0, .sl 3 (enc eFrame frames0), .sl 8 (enc eHome homes0), .sl 2 (enc eSender out0), .sl 1 (enc eReceiver in_0)] = enc eNode (xs.set i (⟨id0, frames0, homes0, out0, in_0⟩ : GNode)) := enc_set eNode xs i (⟨id0, frames0, homes0, out0, in_0⟩ : GNode)
theorem snoc_eNode (xs : List GNode) (id0 : Int) (frames0 : List GFrame) (homes0 : List GHome) (out0 : List GSender) (in_0 : List GReceiver) : enc eNode xs ++ [[.int .i64 id0, .sl 3 (enc eFrame frames0), .sl 8 (enc eHome homes0), .sl 2 (enc eSender out0), .sl 1 (enc eReceiver in_0)]] = enc eNode (xs ++ [(⟨id0, frames0, homes0, out0, in_0⟩ : GNode)]) := enc_snoc eNode xs (⟨id0, frames0, homes0, out0, in_0⟩ : GNode)
theorem eta_Node (x : GNode) : (⟨x.id, x.frames, x.homes, x.out, x.in_⟩ : GNode) = x := rfl
def GNode.ok (x : GNode) : Prop := (-9223372036854775808 ≤ x.id ∧ x.id ≤ 9223372036854775807) ∧ (x.frames.length ≤ 9223372036854775807 ∧ ∀ a ∈ x.frames, a.ok) ∧ (x.homes.length ≤ 9223372036854775807 ∧ ∀ a ∈ x.homes, a.ok) ∧ (x.out.length ≤ 9223372036854775807 ∧ ∀ a ∈ x.out, a.ok) ∧ (x.in_.length ≤ 9223372036854775807 ∧ ∀ a ∈ x.in_, a.ok)
def eWorld (x : GWorld) : List T := [.int .i64 x.size, .sl 5 (enc eNode x.nodes), .sl 8 (enc ePacket x.net)]
theorem eWorld_def (x : GWorld) : eWorld x = [.int .i64 x.size, .sl 5 (enc eNode x.nodes), .sl 8 (enc ePacket x.net)] := rfl
theorem getD_eWorld (o : Option GWorld) : (Option.map eWorld o).getD [.int .i64 0, .sl 5 [], .sl 8 []] = eWorld (o.getD ⟨0, [], []⟩) := by cases o <;> rfl
theorem set_eWorld (xs : List GWorld) (i : Nat) (size0 : Int) (nodes0 : List GNode) (net0 : List GPacket) : (enc eWorld xs).set i [.int .i64 size0, .sl 5 (enc eNode nodes0), .sl 8 (enc ePacket net0)] = enc eWorld (xs.set i (⟨size0, nodes0, net0⟩ : GWorld)) := enc_set eWorld xs i (⟨size0, nodes0, net0⟩ : GWorld)
theorem snoc_eWorld (xs : List GWorld) (size0 : Int) (nodes0 : List GNode) (net0 : List GPacket) : enc eWorld xs ++ [[.int .i64 size0, .sl 5 (enc eNode nodes0), .sl 8 (enc ePacket net0)]] = enc eWorld (xs ++ [(⟨size0, nodes0, net0⟩ : GWorld)]) := enc_snoc eWorld xs (⟨size0, nodes0, net0⟩ : GWorld)
theorem eta_World (x : GWorld) : (⟨x.size, x.nodes, x.net⟩ : GWorld) = x := rfl
def GWorld.ok (x : GWorld) : Prop := (-9223372036854775808 ≤ x.size ∧ x.size ≤ 9223372036854775807) ∧ (x.nodes.length ≤ 9223372036854775807 ∧ ∀ a ∈ x.nodes, a.ok) ∧ (x.net.length ≤ 9223372036854775807 ∧ ∀ a ∈ x.net, a.ok)
theorem eta_Deed (x : GDeed) : (⟨x.kind, x.a, x.b, x.c⟩ : GDeed) = x := rfl
def GDeed.ok (x : GDeed) : Prop := (-9223372036854775808 ≤ x.kind ∧ x.kind ≤ 9223372036854775807) ∧ (-9223372036854775808 ≤ x.a ∧ x.a ≤ 9223372036854775807) ∧ (-9223372036854775808 ≤ x.b ∧ x.b ≤ 9223372036854775807) ∧ (-9223372036854775808 ≤ x.c ∧ x.c ≤ 9223372036854775807)
def eIns (x : GIns) : List T := [.int .i64 x.op, .int .i64 x.r, .int .i64 x.a, .int .i64 x.b, .int .i64 x.n]
theorem eIns_def (x : GIns) : eIns x = [.int .i64 x.op, .int .i64 x.r, .int .i64 x.a, .int .i64 x.b, .int .i64 x.n] := rfl
theorem getD_eIns (o : Option GIns) : (Option.map eIns o).getD [.int .i64 0, .int .i64 0, .int .i64 0, .int .i64 0, .int .i64 0] = eIns (o.getD ⟨0, 0, 0, 0, 0⟩) := by cases o <;> rfl
theorem set_eIns (xs : List GIns) (i : Nat) (op0 : Int) (r0 : Int) (a0 : Int) (b0 : Int) (n0 : Int) : (enc eIns xs).set i [.int .i64 op0, .int .i64 r0, .int .i64 a0, .int .i64 b0, .int .i64 n0] = enc eIns (xs.set i (⟨op0, r0, a0, b0, n0⟩ : GIns)) := enc_set eIns xs i (⟨op0, r0, a0, b0, n0⟩ : GIns)
theorem snoc_eIns (xs : List GIns) (op0 : Int) (r0 : Int) (a0 : Int) (b0 : Int) (n0 : Int) : enc eIns xs ++ [[.int .i64 op0, .int .i64 r0, .int .i64 a0, .int .i64 b0, .int .i64 n0]] = enc eIns (xs ++ [(⟨op0, r0, a0, b0, n0⟩ : GIns)]) := enc_snoc eIns xs (⟨op0, r0, a0, b0, n0⟩ : GIns)
theorem eta_Ins (x : GIns) : (⟨x.op, x.r, x.a, x.b, x.n⟩ : GIns) = x := rfl
def GIns.ok (x : GIns) : Prop := (-9223372036854775808 ≤ x.op ∧ x.op ≤ 9223372036854775807) ∧ (-9223372036854775808 ≤ x.r ∧ x.r ≤ 9223372036854775807) ∧ (-9223372036854775808 ≤ x.a ∧ x.a ≤ 9223372036854775807) ∧ (-9223372036854775808 ≤ x.b ∧ x.b ≤ 9223372036854775807) ∧ (-9223372036854775808 ≤ x.n ∧ x.n ≤ 9223372036854775807)
def eHart (x : GHart) : List T := [.sl 1 (enc eI x.regs), .int .i64 x.pc, .int .i64 x.state]
theorem eHart_def (x : GHart) : eHart x = [.sl 1 (enc eI x.regs), .int .i64 x.pc, .int .i64 x.state] := rfl
theorem getD_eHart (o : Option GHart) : (Option.map eHart o).getD [.sl 1 [], .int .i64 0, .int .i64 0] = eHart (o.getD ⟨[], 0, 0⟩) := by cases o <;> rfl
theorem set_eHart (xs : List GHart) (i : Nat) (regs0 : List Int) (pc0 : Int) (state0 : Int) : (enc eHart xs).set i [.sl 1 (enc eI regs0), .int .i64 pc0, .int .i64 state0] = enc eHart (xs.set i (⟨regs0, pc0, state0⟩ : GHart)) := enc_set eHart xs i (⟨regs0, pc0, state0⟩ : GHart)
theorem snoc_eHart (xs : List GHart) (regs0 : List Int) (pc0 : Int) (state0 : Int) : enc eHart xs ++ [[.sl 1 (enc eI regs0), .int .i64 pc0, .int .i64 state0]] = enc eHart (xs ++ [(⟨regs0, pc0, state0⟩ : GHart)]) := enc_snoc eHart xs (⟨regs0, pc0, state0⟩ : GHart)
theorem eta_Hart (x : GHart) : (⟨x.regs, x.pc, x.state⟩ : GHart) = x := rfl
def GHart.ok (x : GHart) : Prop := (x.regs.length ≤ 9223372036854775807 ∧ ∀ a ∈ x.regs, -9223372036854775808 ≤ a ∧ a ≤ 9223372036854775807) ∧ (-9223372036854775808 ≤ x.pc ∧ x.pc ≤ 9223372036854775807) ∧ (-9223372036854775808 ≤ x.state ∧ x.state ≤ 9223372036854775807)
def eBlock (x : GBlock) : List T := [.int .i64 x.start, .sl 5 (enc eIns x.list)]
theorem eBlock_def (x : GBlock) : eBlock x = [.int .i64 x.start, .sl 5 (enc eIns x.list)] := rfl
theorem getD_eBlock (o : Option GBlock) : (Option.map eBlock o).getD [.int .i64 0, .sl 5 []] = eBlock (o.getD ⟨0, []⟩) := by cases o <;> rfl
theorem set_eBlock (xs : List GBlock) (i : Nat) (start0 : Int) (list0 : List GIns) : (enc eBlock xs).set i [.int .i64 start0, .sl 5 (enc eIns list0)] = enc eBlock (xs.set i (⟨start0, list0⟩ : GBlock)) := enc_set eBlock xs i (⟨start0, list0⟩ : GBlock)
theorem snoc_eBlock (xs : List GBlock) (start0 : Int) (list0 : List GIns) : enc eBlock xs ++ [[.int .i64 start0, .sl 5 (enc eIns list0)]] = enc eBlock (xs ++ [(⟨start0, list0⟩ : GBlock)]) := enc_snoc eBlock xs (⟨start0, list0⟩ : GBlock)
theorem eta_Block (x : GBlock) : (⟨x.start, x.list⟩ : GBlock) = x := rfl
def GBlock.ok (x : GBlock) : Prop := (-9223372036854775808 ≤ x.start ∧ x.start ≤ 9223372036854775807) ∧ (x.list.length ≤ 9223372036854775807 ∧ ∀ a ∈ x.list, a.ok)
def eCore (x : GCore) : List T := [.sl 1 (enc eI x.hart.regs), .int .i64 x.hart.pc, .int .i64 x.hart.state, .sl 2 (enc eBlock x.cache)]
theorem eCore_def (x : GCore) : eCore x = [.sl 1 (enc eI x.hart.regs), .int .i64 x.hart.pc, .int .i64 x.hart.state, .sl 2 (enc eBlock x.cache)] := rfl
theorem getD_eCore (o : Option GCore) : (Option.map eCore o).getD [.sl 1 [], .int .i64 0, .int .i64 0, .sl 2 []] = eCore (o.getD ⟨⟨[], 0, 0⟩, []⟩) := by cases o <;> rfl
theorem set_eCore (xs : List GCore) (i : Nat) (hart_regs0 : List Int) (hart_pc0 : Int) (hart_state0 : Int) (cache0 : List GBlock) : (enc eCore xs).set i [.sl 1 (enc eI hart_regs0), .int .i64 hart_pc0, .int .i64 hart_state0, .sl 2 (enc eBlock cache0)] = enc eCore (xs.set i (⟨⟨hart_regs0, hart_pc0, hart_state0⟩, cache0⟩ : GCore)) := enc_set eCore xs i (⟨⟨hart_regs0, hart_pc0, hart_state0⟩, cache0⟩ : GCore)
theorem snoc_eCore (xs : List GCore) (hart_regs0 : List Int) (hart_pc0 : Int) (hart_state0 : Int) (cache0 : List GBlock) : enc eCore xs ++ [[.sl 1 (enc eI hart_regs0), .int .i64 hart_pc0, .int .i64 hart_state0, .sl 2 (enc eBlock cache0)]] = enc eCore (xs ++ [(⟨⟨hart_regs0, hart_pc0, hart_state0⟩, cache0⟩ : GCore)]) := enc_snoc eCore xs (⟨⟨hart_regs0, hart_pc0, hart_state0⟩, cache0⟩ : GCore)
theorem eta_Core (x : GCore) : (⟨⟨x.hart.regs, x.hart.pc, x.hart.state⟩, x.cache⟩ : GCore) = x := rfl
def GCore.ok (x : GCore) : Prop := (x.hart.ok) ∧ (x.cache.length ≤ 9223372036854775807 ∧ ∀ a ∈ x.cache, a.ok)
def eFlock (x : GFlock) : List T := [.int .i64 x.world.size, .sl 5 (enc eNode x.world.nodes), .sl 8 (enc ePacket x.world.net), .sl 4 (enc eCore x.cores)]
theorem eFlock_def (x : GFlock) : eFlock x = [.int .i64 x.world.size, .sl 5 (enc eNode x.world.nodes), .sl 8 (enc ePacket x.world.net), .sl 4 (enc eCore x.cores)] := rfl
theorem getD_eFlock (o : Option GFlock) : (Option.map eFlock o).getD [.int .i64 0, .sl 5 [], .sl 8 [], .sl 4 []] = eFlock (o.getD ⟨⟨0, [], []⟩, []⟩) := by cases o <;> rfl
theorem set_eFlock (xs : List GFlock) (i : Nat) (world_size0 : Int) (world_nodes0 : List GNode) (world_net0 : List GPacket) (cores0 : List GCore) : (enc eFlock xs).set i [.int .i64 world_size0, .sl 5 (enc eNode world_nodes0), .sl 8 (enc ePacket world_net0), .sl 4 (enc eCore cores0)] = enc eFlock (xs.set i (⟨⟨world_size0, world_nodes0, world_net0⟩, cores0⟩ : GFlock)) := enc_set eFlock xs i (⟨⟨world_size0, world_nodes0, world_net0⟩, cores0⟩ : GFlock)
theorem snoc_eFlock (xs : List GFlock) (world_size0 : Int) (world_nodes0 : List GNode) (world_net0 : List GPacket) (cores0 : List GCore) : enc eFlock xs ++ [[.int .i64 world_size0, .sl 5 (enc eNode world_nodes0), .sl 8 (enc ePacket world_net0), .sl 4 (enc eCore cores0)]] = enc eFlock (xs ++ [(⟨⟨world_size0, world_nodes0, world_net0⟩, cores0⟩ : GFlock)]) := enc_snoc eFlock xs (⟨⟨world_size0, world_nodes0, world_net0⟩, cores0⟩ : GFlock)
theorem eta_Flock (x : GFlock) : (⟨⟨x.world.size, x.world.nodes, x.world.net⟩, x.cores⟩ : GFlock) = x := rfl
def GFlock.ok (x : GFlock) : Prop := (x.world.ok) ∧ (x.cores.length ≤ 9223372036854775807 ∧ ∀ a ∈ x.cores, a.ok)
def eEvent (x : GEvent) : List T := [.int .i64 x.who, .int .i64 x.pc, .int .i64 x.at_, .int .i64 x.got, .int .i64 x.put]
theorem eEvent_def (x : GEvent) : eEvent x = [.int .i64 x.who, .int .i64 x.pc, .int .i64 x.at_, .int .i64 x.got, .int .i64 x.put] := rfl
theorem getD_eEvent (o : Option GEvent) : (Option.map eEvent o).getD [.int .i64 0, .int .i64 0, .int .i64 0, .int .i64 0, .int .i64 0] = eEvent (o.getD ⟨0, 0, 0, 0, 0⟩) := by cases o <;> rfl
theorem rep_eEvent (n : Nat) : List.replicate n [.int .i64 0, .int .i64 0, .int .i64 0, .int .i64 0, .int .i64 0] = enc eEvent (List.replicate n ⟨0, 0, 0, 0, 0⟩) := enc_rep eEvent n ⟨0, 0, 0, 0, 0⟩
theorem set_eEvent (xs : List GEvent) (i : Nat) (who0 : Int) (pc0 : Int) (at_0 : Int) (got0 : Int) (put0 : Int) : (enc eEvent xs).set i [.int .i64 who0, .int .i64 pc0, .int .i64 at_0, .int .i64 got0, .int .i64 put0] = enc eEvent (xs.set i (⟨who0, pc0, at_0, got0, put0⟩ : GEvent)) := enc_set eEvent xs i (⟨who0, pc0, at_0, got0, put0⟩ : GEvent)
theorem snoc_eEvent (xs : List GEvent) (who0 : Int) (pc0 : Int) (at_0 : Int) (got0 : Int) (put0 : Int) : enc eEvent xs ++ [[.int .i64 who0, .int .i64 pc0, .int .i64 at_0, .int .i64 got0, .int .i64 put0]] = enc eEvent (xs ++ [(⟨who0, pc0, at_0, got0, put0⟩ : GEvent)]) := enc_snoc eEvent xs (⟨who0, pc0, at_0, got0, put0⟩ : GEvent)
theorem eta_Event (x : GEvent) : (⟨x.who, x.pc, x.at_, x.got, x.put⟩ : GEvent) = x := rfl
def GEvent.ok (x : GEvent) : Prop := (-9223372036854775808 ≤ x.who ∧ x.who ≤ 9223372036854775807) ∧ (-9223372036854775808 ≤ x.pc ∧ x.pc ≤ 9223372036854775807) ∧ (-9223372036854775808 ≤ x.at_ ∧ x.at_ ≤ 9223372036854775807) ∧ (-9223372036854775808 ≤ x.got ∧ x.got ≤ 9223372036854775807) ∧ (-9223372036854775808 ≤ x.put ∧ x.put ≤ 9223372036854775807)
theorem fits_Event {ts : List T} (h : FitsL [.int .i64, .int .i64, .int .i64, .int .i64, .int .i64] ts) : ∃ x : GEvent, ts = eEvent x ∧ x.ok := by
  obtain ⟨t_who, h_who, rfl, q_who, w0⟩ := fits_cons h
  obtain ⟨who0, rfl, b_who, c_who⟩ := fits_int q_who
  obtain ⟨t_pc, h_pc, rfl, q_pc, w1⟩ := fits_cons w0
  obtain ⟨pc0, rfl, b_pc, c_pc⟩ := fits_int q_pc
  obtain ⟨t_at_, h_at_, rfl, q_at_, w2⟩ := fits_cons w1
  obtain ⟨at_0, rfl, b_at_, c_at_⟩ := fits_int q_at_
  obtain ⟨t_got, h_got, rfl, q_got, w3⟩ := fits_cons w2
  obtain ⟨got0, rfl, b_got, c_got⟩ := fits_int q_got
  obtain ⟨t_put, h_put, rfl, q_put, w4⟩ := fits_cons w3
  obtain ⟨put0, rfl, b_put, c_put⟩ := fits_int q_put
  obtain rfl := fits_nil w4
  exact ⟨⟨who0, pc0, at_0, got0, put0⟩, rfl, ⟨b_who, c_who⟩, ⟨b_pc, c_pc⟩, ⟨b_at_, c_at_⟩, ⟨b_got, c_got⟩, ⟨b_put, c_put⟩⟩
theorem eta_Race (x : GRace) : (⟨x.i, x.k⟩ : GRace) = x := rfl
def GRace.ok (x : GRace) : Prop := (-9223372036854775808 ≤ x.i ∧ x.i ≤ 9223372036854775807) ∧ (-9223372036854775808 ≤ x.k ∧ x.k ≤ 9223372036854775807)
theorem fits_EventS {ts : List T} (h : FitsL [.sl 5 [.int .i64, .int .i64, .int .i64, .int .i64, .int .i64]] ts) : ∃ xs : List GEvent, ts = [.sl 5 (enc eEvent xs)] ∧ xs.length ≤ 9223372036854775807 ∧ ∀ a ∈ xs, a.ok := by
  obtain ⟨t, ts', rfl, h1, h2⟩ := fits_cons h
  obtain rfl := fits_nil h2
  obtain ⟨xs, rfl, h3, h4⟩ := fits_sl (e := eEvent) (Q := fun a : GEvent => a.ok) h1 fun ts h => fits_Event h
  exact ⟨xs, rfl, h3, h4⟩
attribute [go_sem] getD_eB set_eB snoc_eB eB_def getD_eU set_eU snoc_eU eU_def getD_eIS set_eIS snoc_eIS eIS_def getD_eMsg set_eMsg snoc_eMsg eMsg_def getD_eSender set_eSender snoc_eSender eSender_def getD_eReceiver set_eReceiver snoc_eReceiver eReceiver_def getD_ePacket set_ePacket snoc_ePacket ePacket_def getD_eFrame set_eFrame snoc_eFrame eFrame_def getD_eWait set_eWait snoc_eWait eWait_def getD_eHome set_eHome snoc_eHome eHome_def getD_eNode set_eNode snoc_eNode eNode_def getD_eWorld set_eWorld snoc_eWorld eWorld_def getD_eIns set_eIns snoc_eIns eIns_def getD_eHart set_eHart snoc_eHart eHart_def getD_eBlock set_eBlock snoc_eBlock eBlock_def getD_eCore set_eCore snoc_eCore eCore_def getD_eFlock set_eFlock snoc_eFlock eFlock_def getD_eEvent set_eEvent snoc_eEvent eEvent_def eta_Msg eta_Sender eta_Receiver eta_Packet eta_Frame eta_Wait eta_Home eta_Told eta_Node eta_World eta_Deed eta_Ins eta_Hart eta_Block eta_Core eta_Flock eta_Event eta_Race
end Go.Tw

namespace Go.Tw
def lenOf : L → Option Nat
  | .ref _ _ _ _ len => some len
  | .nil => some 0
  | _ => none
section
variable {P : Program} {w0 w w' : World} {Al : Blks} {N : Nat} {g : Gh} {σ : St} {a : Act} {K : Exit → St → Prop}
theorem nil_len (m : Mem w g σ) {l : L} {n : Nat} {v : Value} (hl : lenOf l = some n) (h : RepL w g σ l v) : ∃ oa cap, v = .slice oa n cap ∧ (oa = none → n = 0) := by
  cases l with
  | ref r p z off len =>
    simp only [lenOf, Option.some.injEq] at hl
    subst hl
    obtain ⟨row, es, u, h1, h2, h3, h4, h5⟩ := h
    obtain ⟨oa, k, cap, oa', rfl, rfl, h6⟩ := h5
    refine ⟨oa', _, rfl, fun e => ?_⟩
    subst e
    obtain ⟨u', hu', hr⟩ := m.at h1 h2
    rw [h3] at hu'
    cases hu'
    obtain ⟨hcap, hk⟩ := hr.cap_ge
    rcases h6 with h6 | h6
    · omega
    · cases oa with
      | some x => simp at h6
      | none => cases hr with | nils => simp at h4; omega
  | nil =>
    simp only [lenOf, Option.some.injEq] at hl
    subst hl
    obtain ⟨oa, rfl⟩ := h
    exact ⟨oa, 0, rfl, fun _ => rfl⟩
  | _ => simp [lenOf] at hl
theorem W_regNil {id x d1 d2 t te ty1 ty2 e : Nat} {ps1 ps2 : String} {af : Array Edge} {l : L} {n : Nat} (hu : (tyOf P t).u = .sl e) (hx : get σ.env x = some (true, .l l)) (hl : lenOf l = some n) (h1 : d1 < N) (h2 : d2 < N)
    (h : ∀ b : Bool, (b = true → n = 0) → K .normal ((σ.set (some d1) true (.l l)).set (some d2) true (.l (.t (.bool b))))) :
    W P N (.region id #[{ dst := some d1, op := .move (.tmp x), type := ty1, pos := ps1, after := #[], guard := none },
      { dst := some d2, op := .binOp .eql t (.tmp d1) (.const (.slice none 0 0)) te, type := ty2, pos := ps2, after := af, guard := none }] false) K σ := by
  intro w0 Al a w g R
  refine wp_region ?_
  have hu' : ∃ e', P.underlying t = some (.slice e') := by
    simp only [tyOf, uOf] at hu
    split at hu <;> simp_all
  obtain ⟨e', hu'⟩ := hu'
  have hxr := R.slots.yes x true _ hx rfl
  obtain ⟨oa, cap, hv, hnil⟩ := nil_len R.mem hl hxr
  have R1 := Rel.put (x := a.tmps.getD x undef) (d := some d1) (v := .l l) (c := true) R (fun t e => by cases e; exact h1) (fun _ => hxr) (fun e => by cases e)
  have ev : (a.put (some d1) (a.tmps.getD x undef)).eval (.tmp d1) = .slice oa n cap := by
    have hs : d1 < a.tmps.size := R.tsz ▸ h1
    rw [← hv]
    simp [Act.eval, Act.put, hs, Array.getD]
  have heq : ∀ w1 : World, (Go.binOp .eql t (.slice oa n cap) (.slice none 0 0)).run P w1 = .ok (.bool oa.isNone) w1 := by
    intro w1
    have hq : (Op.equal t (.slice oa n cap) (.slice none 0 0)).run P w1 = .ok oa.isNone w1 := by
      show (Op.equalIn (9999 + 1) t (.slice oa n cap) (.slice none 0 0)).run P w1 = _
      generalize 9999 = d
      simp only [Op.equalIn, Sem.run_bind, run_underlying hu', Result.andThen_ok]
      cases oa <;> simp [Sem.run_pure]
    show ((do pure (.bool (← Op.equal t (.slice oa n cap) (.slice none 0 0))) : Sem Value)).run P w1 = _
    simp only [Sem.run_bind, hq, Result.andThen_ok, Sem.run_pure]
  have R2 := Rel.put (x := .bool oa.isNone) (d := some d2) (v := .l (.t (.bool oa.isNone))) (c := true) R1 (fun t e => by cases e; exact h2) (fun _ => .bool) (fun e => by cases e)
  have hK := h oa.isNone (fun e => hnil (by simpa using e))
  have e0 : List.range (2 : Nat) = [0, 1] := rfl
  simp only [List.size_toArray, List.length_cons, List.length_nil, Nat.zero_add, Nat.reduceAdd, e0, wpOps, List.getElem?_toArray, List.getElem?_cons_zero, List.getElem?_cons_succ, Region.wanted, if_true]
  refine .inl ?_
  have q1 : (execOp a.eval { dst := some d1, op := .move (.tmp x), type := ty1, pos := ps1, after := #[], guard := none }).run P w = .ok (.value (a.tmps.getD x undef)) w := by simp [execOp, Act.eval]
  simp only [Oper.wp, q1, Oper.upon]
  refine .inl ?_
  have q2 : (execOp (a.put (some d1) (a.tmps.getD x undef)).eval { dst := some d2, op := .binOp .eql t (.tmp d1) (.const (.slice none 0 0)) te, type := ty2, pos := ps2, after := af, guard := none }).run P w = .ok (.value (.bool oa.isNone)) w := by
    have hg : (eqGuard .eql t (.tmp d1) (.const (.slice none 0 0)) (.slice oa n cap) (.slice none 0 0)).run P w = .ok () w := by simp [eqGuard]
    have e2 : (a.put (some d1) (a.tmps.getD x undef)).eval (.const (.slice none 0 0)) = .slice none 0 0 := rfl
    simp only [execOp, ev, e2, Sem.run_bind, hg, heq, Result.andThen_ok, Sem.run_pure]
  simp only [q2]
  exact ⟨_, _, R2, hK⟩
end
theorem flat_nil : Flat [] := by simp [Flat]
theorem flat_cons (x : List T) (xs : Els) : Flat (x :: xs) ↔ (∀ c ∈ x, c.flat = true) ∧ Flat xs := by simp [Flat]
theorem flat_app (xs ys : Els) : Flat (xs ++ ys) ↔ Flat xs ∧ Flat ys := by
  simp only [Flat, List.mem_append]
  exact ⟨fun h => ⟨fun x hx => h x (Or.inl hx), fun x hx => h x (Or.inr hx)⟩, fun h x hx => hx.elim (h.1 x) (h.2 x)⟩
theorem flat_enc {α : Type} {f : α → List T} (xs : List α) (h : ∀ x, (f x).all T.flat = true) : Flat (enc f xs) := by
  intro x hx c hc
  simp only [enc, List.mem_map] at hx
  obtain ⟨y, _, rfl⟩ := hx
  exact List.all_eq_true.1 (h y) c hc
theorem flat_eI (xs : List Int) : Flat (enc eI xs) := flat_enc xs fun _ => rfl
theorem flat_eB (xs : List Bool) : Flat (enc eB xs) := flat_enc xs fun _ => rfl
theorem flat_eU (xs : List Int) : Flat (enc eU xs) := flat_enc xs fun _ => rfl
theorem flat_eEvent (xs : List GEvent) : Flat (enc eEvent xs) := flat_enc xs fun _ => rfl
theorem flat_eIns (xs : List GIns) : Flat (enc eIns xs) := flat_enc xs fun _ => rfl
theorem flat_eWait (xs : List GWait) : Flat (enc eWait xs) := flat_enc xs fun _ => rfl
theorem flat_eReceiver (xs : List GReceiver) : Flat (enc eReceiver xs) := flat_enc xs fun _ => rfl
attribute [go_sem] appT appS partsL takeLss shareL shareLs shareLss flat_nil flat_cons flat_app flat_eI flat_eB flat_eU flat_eEvent flat_eIns flat_eWait flat_eReceiver T.flat lenOf
end Go.Tw

namespace Go.Tw
def BoxReads (w : World) (b : Nat) (ts : List T) : Prop := ∃ cs e fr, w.heap[b]? = some (.cells cs e fr) ∧ cs.size = ts.length ∧ ∀ (i : Nat) t, ts[i]? = some t → Rep w false (cs.getD i undef) t fun _ => True
def BoxesRead (w : World) : List Nat → List (List T) → Prop
  | [], [] => True
  | b :: bs, ts :: tss => BoxReads w b ts ∧ BoxesRead w bs tss
  | _, _ => False
def ptrU (b : Nat) : Value := .pointer (some ⟨b, 0, none⟩)
def PCb (P : Program) (f : FuncId) (args : List A) (caps : List (List T)) (res : List A) : Prop :=
  Ours P f ∧ ∀ w vs bs, Shapes args vs → (∀ (j : Nat) t v, (flatA args)[j]? = some t → (flatU vs)[j]? = some v → Rep w false v t fun _ => True) → BoxesRead w bs caps → Calls P f (vs ++ bs.map ptrU).toArray w fun
    | .returned r, w' => w.heap.size ≤ w'.heap.size ∧ (∀ b, b < w.heap.size → w'.heap[b]? = w.heap[b]?) ∧ w'.os = w.os ∧ w'.tape = w.tape ∧ w'.output = w.output ∧
        ∃ us, r = oneU us ∧ Shapes res us ∧ ∃ F : Nat → Blks, (∀ (j : Nat) t v, (flatA res)[j]? = some t → (flatU us)[j]? = some v → Rep w' true v t (F j)) ∧ (∀ j b, F j b → w.heap.size ≤ b) ∧ ∀ j j' b, F j b → F j' b → j = j'
    | _, _ => False
def capRows : Nat → List (List T) → List (Nat × Row)
  | _, [] => []
  | k, ts :: r => (k, ⟨.ro, ts.length, [ts]⟩) :: capRows (k + 1) r
def capVals : Nat → List (List T) → List V
  | _, [] => []
  | k, _ :: r => .l (.ept k [] 0 0 0) :: capVals (k + 1) r
def St.startB (args : List A) (caps : List (List T)) : St :=
  { env := paramsE 0 (valsN 0 args ++ capVals (flatA args).length caps), box := [], row := rowsN .ro 0 (flatA args) ++ capRows (flatA args).length caps, nxt := (flatA args).length + caps.length, sav := [] }
section
variable {P : Program} {w0 w w' : World} {Al : Blks} {N : Nat} {g : Gh} {σ σ' : St} {a : Act}
theorem get_capRows : ∀ (caps : List (List T)) (k n : Nat), get (capRows k caps) n = if k ≤ n then (caps[n - k]?).map fun ts => ⟨.ro, ts.length, [ts]⟩ else none
  | [], k, n => by simp [capRows, get]
  | ts :: r, k, n => by
    simp only [capRows, get]
    by_cases h : n = k
    · subst h; simp
    · rw [if_neg h, get_capRows r (k + 1) n]
      by_cases h1 : k + 1 ≤ n
      · rw [if_pos h1, if_pos (by omega)]
        have : n - k = (n - (k + 1)) + 1 := by omega
        rw [this]
        simp
      · rw [if_neg h1, if_neg (by omega)]
theorem boxes_len : ∀ {bs : List Nat} {caps : List (List T)}, BoxesRead w bs caps → bs.length = caps.length
  | [], [], _ => rfl
  | _ :: _, _ :: _, h => by simp [boxes_len h.2]
  | [], _ :: _, h => h.elim
  | _ :: _, [], h => h.elim
theorem boxes_get : ∀ {bs : List Nat} {caps : List (List T)}, BoxesRead w bs caps → ∀ {j : Nat} {ts : List T}, caps[j]? = some ts → ∃ b, bs[j]? = some b ∧ BoxReads w b ts
  | b :: _, _ :: _, h, 0, ts, e => by simp at e; subst e; exact ⟨b, rfl, h.1⟩
  | _ :: _, _ :: _, h, j + 1, ts, e => boxes_get h.2 (j := j) (by simpa using e)
  | [], [], _, _, _, e => by simp at e
  | [], _ :: _, h, _, _, _ => h.elim
  | _ :: _, [], h, _, _, _ => h.elim
theorem box_rep {b : Nat} {ts : List T} (h : BoxReads w b ts) : Rep w false (.slice (some ⟨b, 0, none⟩) 1 1) (.sl ts.length [ts]) fun _ => True := by
  obtain ⟨cs, e, fr, h1, h2, h3⟩ := h
  have key := Rep.sl (w := w) (o := false) (a := ⟨b, 0, none⟩) (cap := 1) (z := ts.length) (es := [ts]) (F := fun _ => True) (cs := cs) (fun _ _ _ => True)
    ⟨⟨e, fr, h1, fun h => by cases h⟩, rfl, by simp, by simp [h2], by simp⟩ trivial (fun _ _ _ _ => trivial) (fun h => by cases h) (fun h => by cases h) (fun i j x c hx hc => ?_)
  · exact key
  · have hi : i = 0 := by
      have := (List.getElem?_eq_some_iff.1 hx).1
      simp at this
      exact this
    subst hi
    simp at hx
    subst hx
    simpa using h3 j c hc
theorem capVals_rep : ∀ {caps : List (List T)} {bs : List Nat} {k : Nat}, bs.length = caps.length → (∀ (j : Nat) ts, caps[j]? = some ts → get σ.row (k + j) = some ⟨.ro, ts.length, [ts]⟩ ∧ ∃ b, bs[j]? = some b ∧ g.rw (k + j) = .slice (some ⟨b, 0, none⟩) 1 1) →
    RepVs w g σ (capVals k caps) (bs.map ptrU)
  | [], [], _, _, _ => trivial
  | ts :: caps, b :: bs, k, hl, h => by
    refine ⟨?_, capVals_rep (k := k + 1) (by simpa using hl) fun j ts' e => ?_⟩
    · obtain ⟨h1, b', h2, h3⟩ := h 0 ts rfl
      simp at h2
      subst h2
      refine ⟨_, ts.length, [ts], ⟨b, 0, none⟩, 1, 1, h1, rfl, ?_, by simp, rfl, by simp [ptrU]⟩
      simpa [valAt] using h3
    · obtain ⟨h1, b', h2, h3⟩ := h (j + 1) ts' (by simpa using e)
      refine ⟨by rw [show k + 1 + j = k + (j + 1) from by omega]; exact h1, b', by simpa using h2, by rw [show k + 1 + j = k + (j + 1) from by omega]; exact h3⟩
  | [], _ :: _, _, hl, _ => by simp at hl
  | _ :: _, [], _, hl, _ => by simp at hl
theorem PCb_of {f : FuncId} {fn : Func} {c : Code} {args res : List A} {caps : List (List T)} (hf : P.funcs[f]? = some fn) (hb : fn.body = some c) (hn : (fn.name == "runtime.NumGoroutine") = false) {n : Nat} (hnt : fn.ntmps = n) {rs : List ResultVar} (hrs : fn.results.toList = rs) (hl : args.length + caps.length ≤ n)
    (h : W P n c (OutN P rs res) (St.startB args caps)) : PCb P f args caps res := by
  subst hnt hrs
  refine ⟨⟨fn, hf, by simp [hb], hn⟩, fun w vs bs hsh hrep hbox => calls_of_wp hf hb ?_⟩
  let n0 := (flatA args).length
  let g : Gh := ⟨fun _ => 0, fun k => if k < n0 then (flatU vs).getD k undef else .slice (some ⟨bs.getD (k - n0) 0, 0, none⟩) 1 1, fun _ _ => False⟩
  have hfl := flatU_length hsh
  have hbl := boxes_len hbox
  have hrow : ∀ r row, get (St.startB args caps).row r = some row → row.pm = .ro ∧ ((r < n0 ∧ (flatA args)[r]? = some (.sl row.z row.es)) ∨ (n0 ≤ r ∧ ∃ ts, caps[r - n0]? = some ts ∧ row = ⟨.ro, ts.length, [ts]⟩)) := by
    intro r row hr
    simp only [St.startB, get_append, get_rowsN, get_capRows, Nat.zero_le, if_true, Nat.sub_zero] at hr
    by_cases hlt : r < n0
    · have h0 : ∃ t, (flatA args)[r]? = some t := ⟨_, List.getElem?_eq_getElem hlt⟩
      obtain ⟨t, ht⟩ := h0
      rw [ht] at hr
      rw [if_neg (by show ¬ n0 ≤ r; omega)] at hr
      cases t with
      | sl z es => simp at hr; subst hr; exact ⟨rfl, .inl ⟨hlt, ht⟩⟩
      | _ => simp at hr
    · rw [List.getElem?_eq_none (by show n0 ≤ r; omega), if_pos (by show n0 ≤ r; omega)] at hr
      cases hc : caps[r - (flatA args).length]? with
      | none => rw [hc] at hr; simp at hr
      | some ts => rw [hc] at hr; simp at hr; subst hr; exact ⟨rfl, .inr ⟨by omega, ts, rfl, rfl⟩⟩
  have hown : ∀ b, ¬ Owned g (St.startB args caps) b := by
    rintro b (⟨k, ls, h1, _⟩ | ⟨r, row, h1, h2, _⟩)
    · simp [St.startB, get] at h1
    · exact h2 (hrow r row h1).1
  have hvals1 : RepVs w g (St.startB args caps) (valsN 0 args) vs := by
    refine valsN_rep hsh fun j t v ht hv => ?_
    have hlt : j < n0 := (List.getElem?_eq_some_iff.1 ht).1
    refine leafN_rep (hrep j t v ht hv) fun z es e => ?_
    subst e
    refine ⟨⟨.ro, z, es⟩, ?_, rfl, rfl, ?_⟩
    · simp only [St.startB, get_append, get_rowsN, Nat.zero_le, if_true, Nat.zero_add, Nat.sub_zero, ht]
    · simp only [Nat.zero_add, g, hlt, if_true]
      simp [hv]
  have hvals2 : RepVs w g (St.startB args caps) (capVals n0 caps) (bs.map ptrU) := by
    refine capVals_rep hbl fun j ts e => ?_
    obtain ⟨b, hb1, _⟩ := boxes_get hbox e
    refine ⟨?_, b, hb1, ?_⟩
    · simp only [St.startB, get_append, get_rowsN, get_capRows, Nat.zero_le, if_true, Nat.sub_zero]
      rw [List.getElem?_eq_none (by show n0 ≤ n0 + j; omega)]
      show (if n0 ≤ n0 + j then _ else _) = _
      rw [if_pos (by omega), show n0 + j - (flatA args).length = j from by show n0 + j - n0 = j; omega, e]
      rfl
    · simp only [g]
      rw [if_neg (by omega), show n0 + j - n0 = j from by omega]
      simp [hb1]
  have hvals := hvals1.append hvals2
  have hlen := hvals.length
  have hal : args.length = vs.length := hsh.length
  have R : Rel w (fun _ => False) fn.ntmps (St.startB args caps) { tmps := (vs ++ bs.map ptrU).toArray ++ Array.replicate (fn.ntmps - (vs ++ bs.map ptrU).toArray.size) undef, defers := [] } w g := by
    refine ⟨⟨fun t c v hg hc => ?_, fun t c v hg hc => ?_⟩, paramsE_unq _ 0, ⟨?_, ?_, ?_, ?_, ?_, ?_, ?_, fun b hb => (hown b hb).elim⟩, fun b hb => (hown b hb).elim, fun _ _ _ => rfl, Nat.le_refl _, rfl, rfl, rfl, rfl, by simp; omega, fun x hx => by simp [St.startB] at hx⟩
    · obtain ⟨_, _, h3⟩ := get_paramsE _ 0 t c v hg
      obtain ⟨u, hu, hr⟩ := hvals.nth (j := t) (by simpa using h3)
      have hlt : t < (vs ++ bs.map ptrU).length := (List.getElem?_eq_some_iff.1 hu).1
      have : ((vs ++ bs.map ptrU).toArray ++ Array.replicate (fn.ntmps - (vs ++ bs.map ptrU).toArray.size) undef).getD t undef = u := by
        rw [Array.getD_eq_getD_getElem?, Array.getElem?_append_left (by simpa using hlt), List.getElem?_toArray, hu]
        rfl
      rw [this]
      exact hr
    · have := (get_paramsE _ 0 t c v hg).1
      rw [hc] at this
      cases this
    · intro k ls h; simp [St.startB, get] at h
    · intro r row h hp; rw [(hrow r row h).1] at hp; cases hp
    · intro r row h hp; rw [(hrow r row h).1] at hp; cases hp
    · intro r row h hp
      rcases (hrow r row h).2 with ⟨hlt, ht⟩ | ⟨hge, ts, hc, rfl⟩
      · have hlt2 : r < (flatU vs).length := by rw [hfl]; exact hlt
        have hv : (flatU vs)[r]? = some ((flatU vs).getD r undef) := by simp [List.getD_eq_getElem?_getD, List.getElem?_eq_getElem hlt2]
        have := (hrep r _ _ ht hv).mono fun b _ => hown b
        simp only [g, hlt, if_true]
        exact this
      · obtain ⟨b, hb1, hb2⟩ := boxes_get hbox hc
        have := (box_rep hb2).mono fun b _ => hown b
        simp only [g]
        rw [if_neg (by omega)]
        have e : bs.getD (r - n0) 0 = b := by simp [List.getD_eq_getElem?_getD, hb1]
        rw [e]
        exact this
    · intro k k' ls ls' h; simp [St.startB, get] at h
    · intro k ls r row h; simp [St.startB, get] at h
    · intro r r' row row' b h _ hp; exact absurd (hrow r row h).1 hp
  refine wp_mono (h w (fun _ => False) _ w g R) fun e a' w' ⟨σ', g', R', hK⟩ => ?_
  have fin : (match resV P σ' fn.results.toList with
    | some (c, vs) => c ∧ shapeVs res vs ∧ match takeLs σ' ((flatA res).map zOf) (vs.flatMap V.leaves) with
      | some (c', ts, _) => c' ∧ ts = flatA res
      | none => False
    | none => False) → a'.defers = [] ∧ ∃ v, (results fn a'.tmps).run P w' = .ok v w' ∧ (w.heap.size ≤ w'.heap.size ∧ (∀ b, b < w.heap.size → w'.heap[b]? = w.heap[b]?) ∧ w'.os = w.os ∧ w'.tape = w.tape ∧ w'.output = w.output ∧
        ∃ us, v = oneU us ∧ Shapes res us ∧ ∃ F : Nat → Blks, (∀ (j : Nat) t v, (flatA res)[j]? = some t → (flatU us)[j]? = some v → Rep w' true v t (F j)) ∧ (∀ j b, F j b → w.heap.size ≤ b) ∧ ∀ j j' b, F j b → F j' b → j = j') := by
    intro hK
    refine ⟨R'.dfr, ?_⟩
    split at hK
    · rename_i c vs' hres
      obtain ⟨hc, hsv, hK⟩ := hK
      split at hK
      · rename_i c' ts rs hts
        obtain ⟨hc', rfl⟩ := hK
        obtain ⟨us, hr, hus⟩ := resV_us R'.mem R'.slots hres hc
        obtain ⟨hS, hL⟩ := shapeVs_rep hsv hus
        obtain ⟨_, _, F, q1, q2, q3⟩ := takeLs_rep R'.mem hts hc' hL
        refine ⟨_, hr, R'.siz, fun b hb => R'.frm b hb (fun h => h), R'.os, R'.tape, R'.out, us, rfl, hS, F, q1, fun j b hb => ?_, q3⟩
        obtain ⟨r, row, _, h1, h2, h3⟩ := q2 j b hb
        rcases R'.own b (Or.inr ⟨r, row, h1, h2, h3⟩) with h | h
        · exact h
        · exact h.elim
      · exact hK.elim
    · exact hK.elim
  cases e with
  | normal => exact fin hK
  | ret => exact fin hK
  | _ => exact hK.elim
theorem PC.toB {f : FuncId} {args res : List A} (h : PC P f args res) : PCb P f args [] res :=
  ⟨h.1, fun w vs bs hsh hrep hbox => by
    cases bs with
    | nil =>
      rw [List.map_nil, List.append_nil]
      exact Calls.mono (h.2 w vs hsh hrep) fun e w' he => by cases e <;> exact he
    | cons => exact hbox.elim⟩
def capsDen (σ : St) : List Nat → List (List T) → Prop
  | [], [] => True
  | b :: bs, ts :: tss => (∃ ls, get σ.box b = some ls ∧ denLs σ ls ts) ∧ capsDen σ bs tss
  | _, _ => False
theorem capsDen_read (m : Mem w g σ) : ∀ {bs : List Nat} {caps : List (List T)}, capsDen σ bs caps → BoxesRead w (bs.map g.bx) caps
  | [], [], _ => trivial
  | b :: bs, ts :: caps, h => by
    obtain ⟨⟨ls, h1, h2⟩, h3⟩ := h
    refine ⟨?_, capsDen_read m h3⟩
    obtain ⟨cs, e, h4, h5⟩ := m.box b ls h1
    obtain ⟨h6, h7⟩ := denLs_rep m h5 h2
    refine ⟨cs, e, (0, 0), h4, by simpa using h6.symm, fun i t ht => ?_⟩
    have hi : i < cs.size := by have := (List.getElem?_eq_some_iff.1 ht).1; rw [h6] at this; simpa using this
    refine h7 i t _ ht ?_
    simp [Array.getD, hi]
  | [], _ :: _, h => h.elim
  | _ :: _, [], h => h.elim
theorem RepVs.split : ∀ {xs ys : List V} {us : List Value}, RepVs w g σ (xs ++ ys) us → ∃ us1 us2, us = us1 ++ us2 ∧ RepVs w g σ xs us1 ∧ RepVs w g σ ys us2
  | [], _, us, h => ⟨[], us, rfl, trivial, h⟩
  | _ :: xs, ys, u :: us, h => by
    obtain ⟨u1, u2, rfl, h1, h2⟩ := RepVs.split (xs := xs) h.2
    exact ⟨u :: u1, u2, rfl, ⟨h.1, h1⟩, h2⟩
  | _ :: _, _, [], h => h.elim
theorem ptrs_rep : ∀ {bs : List Nat} {us : List Value}, RepVs w g σ (bs.map fun b => .l (.ptr b 0)) us → us = (bs.map g.bx).map ptrU
  | [], [], _ => rfl
  | b :: bs, u :: us, h => by
    obtain ⟨h1, h2⟩ := h
    rw [ptrs_rep h2]
    have : u = ptrU (g.bx b) := h1.2
    rw [this]
    rfl
  | [], _ :: _, h => h.elim
  | _ :: _, [], h => h.elim
theorem CallW_pureB {f : FuncId} {args res : List A} {caps : List (List T)} {bs : List Nat} {vs : List V} {v : V} {K : St → V → Prop} (hpc : PCb P f args caps res) (hden : denVs σ vs args) (hcap : capsDen σ bs caps) (hv : oneV (valsN σ.nxt res) = some v)
    (hfr : ∀ j, j < (flatA res).length → get σ.row (σ.nxt + j) = none) (hK : K (σ.answer res) v) {k : Bool} : CallW P k f (vs ++ bs.map fun b => .l (.ptr b 0)) K σ := by
  refine ⟨hpc.1, fun w0 Al N a w g us R hus => ?_⟩
  obtain ⟨us1, us2, rfl, hus1, hus2⟩ := RepVs.split hus
  obtain rfl := ptrs_rep hus2
  obtain ⟨h1, h2⟩ := denVs_rep R.mem hus1 hden
  refine Calls.mono (hpc.2 w us1 _ h1 h2 (capsDen_read R.mem hcap)) fun e w' he => ?_
  cases e with
  | panicked => exact he
  | outgrown => exact he
  | returned r =>
    obtain ⟨hsiz, hold, hos, htape, hout, us', rfl, hsh, F, hF, hlo, hdis⟩ := he
    obtain ⟨g', hin, hrw⟩ := answer_in R.mem hfr hsh hF hlo hdis hsiz hold
    have R' := R.turn hin ⟨by rw [killE_no]; rfl, (killS_no _).symm⟩ hos htape hout
    refine ⟨σ.answer res, g', v, R', ?_, hK, fun _ => hold⟩
    refine oneV_unit hv (valsN_rep hsh fun j t u ht hu => leafN_rep (hF j t u ht hu) fun z es e => ?_)
    subst e
    have hj : j < (flatA res).length := (List.getElem?_eq_some_iff.1 ht).1
    refine ⟨⟨.own, z, es⟩, ?_, rfl, rfl, hrw j u hj hu⟩
    simp only [St.answer, get_append, get_rowsN, Nat.le_add_right, if_true, Nat.add_sub_cancel_left, ht]
def Quiet (P : Program) (f : FuncId) (vs : List V) (t : T) (σ : St) : Prop := ∀ K : St → V → Prop, K σ (.l (.t t)) → CallW P false f vs K σ
theorem denL_same {σ' : St} (hr : σ'.row = σ.row) (l : L) (t : T) : denL σ' l t = denL σ l t := by
  unfold denL nodeOf
  rw [hr]
theorem denLs_same {σ' : St} (hr : σ'.row = σ.row) : ∀ (ls : List L) (ts : List T), denLs σ' ls ts = denLs σ ls ts
  | [], [] => rfl
  | _ :: ls, _ :: ts => by simp only [denLs, denL_same hr, denLs_same hr ls ts]
  | [], _ :: _ => rfl
  | _ :: _, [] => rfl
theorem capsDen_same {σ' : St} (hb : σ'.box = σ.box) (hr : σ'.row = σ.row) : ∀ {bs : List Nat} {caps : List (List T)}, capsDen σ bs caps → capsDen σ' bs caps
  | [], [], _ => trivial
  | _ :: _, _ :: _, ⟨⟨ls, h1, h2⟩, h3⟩ => ⟨⟨ls, by rw [hb]; exact h1, by rw [denLs_same hr]; exact h2⟩, capsDen_same hb hr h3⟩
  | [], _ :: _, h => h.elim
  | _ :: _, [], h => h.elim
theorem CallW_num {k : Bool} {f : FuncId} {vs : List V} {t : T} {K : St → V → Prop} {n : Nat} (h : CallW P k f vs (fun σ' v => v = .l (.t t) ∧ K { σ' with nxt := n } v) σ) : CallW P k f vs K σ := by
  refine ⟨h.1, fun w0 Al N a w g us R hus => Calls.mono (h.2 w0 Al N a w g us R hus) fun e w' he => ?_⟩
  cases e with
  | panicked => exact he
  | outgrown => exact he
  | returned r =>
    obtain ⟨σ', g', v, R', hv, ⟨rfl, hK⟩, hk⟩ := he
    exact ⟨_, g', _, R'.num n, hv.same rfl rfl, hK, hk⟩
theorem quiet_pcb {f : FuncId} {args : List A} {caps : List (List T)} {bs : List Nat} {vs : List V} {t : T} (hpc : PCb P f args caps [(false, [t])]) (hden : denVs σ vs args) (hcap : capsDen σ bs caps) (hfr : σ.row.all (fun x => decide (x.1 < σ.nxt)) = true)
    (ht : (match t with | .sl .. | .hole => false | _ => true) = true) : Quiet P f (vs ++ bs.map fun b => .l (.ptr b 0)) t σ := by
  intro K hK
  have hlf : leafN σ.nxt t = .t t := by cases t <;> simp_all [leafN]
  have hrw : rowsN .own σ.nxt [t] = [] := by cases t <;> simp_all [rowsN]
  refine CallW_num (n := σ.nxt) (CallW_pureB (v := .l (.t t)) hpc hden hcap (by simp [valsN, oneV, hlf]) (fun _ _ => get_lt hfr _ (by omega)) ⟨rfl, ?_⟩)
  have : ({ σ.answer [(false, [t])] with nxt := σ.nxt } : St) = σ := by
    unfold St.answer
    simp only [flatA, List.flatMap_cons, List.flatMap_nil, List.append_nil, hrw, List.nil_append]
  rw [this]
  exact hK
theorem callG_quiet {f : FuncId} {vs : List V} {t : T} {c : Prop} {G : Bool} {d : Option Nat} {next : St → Prop} (h : G = true → Quiet P f vs t σ) (hc : G = true → c) (hK : next (σ.set d G (.l (.t t)))) : CallG P false f vs c G d next σ := by
  cases G with
  | true => exact callG_true (hc rfl) (h rfl _ hK)
  | false => exact ⟨σ, .l (.t t), (fun _ _ _ _ _ g R => ⟨g, R⟩), fun _ => hK, fun e => by cases e⟩
end
def idxOf {α : Type} (p : α → Bool) (xs : List α) : Int := match xs.findIdx? p with
  | some i => i
  | none => -1
theorem idxOf_none {α : Type} {p : α → Bool} {xs : List α} (h : ∀ j, (hj : j < xs.length) → p xs[j] = false) : idxOf p xs = -1 := by
  have : xs.findIdx? p = none := by
    rw [List.findIdx?_eq_none_iff]
    intro x hx
    obtain ⟨j, hj, rfl⟩ := List.getElem_of_mem hx
    exact h j hj
  simp [idxOf, this]
theorem idxOf_some {α : Type} {p : α → Bool} {xs : List α} {i : Nat} (h : ∀ j, (hj : j < xs.length) → j < i → p xs[j] = false) (hi : i < xs.length) (hp : p xs[i] = true) : idxOf p xs = i := by
  have : xs.findIdx? p = some i := by
    rw [List.findIdx?_eq_some_iff_getElem]
    exact ⟨hi, hp, fun j hj => by simp [h j (by omega) hj]⟩
  simp [idxOf, this]
theorem idxOf_any {α : Type} (p : α → Bool) (xs : List α) : decide (0 ≤ idxOf p xs) = xs.any p := by
  cases h : xs.findIdx? p with
  | none =>
    rw [List.findIdx?_eq_none_iff] at h
    have h2 : xs.findIdx? p = none := by rw [List.findIdx?_eq_none_iff]; exact h
    have : xs.any p = false := by simpa using h
    simp [idxOf, h2, this]
  | some i =>
    have h2 := h
    rw [List.findIdx?_eq_some_iff_getElem] at h
    obtain ⟨hi, hp, _⟩ := h
    have : xs.any p = true := List.any_eq_true.2 ⟨_, List.getElem_mem hi, hp⟩
    simp [idxOf, h2, this]
attribute [go_sem] St.startB capRows capVals capsDen
end Go.Tw

namespace Go.Tw
def markE (k : Int) : Nat → Int
  | 0 => k
  | n + 1 => IntKind.wrap .i64 (markE k n + 1)
def marks (k : Int) : Nat → List Int
  | 0 => []
  | n + 1 => marks k n ++ [markE k n]
theorem marks_length (k : Int) : ∀ n, (marks k n).length = n
  | 0 => rfl
  | n + 1 => by simp [marks, marks_length k n]
theorem marks_take (k : Int) (n : Nat) : (marks k n).take n = marks k n := List.take_of_length_le (by rw [marks_length]; exact Nat.le_refl _)
attribute [go_sem] marks_length marks_take
theorem marks_step2 (k : Int) (xs : List Int) (i : Nat) (h : i < xs.length) : marks k i ++ (xs.drop i).set 0 (markE k i) = marks k (i + 1) ++ xs.drop (i + 1) := by
  rw [List.drop_eq_getElem_cons h, List.set_cons_zero]
  simp [marks]
theorem marks_get (k : Int) : ∀ (n i : Nat), i < n → (marks k n)[i]? = some (markE k i)
  | n + 1, i, h => by
    simp only [marks]
    by_cases hi : i < n
    · rw [List.getElem?_append_left (by rw [marks_length]; exact hi)]
      exact marks_get k n i hi
    · obtain rfl : i = n := by omega
      rw [List.getElem?_append_right (by rw [marks_length]; exact Nat.le_refl _), marks_length]
      simp
theorem markE_pos : ∀ (k : Int) (n : Nat), 0 ≤ k → k + n ≤ 9223372036854775807 → markE k n = k + n
  | k, 0, _, _ => by simp [markE]
  | k, n + 1, h0, h => by
    simp only [markE]
    rw [markE_pos k n h0 (by omega), wrap_ok (by omega) (by omega)]
    omega
theorem fill_step {α : Type} (xs : List α) (d : α) (i : Nat) (h : i < xs.length) : (xs.take i ++ List.replicate (xs.length - i) d).set i xs[i] = xs.take (i + 1) ++ List.replicate (xs.length - (i + 1)) d := by
  have e : xs.length - i = (xs.length - (i + 1)) + 1 := by omega
  have l : (xs.take i).length = i := by simp; omega
  rw [e, List.replicate_succ, List.set_append_right _ _ (by omega), l, Nat.sub_self, List.set_cons_zero, ← List.take_append_getElem h, List.append_assoc]
  rfl
theorem eq_of_take {α : Type} {xs ys : List α} (hl : xs.length = ys.length) (h : xs.take xs.length = ys.take xs.length) : xs = ys := by
  rw [List.take_length, hl, List.take_length] at h
  exact h
theorem take_succ_eq {α : Type} {xs ys : List α} {i : Nat} (h : xs.take i = ys.take i) (h1 : i < xs.length) (h2 : i < ys.length) (he : xs[i] = ys[i]) : xs.take (i + 1) = ys.take (i + 1) := by
  rw [← List.take_append_getElem h1, ← List.take_append_getElem h2, h, he]
theorem ne_of_get {α : Type} {xs ys : List α} {i : Nat} (h1 : i < xs.length) (h2 : i < ys.length) (he : xs[i] ≠ ys[i]) : xs ≠ ys := fun e => by subst e; exact he rfl
theorem ne_of_len {α : Type} {xs ys : List α} (h : xs.length ≠ ys.length) : xs ≠ ys := fun e => h (by rw [e])
def upto {α : Type} (f : Nat → α) (xs : List α) (i : Nat) : List α := (List.range i).map f ++ xs.drop i
theorem upto_zero {α : Type} (f : Nat → α) (xs : List α) : upto f xs 0 = xs := by simp [upto]
theorem upto_len {α : Type} (f : Nat → α) (xs : List α) (i : Nat) (h : i ≤ xs.length) : (upto f xs i).length = xs.length := by simp [upto]; omega
theorem upto_step {α : Type} {f : Nat → α} {xs : List α} {i : Nat} {v : α} (h : i < xs.length) (hv : f i = v) : (upto f xs i).set i v = upto f xs (i + 1) := by
  subst hv
  unfold upto
  rw [List.set_append_right _ _ (by simp), List.length_map, List.length_range, Nat.sub_self, List.drop_eq_getElem_cons h, List.set_cons_zero, List.range_succ]
  simp
theorem upto_full {α : Type} (f : Nat → α) (xs : List α) : upto f xs xs.length = (List.range xs.length).map f := by simp [upto]
theorem upto_get {α : Type} (f : Nat → α) (xs : List α) {i : Nat} (h : i < xs.length) : (upto f xs i)[i]? = some xs[i] := by
  unfold upto
  rw [List.getElem?_append_right (by simp)]
  simp [h]
theorem markE_succ (k : Int) (n : Nat) : IntKind.wrap .i64 (markE k n + 1) = markE k (n + 1) := rfl
def mEvent (k : Int) (i : Nat) : GEvent := ⟨markE k (5 * i), markE k (5 * i + 1), markE k (5 * i + 2), markE k (5 * i + 3), markE k (5 * i + 4)⟩
def mIns (k : Int) (i : Nat) : GIns := ⟨markE k (5 * i), markE k (5 * i + 1), markE k (5 * i + 2), markE k (5 * i + 3), markE k (5 * i + 4)⟩
def joinAt (xs ys : List Int) (i : Nat) : Int := max (xs.getD i 0) (ys.getD i 0)
def clockJoin (xs ys : List Int) : List Int := if xs.length = ys.length then (List.range xs.length).map (joinAt xs ys) else xs
def szL (left : Int) (n : Nat) : Int := if left - n < 0 then -1 else left - n
theorem szL_pos {l : Int} {n : Nat} (h : decide (szL l n < 0) = false) : szL l n = l - n ∧ (n : Int) ≤ l ∧ 0 ≤ szL l n := by
  unfold szL at *
  split at h <;> simp_all <;> omega
def inR (x lo hi : Int) : Bool := decide (lo ≤ x) && decide (x ≤ hi)
end Go.Tw

namespace Go.Tw
end Go.Tw

namespace Go.Tw
theorem inR_iff (x lo hi : Int) : inR x lo hi = true ↔ lo ≤ x ∧ x ≤ hi := by simp [inR]
attribute [go_sem] inR_iff
def isW (x : Int) : Bool := inR x 0 65535
def wordsOk (xs : List Int) (n : Int) : Bool := decide ((xs.length : Int) = n) && xs.all isW
theorem wordsOk_any (xs : List Int) (n : Int) : (decide ((xs.length : Int) = n) && !(xs.any fun x => !(inR x 0 65535))) = wordsOk xs n := by
  unfold wordsOk isW
  congr 1
  induction xs with
  | nil => rfl
  | cons x xs ih => simp only [List.any_cons, List.all_cons, Bool.not_or, Bool.not_not, ih]
theorem wordsOk_false {xs : List Int} {n : Int} {i : Nat} (h : i < xs.length) (hw : isW xs[i] = false) : wordsOk xs n = false := by
  unfold wordsOk
  have : xs.all isW = false := by
    rw [List.all_eq_false]
    exact ⟨_, List.getElem_mem h, by simp [hw]⟩
  rw [this, Bool.and_false]
theorem wordsOk_all {xs : List Int} {n : Int} (h : ∀ j, (hj : j < xs.length) → isW xs[j] = true) : wordsOk xs n = decide ((xs.length : Int) = n) := by
  unfold wordsOk
  have : xs.all isW = true := by
    rw [List.all_eq_true]
    intro x hx
    obtain ⟨j, hj, rfl⟩ := List.getElem_of_mem hx
    exact h j hj
  rw [this, Bool.and_true]
end Go.Tw
namespace Go.Tw
end Go.Tw

namespace Go.Tw
def offL (c : Int) : Nat := if c = 82 then 1 else if c = 65 then 2 else if c = 66 then 3 else 4
theorem offL_cases (c : Int) : (c = 82 ∧ offL c = 1) ∨ (c = 65 ∧ offL c = 2) ∨ (c = 66 ∧ offL c = 3) ∨ ((c ≠ 82 ∧ c ≠ 65 ∧ c ≠ 66) ∧ offL c = 4) := by
  unfold offL
  by_cases h1 : c = 82
  · simp [h1]
  by_cases h2 : c = 65
  · simp [h2]
  by_cases h3 : c = 66
  · simp [h3]
  simp [h1, h2, h3]
end Go.Tw
namespace Go.Tw
def formS (op : Int) : ByteArray :=
  if op = 1 then ⟨#[82, 78]⟩ else if op = 2 ∨ op = 10 then ⟨#[82, 65, 66]⟩ else if op = 3 ∨ op = 4 then ⟨#[82, 65, 78]⟩ else if op = 5 then ⟨#[65, 66, 78]⟩
  else if op = 6 then ⟨#[82, 65, 66, 78]⟩ else if op = 7 then ⟨#[65, 78]⟩ else if op = 8 then ⟨#[78]⟩ else ⟨#[]⟩
def formOk (op : Int) : Bool := inR op 1 10
end Go.Tw
namespace Go.Tw
def fld (v most : Int) (has : Bool) : Bool := inR v 0 most && (has || decide (v = 0))
def hasR (op : Int) : Bool := decide (op = 1 ∨ op = 2 ∨ op = 3 ∨ op = 4 ∨ op = 6 ∨ op = 10)
def hasA (op : Int) : Bool := decide (op = 2 ∨ op = 3 ∨ op = 4 ∨ op = 5 ∨ op = 6 ∨ op = 7 ∨ op = 10)
def hasB (op : Int) : Bool := decide (op = 2 ∨ op = 5 ∨ op = 6 ∨ op = 10)
def hasN (op : Int) : Bool := decide (op = 1 ∨ op = 3 ∨ op = 4 ∨ op = 5 ∨ op = 6 ∨ op = 7 ∨ op = 8)
def insOk (x : GIns) : Bool := inR x.op 1 10 && fld x.r 3 (hasR x.op) && fld x.a 3 (hasA x.op) && fld x.b 3 (hasB x.op) && fld x.n 63 (hasN x.op)
def chr (s : ByteArray) (i : Nat) : Int := ((s.data.getD i 0).toNat : Int)
def upd1 (y x : GIns) (c : Int) : GIns := if c = 82 then { y with r := x.r } else if c = 65 then { y with a := x.a } else if c = 66 then { y with b := x.b } else { y with n := x.n }
def restN (s : ByteArray) (x : GIns) : Nat → GIns
  | 0 => ⟨x.op, 0, 0, 0, 0⟩
  | i + 1 => upd1 (restN s x i) x (chr s i)
end Go.Tw
namespace Go.Tw
theorem formS_size (op : Int) : (formS op).size ≤ 4 := by
  unfold formS
  by_cases h1 : op = 1
  · rw [if_pos h1]; decide
  rw [if_neg h1]
  by_cases h2 : op = 2 ∨ op = 10
  · rw [if_pos h2]; decide
  rw [if_neg h2]
  by_cases h3 : op = 3 ∨ op = 4
  · rw [if_pos h3]; decide
  rw [if_neg h3]
  by_cases h5 : op = 5
  · rw [if_pos h5]; decide
  rw [if_neg h5]
  by_cases h6 : op = 6
  · rw [if_pos h6]; decide
  rw [if_neg h6]
  by_cases h7 : op = 7
  · rw [if_pos h7]; decide
  rw [if_neg h7]
  by_cases h8 : op = 8
  · rw [if_pos h8]; decide
  rw [if_neg h8]
  decide
theorem insOk_rest (x : GIns) : (formOk x.op && decide (restN (formS x.op) x (formS x.op).size = x) && inR x.r 0 3 && inR x.a 0 3 && inR x.b 0 3 && inR x.n 0 63) = insOk x := by
  obtain ⟨op, r, a, b, n⟩ := x
  by_cases h : 1 ≤ op ∧ op ≤ 10
  · have h' : op = 1 ∨ op = 2 ∨ op = 3 ∨ op = 4 ∨ op = 5 ∨ op = 6 ∨ op = 7 ∨ op = 8 ∨ op = 9 ∨ op = 10 := by omega
    rcases h' with rfl | rfl | rfl | rfl | rfl | rfl | rfl | rfl | rfl | rfl <;>
    · rw [Bool.eq_iff_iff]
      simp [formOk, formS, restN, upd1, chr, insOk, fld, hasR, hasA, hasB, hasN, inR, ByteArray.size]
      try omega
  · have h1 : inR op 1 10 = false := by simp [inR]; omega
    simp [formOk, insOk, h1]
end Go.Tw

namespace Go.Tw
theorem tmod_pos {n k : Int} (h : 0 ≤ n) : n.tmod k = n % k := Int.tmod_eq_emod_of_nonneg h
theorem tdiv_pos {n k : Int} (h : 0 ≤ n) : n.tdiv k = n / k := Int.tdiv_eq_ediv_of_nonneg h
theorem tmod_neg {n k : Int} (h : n < 0) : n.tmod k = -((-n) % k) := by
  have := Int.neg_tmod (-n) k
  rw [Int.neg_neg] at this
  rw [this, tmod_pos (by omega)]
def addr (n : Int) : Int := n % 24
theorem tmod24 (n : Int) : -24 < n.tmod 24 ∧ n.tmod 24 < 24 ∧ (n.tmod 24) % 24 = n % 24 := by
  by_cases h : 0 ≤ n
  · rw [tmod_pos h]; omega
  · rw [tmod_neg (by omega)]; omega
theorem tmod65536 (n : Int) : -65536 < n.tmod 65536 ∧ n.tmod 65536 < 65536 ∧ (n.tmod 65536) % 65536 = n % 65536 := by
  by_cases h : 0 ≤ n
  · rw [tmod_pos h]; omega
  · rw [tmod_neg (by omega)]; omega
theorem addr_impl (n : Int) : (IntKind.wrap .i64 (n.tmod 24 + 24)).tmod 24 = addr n := by
  unfold addr
  have h := tmod24 n
  generalize n.tmod 24 = m at h ⊢
  rw [wrap_ok (by omega) (by omega), tmod_pos (by omega)]
  omega
theorem addr_spec_neg {n : Int} (h : n.tmod 24 < 0) : IntKind.wrap .i64 (n.tmod 24 + 24) = addr n := by
  unfold addr
  by_cases h0 : 0 ≤ n
  · rw [tmod_pos h0] at h; omega
  · rw [tmod_neg (by omega)] at h ⊢; rw [wrap_ok (by omega) (by omega)]; omega
theorem addr_spec_pos {n : Int} (h : ¬ n.tmod 24 < 0) : n.tmod 24 = addr n := by
  unfold addr
  by_cases h0 : 0 ≤ n
  · rw [tmod_pos h0]
  · rw [tmod_neg (by omega)] at h ⊢; omega
def word (n : Int) : Int := n % 65536
theorem word_impl (n : Int) : (IntKind.wrap .i64 (IntKind.wrap .i64 (n.tmod 65536 + 65535) + 1)).tmod 65536 = word n := by
  unfold word
  have h := tmod65536 n
  generalize n.tmod 65536 = m at h ⊢
  rw [wrap_ok (n := m + 65535) (by omega) (by omega), wrap_ok (by omega) (by omega), tmod_pos (by omega)]
  omega
theorem and_mask (n : Int) : (BitVec.ofInt 64 n &&& BitVec.ofInt 64 65535).toNat = (n % 65536).toNat := by
  rw [BitVec.toNat_and, show (BitVec.ofInt 64 65535).toNat = 2 ^ 16 - 1 from by decide, Nat.and_two_pow_sub_one_eq_mod, BitVec.toNat_ofInt]
  omega
theorem word_spec (n : Int) : IntKind.wrap .i64 ((BitVec.ofInt 64 n &&& BitVec.ofInt 64 65535).toNat : Int) = word n := by
  rw [and_mask, wrap_ok (by omega) (by omega)]
  unfold word
  omega
theorem word_spec2 (n : Int) : IntKind.wrap .i64 ((BitVec.ofInt 64 n &&& 65535#64).toNat : Int) = word n := by rw [← word_spec n]; rfl
def hasBits (op : Int) : Int := if op = 1 then 9 else if op = 2 then 7 else if op = 3 then 11 else if op = 4 then 11 else if op = 5 then 14 else if op = 6 then 15 else if op = 7 then 10 else if op = 8 then 8 else if op = 10 then 7 else 0
def bitN (h k : Int) : Bool := decide (IntKind.wrap .i64 ((BitVec.ofInt 64 h &&& BitVec.ofInt 64 k).toNat : Int) ≠ 0)
theorem bit1 (h : Int) : (IntKind.wrap .i64 ((BitVec.ofInt 64 h &&& 1#64).toNat : Int) != 0) = bitN h 1 := by
  rw [show (1#64 : BitVec 64) = BitVec.ofInt 64 1 from rfl]
  unfold bitN
  by_cases q : IntKind.wrap .i64 ((BitVec.ofInt 64 h &&& BitVec.ofInt 64 1).toNat : Int) = 0
  · rw [q]; rfl
  · rw [decide_eq_true q]; simpa using q
theorem bit2 (h : Int) : (IntKind.wrap .i64 ((BitVec.ofInt 64 h &&& 2#64).toNat : Int) != 0) = bitN h 2 := by
  rw [show (2#64 : BitVec 64) = BitVec.ofInt 64 2 from rfl]
  unfold bitN
  by_cases q : IntKind.wrap .i64 ((BitVec.ofInt 64 h &&& BitVec.ofInt 64 2).toNat : Int) = 0
  · rw [q]; rfl
  · rw [decide_eq_true q]; simpa using q
theorem bit4 (h : Int) : (IntKind.wrap .i64 ((BitVec.ofInt 64 h &&& 4#64).toNat : Int) != 0) = bitN h 4 := by
  rw [show (4#64 : BitVec 64) = BitVec.ofInt 64 4 from rfl]
  unfold bitN
  by_cases q : IntKind.wrap .i64 ((BitVec.ofInt 64 h &&& BitVec.ofInt 64 4).toNat : Int) = 0
  · rw [q]; rfl
  · rw [decide_eq_true q]; simpa using q
theorem bit8 (h : Int) : (IntKind.wrap .i64 ((BitVec.ofInt 64 h &&& 8#64).toNat : Int) != 0) = bitN h 8 := by
  rw [show (8#64 : BitVec 64) = BitVec.ofInt 64 8 from rfl]
  unfold bitN
  by_cases q : IntKind.wrap .i64 ((BitVec.ofInt 64 h &&& BitVec.ofInt 64 8).toNat : Int) = 0
  · rw [q]; rfl
  · rw [decide_eq_true q]; simpa using q
theorem insOk_bits (x : GIns) : (inR x.op 1 10 && fld x.r 3 (bitN (hasBits x.op) 1) && fld x.a 3 (bitN (hasBits x.op) 2) && fld x.b 3 (bitN (hasBits x.op) 4) && fld x.n 63 (bitN (hasBits x.op) 8)) = insOk x := by
  obtain ⟨op, r, a, b, n⟩ := x
  by_cases h : 1 ≤ op ∧ op ≤ 10
  · have h' : op = 1 ∨ op = 2 ∨ op = 3 ∨ op = 4 ∨ op = 5 ∨ op = 6 ∨ op = 7 ∨ op = 8 ∨ op = 9 ∨ op = 10 := by omega
    have e1 : bitN (hasBits op) 1 = hasR op := by rcases h' with rfl | rfl | rfl | rfl | rfl | rfl | rfl | rfl | rfl | rfl <;> decide
    have e2 : bitN (hasBits op) 2 = hasA op := by rcases h' with rfl | rfl | rfl | rfl | rfl | rfl | rfl | rfl | rfl | rfl <;> decide
    have e3 : bitN (hasBits op) 4 = hasB op := by rcases h' with rfl | rfl | rfl | rfl | rfl | rfl | rfl | rfl | rfl | rfl <;> decide
    have e4 : bitN (hasBits op) 8 = hasN op := by rcases h' with rfl | rfl | rfl | rfl | rfl | rfl | rfl | rfl | rfl | rfl <;> decide
    simp only [e1, e2, e3, e4, insOk]
  · have h1 : inR op 1 10 = false := by simp [inR]; omega
    simp [insOk, h1]
def decIns (w : Int) : GIns := ⟨w % 16, w / 16 % 4, w / 64 % 4, w / 256 % 4, w / 1024⟩
def decOk (w : Int) : Bool := isW w && insOk (decIns w)
def decode (w : Int) : GIns := if decOk w = true then decIns w else ⟨0, 0, 0, 0, 0⟩
def aims (x : GIns) : Bool := decide (x.op = 4 ∨ x.op = 5 ∨ x.op = 6)
def target (x : GIns) (regs : List Int) : Int := if insOk x = true ∧ aims x = true ∧ regs.length = 4 then addr (IntKind.wrap .i64 (regs.getD x.a.toNat 0 + x.n)) else -1
def hartOk (h : GHart) : Bool := wordsOk h.regs 4 && inR h.pc 0 23 && inR h.state 0 2
def goes (h : GHart) : Bool := hartOk h && decide (h.state = 0)
end Go.Tw

namespace Go.Tw
def work (h : GHart) (x : GIns) (got : Int) : GHart × Int :=
  if hartOk h = true ∧ h.state = 0 ∧ isW got = true then
    if insOk x = true then
      if x.op = 1 then (⟨h.regs.set x.r.toNat x.n, addr (h.pc + 1), 0⟩, -1)
      else if x.op = 2 then (⟨h.regs.set x.r.toNat (word (h.regs.getD x.a.toNat 0 + h.regs.getD x.b.toNat 0)), addr (h.pc + 1), 0⟩, -1)
      else if x.op = 10 then (⟨h.regs.set x.r.toNat (word (h.regs.getD x.a.toNat 0 - h.regs.getD x.b.toNat 0)), addr (h.pc + 1), 0⟩, -1)
      else if x.op = 3 then (⟨h.regs.set x.r.toNat (word (h.regs.getD x.a.toNat 0 + x.n)), addr (h.pc + 1), 0⟩, -1)
      else if x.op = 4 then (⟨h.regs.set x.r.toNat got, addr (h.pc + 1), 0⟩, -1)
      else if x.op = 5 then (⟨h.regs, addr (h.pc + 1), 0⟩, h.regs.getD x.b.toNat 0)
      else if x.op = 6 then (⟨h.regs.set x.r.toNat got, addr (h.pc + 1), 0⟩, word (got + h.regs.getD x.b.toNat 0))
      else if x.op = 7 then (⟨h.regs, if h.regs.getD x.a.toNat 0 = 0 then addr x.n else addr (h.pc + 1), 0⟩, -1)
      else if x.op = 8 then (⟨h.regs, addr x.n, 0⟩, -1)
      else (⟨h.regs, h.pc, 1⟩, -1)
    else (⟨h.regs, h.pc, 2⟩, -1)
  else (h, -1)
end Go.Tw

namespace Go.Tw
def eventOf (mem : List Int) (h : GHart) (who : Int) : GEvent :=
  if target (decode (mem.getD h.pc.toNat 0)) h.regs < 0 then ⟨who, h.pc, target (decode (mem.getD h.pc.toNat 0)) h.regs, -1, -1⟩
  else ⟨who, h.pc, target (decode (mem.getD h.pc.toNat 0)) h.regs, if (decode (mem.getD h.pc.toNat 0)).op = 5 then -1 else mem.getD (target (decode (mem.getD h.pc.toNat 0)) h.regs).toNat 0,
    (work h (decode (mem.getD h.pc.toNat 0)) (mem.getD (target (decode (mem.getD h.pc.toNat 0)) h.regs).toNat 0)).2⟩
def evOk (mem : List Int) (h : GHart) : Bool := wordsOk mem 24 && goes h
end Go.Tw

namespace Go.Tw
theorem mem_le_sum {α : Type} {f : α → Nat} : ∀ {xs : List α} {a : α}, a ∈ xs → f a ≤ (xs.map f).sum
  | x :: xs, a, h => by
    simp only [List.map_cons, List.sum_cons]
    rcases List.mem_cons.1 h with rfl | h
    · omega
    · have := mem_le_sum (f := f) h
      omega
def GMsg.tot (x : GMsg) : Nat := x.list.length
def GMsg.small (x : GMsg) : Prop := (x.list.length ≤ 1048576)
theorem GMsg.small_of (x : GMsg) (h : x.tot ≤ 1048576) : x.small := by
  unfold GMsg.tot at h
  unfold GMsg.small
  exact by omega
def GSender.tot (x : GSender) : Nat := x.queue.length + (x.queue.map fun a => a.tot).sum
def GSender.small (x : GSender) : Prop := (x.queue.length ≤ 1048576) ∧ (∀ a ∈ x.queue, a.small)
theorem GSender.small_of (x : GSender) (h : x.tot ≤ 1048576) : x.small := by
  unfold GSender.tot at h
  unfold GSender.small
  exact ⟨by omega, fun a ha => GMsg.small_of a (by have := mem_le_sum (f := fun a : GMsg => a.tot) ha; omega)⟩
def GPacket.tot (x : GPacket) : Nat := x.msg.tot
def GPacket.small (x : GPacket) : Prop := (x.msg.small)
theorem GPacket.small_of (x : GPacket) (h : x.tot ≤ 1048576) : x.small := by
  unfold GPacket.tot at h
  unfold GPacket.small
  exact GMsg.small_of _ (by omega)
def GFrame.tot (x : GFrame) : Nat := x.list.length
def GFrame.small (x : GFrame) : Prop := (x.list.length ≤ 1048576)
theorem GFrame.small_of (x : GFrame) (h : x.tot ≤ 1048576) : x.small := by
  unfold GFrame.tot at h
  unfold GFrame.small
  exact by omega
def GHome.tot (x : GHome) : Nat := x.list.length + x.readers.length + x.queue.length
def GHome.small (x : GHome) : Prop := (x.list.length ≤ 1048576) ∧ (x.readers.length ≤ 1048576) ∧ (x.queue.length ≤ 1048576)
theorem GHome.small_of (x : GHome) (h : x.tot ≤ 1048576) : x.small := by
  unfold GHome.tot at h
  unfold GHome.small
  exact ⟨by omega, by omega, by omega⟩
def GTold.tot (x : GTold) : Nat := x.msg.tot
def GTold.small (x : GTold) : Prop := (x.msg.small)
theorem GTold.small_of (x : GTold) (h : x.tot ≤ 1048576) : x.small := by
  unfold GTold.tot at h
  unfold GTold.small
  exact GMsg.small_of _ (by omega)
def GNode.tot (x : GNode) : Nat := x.frames.length + (x.frames.map fun a => a.tot).sum + x.homes.length + (x.homes.map fun a => a.tot).sum + x.out.length + (x.out.map fun a => a.tot).sum + x.in_.length
def GNode.small (x : GNode) : Prop := (x.frames.length ≤ 1048576) ∧ (∀ a ∈ x.frames, a.small) ∧ (x.homes.length ≤ 1048576) ∧ (∀ a ∈ x.homes, a.small) ∧ (x.out.length ≤ 1048576) ∧ (∀ a ∈ x.out, a.small) ∧ (x.in_.length ≤ 1048576)
theorem GNode.small_of (x : GNode) (h : x.tot ≤ 1048576) : x.small := by
  unfold GNode.tot at h
  unfold GNode.small
  exact ⟨by omega, fun a ha => GFrame.small_of a (by have := mem_le_sum (f := fun a : GFrame => a.tot) ha; omega), by omega, fun a ha => GHome.small_of a (by have := mem_le_sum (f := fun a : GHome => a.tot) ha; omega), by omega, fun a ha => GSender.small_of a (by have := mem_le_sum (f := fun a : GSender => a.tot) ha; omega), by omega⟩
def GWorld.tot (x : GWorld) : Nat := x.nodes.length + (x.nodes.map fun a => a.tot).sum + x.net.length + (x.net.map fun a => a.tot).sum
def GWorld.small (x : GWorld) : Prop := (x.nodes.length ≤ 1048576) ∧ (∀ a ∈ x.nodes, a.small) ∧ (x.net.length ≤ 1048576) ∧ (∀ a ∈ x.net, a.small)
theorem GWorld.small_of (x : GWorld) (h : x.tot ≤ 1048576) : x.small := by
  unfold GWorld.tot at h
  unfold GWorld.small
  exact ⟨by omega, fun a ha => GNode.small_of a (by have := mem_le_sum (f := fun a : GNode => a.tot) ha; omega), by omega, fun a ha => GPacket.small_of a (by have := mem_le_sum (f := fun a : GPacket => a.tot) ha; omega)⟩
def GHart.tot (x : GHart) : Nat := x.regs.length
def GHart.small (x : GHart) : Prop := (x.regs.length ≤ 1048576)
theorem GHart.small_of (x : GHart) (h : x.tot ≤ 1048576) : x.small := by
  unfold GHart.tot at h
  unfold GHart.small
  exact by omega
def GBlock.tot (x : GBlock) : Nat := x.list.length
def GBlock.small (x : GBlock) : Prop := (x.list.length ≤ 1048576)
theorem GBlock.small_of (x : GBlock) (h : x.tot ≤ 1048576) : x.small := by
  unfold GBlock.tot at h
  unfold GBlock.small
  exact by omega
def GCore.tot (x : GCore) : Nat := x.hart.tot + x.cache.length + (x.cache.map fun a => a.tot).sum
def GCore.small (x : GCore) : Prop := (x.hart.small) ∧ (x.cache.length ≤ 1048576) ∧ (∀ a ∈ x.cache, a.small)
theorem GCore.small_of (x : GCore) (h : x.tot ≤ 1048576) : x.small := by
  unfold GCore.tot at h
  unfold GCore.small
  exact ⟨GHart.small_of _ (by omega), by omega, fun a ha => GBlock.small_of a (by have := mem_le_sum (f := fun a : GBlock => a.tot) ha; omega)⟩
def GFlock.tot (x : GFlock) : Nat := x.world.tot + x.cores.length + (x.cores.map fun a => a.tot).sum
def GFlock.small (x : GFlock) : Prop := (x.world.small) ∧ (x.cores.length ≤ 1048576) ∧ (∀ a ∈ x.cores, a.small)
theorem GFlock.small_of (x : GFlock) (h : x.tot ≤ 1048576) : x.small := by
  unfold GFlock.tot at h
  unfold GFlock.small
  exact ⟨GWorld.small_of _ (by omega), by omega, fun a ha => GCore.small_of a (by have := mem_le_sum (f := fun a : GCore => a.tot) ha; omega)⟩
end Go.Tw

namespace Go.Tw
def sumTo {α : Type} (f : α → Nat) (xs : List α) (i : Nat) : Nat := ((xs.take i).map f).sum
theorem sumTo_zero {α : Type} (f : α → Nat) (xs : List α) : sumTo f xs 0 = 0 := rfl
theorem sumTo_succ {α : Type} (f : α → Nat) {xs : List α} {i : Nat} (h : i < xs.length) : sumTo f xs (i + 1) = sumTo f xs i + f xs[i] := by
  unfold sumTo
  rw [← List.take_append_getElem h, List.map_append, List.sum_append]
  simp
theorem sumTo_full {α : Type} (f : α → Nat) (xs : List α) : sumTo f xs xs.length = (xs.map f).sum := by simp [sumTo]
theorem sumTo_rest {α : Type} (f : α → Nat) (xs : List α) (i : Nat) : ∃ m, (xs.map f).sum = sumTo f xs i + m := by
  refine ⟨((xs.drop i).map f).sum, ?_⟩
  unfold sumTo
  rw [← List.sum_append, ← List.map_append, List.take_append_drop]
end Go.Tw

