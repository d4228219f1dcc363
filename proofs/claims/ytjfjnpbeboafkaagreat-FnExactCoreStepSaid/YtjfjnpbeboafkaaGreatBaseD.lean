/- The layer: trees, states, rules; plain functions. -/
import Derived.Test.YtjfjnpbeboafkaaGreatBaseC
set_option linter.unusedSimpArgs false
set_option linter.unusedVariables false
set_option linter.unnecessarySimpa false
namespace Go.Tw
open Go.ChangeShapes Go.WideShapes Go.RowKit
def tdArg (P : Program) (t : TypeId) : Option (Bool × List TD) := (tdOf P 12 t).map fun l => (isAggD (P.underlying t), l)
def FitsA : List (Bool × List TD) → List A → Prop
  | [], [] => True
  | d :: ds, x :: xs => (x.1 = d.1 ∧ FitsL d.2 x.2) ∧ FitsA ds xs
  | _, _ => False
def rowOk (P : Program) (t : TypeId) : Bool := P.readableRec t && decide (t < P.types.size)
section
variable {H : Type} {enc : TypeId × Value → H} {P : Program} {w : World}
theorem tdOf_one {n : Nat} {t : TypeId} {l : List TD} (h : tdOf P n t = some l) (ha : isAggD (P.underlying t) = false) : l.length = 1 := by
  cases n with
  | zero => cases h
  | succ n =>
    simp only [tdOf] at h
    split at h
    · cases h; rfl
    · cases h; rfl
    · cases h; rfl
    · simp only [Option.bind_eq_some_iff] at h
      obtain ⟨_, _, h⟩ := h
      split at h
      · cases h; rfl
      · cases h
    · rename_i hu
      rw [hu] at ha
      cases ha
    · cases h
theorem arg_reads {t : TypeId} {v : Value} {d : DataW H} {ps : List MemPlace} {td : Bool × List TD} (ht : tdArg P t = some td) (h : DataW.Trod enc P w 0 (fun _ => true) true t v d ps)
    {base : Nat} (hok : Value.okWide P w .any base t v) : ∃ ts, FitsL td.2 ts ∧ ShapeV (td.1, ts) v ∧ ts.length = v.cells.toList.length ∧ ∀ (j : Nat) t u, ts[j]? = some t → v.cells.toList[j]? = some u → Rep w false u t fun _ => True := by
  simp only [tdArg, Option.map_eq_some_iff] at ht
  obtain ⟨l, hl, rfl⟩ := ht
  obtain ⟨fuel, hf⟩ := h
  obtain ⟨ts, R⟩ := tree_of 12 t l hl fuel _ _ hf
  refine ⟨ts, R.fits, ?_, by rw [R.fits.len, R.len], R.rep⟩
  unfold ShapeV
  cases ha : isAggD (P.underlying t) with
  | true =>
    simp only [if_true]
    unfold Value.okWide at hok
    unfold isAggD at ha
    split at ha
    · rename_i hu
      rw [hu] at hok
      obtain ⟨cs, rfl, h1, _⟩ := hok
      refine ⟨cs.toList, rfl, ?_⟩
      have := R.len
      simp [Value.cells] at this
      simp [R.fits.len, this]
    · rename_i hu
      rw [hu] at hok
      obtain ⟨cs, rfl, h1, _⟩ := hok
      refine ⟨cs.toList, rfl, ?_⟩
      have := R.len
      simp [Value.cells] at this
      simp [R.fits.len, this]
    · cases ha
  | false =>
    simp only [Bool.false_eq_true, if_false]
    have h1 := tdOf_one hl ha
    have h2 := R.len
    rw [h1] at h2
    have h3 := R.fits.len
    rw [h1] at h3
    refine ⟨h3, ?_⟩
    match hc : v.cells.toList, h2 with
    | [u], _ =>
      have h4 := R.rep 0 (ts[0]'(by omega)) u (by simp) (by rw [hc]; rfl)
      have h5 := h4.one
      cases v with
      | agg cs =>
        unfold Value.okWide at hok
        unfold isAggD at ha
        split at ha
        · cases ha
        · cases ha
        · rename_i n1 n2
          split at hok
          · rename_i fs hu
            exact absurd hu (n1 fs)
          · rename_i k e hu
            exact absurd hu (n2 k e)
          · unfold Cell.okWide at hok
            split at hok <;> simp_all [Cell.ok]
      | _ => simp [Value.cells] at hc; subst hc; exact h5
theorem args_reads {base : Nat} : ∀ (ts : List TypeId) (tds : List (Bool × List TD)), ts.mapM (tdArg P) = some tds → ∀ (vs : List Value) (ds : List (DataW H)) (ps : List MemPlace), DataW.TrodAll enc P w 0 (fun _ => true) true ts vs ds ps →
    (∀ (j : Nat) t v, ts[j]? = some t → vs[j]? = some v → Value.okWide P w .any base t v) →
    ∃ args : List A, FitsA tds args ∧ Shapes args vs ∧ (flatA args).length = (flatU vs).length ∧ ∀ (j : Nat) t u, (flatA args)[j]? = some t → (flatU vs)[j]? = some u → Rep w false u t fun _ => True
  | [], tds, h, vs, ds, ps, hT, _ => by
    simp at h
    subst h
    obtain ⟨rfl, rfl, rfl⟩ := trodAll_nil hT
    exact ⟨[], trivial, trivial, rfl, fun j t u h => by simp [flatA] at h⟩
  | t :: ts, tds, h, vs, ds, ps, hT, hok => by
    obtain ⟨v, vs', d, ds', p, q, rfl, rfl, rfl, h1, h2⟩ := trodAll_cons hT
    rw [List.mapM_cons] at h
    simp only [Option.bind_eq_bind, Option.bind_eq_some_iff, Option.pure_def, Option.some.injEq] at h
    obtain ⟨td, ht, tds', hts, rfl⟩ := h
    obtain ⟨xs, f1, f2, f3, f4⟩ := arg_reads ht h1 (hok 0 t v rfl rfl)
    obtain ⟨args, g1, g2, g3, g4⟩ := args_reads ts tds' hts vs' ds' q h2 fun j t v e1 e2 => hok (j + 1) t v (by simpa using e1) (by simpa using e2)
    refine ⟨(td.1, xs) :: args, ⟨⟨rfl, f1⟩, g1⟩, ⟨f2, g2⟩, ?_, fun j t u e1 e2 => ?_⟩
    · simp only [flatA, flatU, List.flatMap_cons, List.length_append] at g3 ⊢
      omega
    · simp only [flatA, flatU, List.flatMap_cons] at e1 e2
      by_cases hj : j < xs.length
      · rw [List.getElem?_append_left hj] at e1
        rw [List.getElem?_append_left (by omega)] at e2
        exact f4 j t u e1 e2
      · rw [List.getElem?_append_right (by omega)] at e1
        rw [List.getElem?_append_right (by omega), ← f3] at e2
        exact g4 _ t u e1 e2
theorem trodAll_len : ∀ {ts : List TypeId} {vs : List Value} {ds : List (DataW H)} {ps : List MemPlace}, DataW.TrodAll enc P w 0 (fun _ => true) true ts vs ds ps → ds.length = ts.length
  | [], vs, ds, ps, h => by
    obtain ⟨rfl, rfl, rfl⟩ := trodAll_nil h
    rfl
  | t :: ts, vs, ds, ps, h => by
    obtain ⟨v, vs', d, ds', p, q, rfl, rfl, rfl, _, h2⟩ := trodAll_cons h
    simp [trodAll_len h2]
theorem trodAll_lt : ∀ {ts : List TypeId} {vs : List Value} {ds : List (DataW H)} {ps : List MemPlace}, DataW.TrodAll enc P w 0 (fun _ => true) true ts vs ds ps → ∀ x ∈ ps, x.block < w.heap.size
  | [], vs, ds, ps, h => by
    obtain ⟨rfl, rfl, rfl⟩ := trodAll_nil h
    simp
  | t :: ts, vs, ds, ps, h => by
    obtain ⟨v, vs', d, ds', p, q, rfl, rfl, rfl, ⟨m, hm⟩, h2⟩ := trodAll_cons h
    intro x hx
    rcases List.mem_append.1 hx with hx | hx
    · exact DataW.trod_lt m _ _ _ hm x hx
    · exact trodAll_lt h2 x hx
theorem trodAll_below (hl : laidOutB P = true) {w' : World} : ∀ {ts : List TypeId}, ts.all (rowOk P) = true → ∀ {vs : List Value} {ds : List (DataW H)} {ps : List MemPlace}, DataW.TrodAll enc P w 0 (fun _ => true) true ts vs ds ps → Below w.heap.size w w' →
    (∀ x ∈ ps, x.block < w.heap.size) → DataW.TrodAll enc P w' 0 (fun b => decide (b < w.heap.size)) true ts vs ds ps
  | [], _, vs, ds, ps, h, _, _ => by
    obtain ⟨rfl, rfl, rfl⟩ := trodAll_nil h
    exact rfl
  | t :: ts, hr, vs, ds, ps, h, hb, hlt => by
    obtain ⟨v, vs', d, ds', p, q, rfl, rfl, rfl, h1, h2⟩ := trodAll_cons h
    simp only [List.all_cons, Bool.and_eq_true, rowOk, decide_eq_true_eq] at hr
    exact ⟨p, q, Below.trod hl hr.1.1 hr.1.2 h1 hb fun x hx => hlt x (by simp [hx]), trodAll_below hl hr.2 h2 hb fun x hx => hlt x (by simp [hx]), rfl⟩
theorem law_lift {C : Checked} {os : Os} {f : FuncId} {fn : Func} {s : ChangeSpec} {tds : List (Bool × List TD)} {tb : TypeId} (own : ownKnob C.prog.godebug = none) (laid : laidOutB C.prog = true) (started : os.Started)
    (noInit : C.prog.inits.idxOf? f = none) (hfn : C.prog.funcs[f]? = some fn)
    (witness : ∃ (w : World) (tape : Tape) (i : Input), w.os = os ∧ (w.forCall tape i).Shaped C.prog ∧ i.vars = [] ∧ Input.okWide C.prog (w.forCall tape i) .any w.heap.size f i ∧
      s.pre6 enc C.prog fn [] false (w.forCall tape i).memory i.args ∧ ({} : Assume).holds C.prog (lone (Frame.enter C.prog f i.args .normal) [] (w.forCall tape i)))
    (hvars : s.vars = []) (hs : ∀ ds : List (DataW H), ds.length = fn.params.toList.length → (s.fn H ds).results = [.lit (.bool true)] ∧ (s.fn H ds).args = ds ∧ (s.fn H ds).vars = [])
    (htd : fn.params.toList.mapM (tdArg C.prog) = some tds) (hrow : fn.params.toList.all (rowOk C.prog) = true) (hres : fn.resultTypes = #[tb]) (hbool : C.prog.underlying tb = some .bool)
    (hpc : ∀ args : List A, FitsA tds args → PC C.prog f args [(false, [.bool true])]) :
    ReturnsInHanded {} C os f .any (s.pre6 enc C.prog fn [] false) (s.post enc C.prog fn false true false false) := by
  refine returnsInHanded_of_change_sized own started noInit hfn witness ?_
  intro W base args ds gs before hval hW _ _ _
  have hW' := hW
  obtain ⟨p, q, hA, hV, rfl, _, _⟩ := hW
  rw [hvars] at hV
  obtain ⟨rfl, rfl⟩ := trodVars_none hV
  have hval' : ∀ (j : Nat) t v, fn.params.toList[j]? = some t → args.toList[j]? = some v → Value.okWide C.prog W .any base t v := fun j t v h1 h2 => hval j t v (by simpa using h1) (by simpa using h2)
  obtain ⟨as, h1, h2, h3, h4⟩ := args_reads _ _ htd _ _ _ hA hval'
  have hlt := trodAll_lt hA
  have hlen : ds.length = fn.params.toList.length := by
    exact (trodAll_len hA)
  obtain ⟨e1, e2, e3⟩ := hs ds hlen
  have hcall := (hpc as h1).2 W args.toList h2 h4
  rw [Array.toArray_toList] at hcall
  refine hcall.mono fun e W' he => ?_
  cases e with
  | panicked => exact he.elim
  | outgrown => exact he.elim
  | returned r =>
    obtain ⟨s1, s2, s3, s4, s5, us, rfl, hsh, F, hF, _⟩ := he
    have bel : Below W.heap.size W W' := ⟨s3, s4, s5, s1, s2⟩
    have hr : oneU us = .bool true := by
      match us, hsh with
      | [u], hsh =>
        have h1 := hsh.1
        simp [ShapeV] at h1
        have hu := cells_one h1
        have := hF 0 (.bool true) u rfl (by simp [flatU, hu])
        cases this
        rfl
    rw [hr]
    refine ⟨_, rfl, ds, [], p ++ [], [], p, [], hW', ?_, ?_, ?_, bel.frame _, fun h => by cases h⟩
    · rw [List.append_nil, e1, hres]
      exact trodAll_mk1 (shut_bool hbool _)
    · rw [List.append_nil, e2]
      exact trodAll_below laid hrow hA bel hlt
    · rw [List.append_nil, e3, hvars]
      rfl
end
end Go.Tw

namespace Go.Tw
theorem Sub.of_to {σ σ' : St} (ts : List Nat) (n : Nat) (hn : ts.Nodup) (h : σ.to ts n = σ') : Sub σ σ' := h ▸ Sub.to ts n hn
def St.tidy (σ : St) (ts rs bs : List Nat) (n : Nat) : St :=
  { ((σ.only ts).drop ((σ.row.map (·.1)).filter fun k => !rs.contains k) ((σ.box.map (·.1)).filter fun k => !bs.contains k)) with nxt := n }
theorem Sub.of_tidy {σ σ' : St} (ts rs bs : List Nat) (n : Nat) (hn : ts.Nodup) (h : σ.tidy ts rs bs n = σ') : Sub σ σ' := by
  subst h
  exact (Sub.only ts hn).trans ((Sub.drop _ _).trans (Sub.num n))
theorem ofL_def (DR DB : List Nat) (l : L) : L.of DR DB l = ((match l.rowOf with
  | some (r, _) => DR.contains r
  | none => false) || l.boxOf.any DB.contains) := by rfl
theorem Sub.swp_row (a b : Nat) {σ σ' : St} (h : σ.ren (swp a b) (fun n => n) = σ') : Sub σ σ' := by
  subst h
  exact Sub.ren (swp_swp a b) fun _ => rfl
attribute [go_sem] St.tidy St.drop ofL_def St.ren renE renV renL swp killS
theorem W_loopI {P : Program} {N : Nat} {K : Exit → St → Prop} {c : Code} {σ : St} {α : Type} (I : α → St) (φ : α → Prop) (μ : α → Nat) (x : α) (hs : Sub σ (I x)) (h0 : φ x)
    (round : ∀ x, φ x → W P N c (Then (fun σ' => ∃ y, Sub σ' (I y) ∧ φ y ∧ μ y < μ x) K) (I x)) : W P N (.loop c) K σ :=
  W_loopS (fun n σ => ∃ x, φ x ∧ n = μ x ∧ σ = I x) hs ⟨x, h0, rfl, rfl⟩ fun n σ ⟨x, h1, h2, h3⟩ => by
    subst h2 h3
    refine W_mono (round x h1) fun e σ' h => ?_
    cases e with
    | normal =>
      obtain ⟨y, q1, q2, q3⟩ := h
      exact ⟨μ y, I y, q3, q1, y, q2, rfl, rfl⟩
    | _ => exact h
theorem fits_nil {ts : List T} (h : FitsL [] ts) : ts = [] := List.length_eq_zero_iff.1 h.len
theorem fits_cons {d : TD} {ds : List TD} {ts : List T} (h : FitsL (d :: ds) ts) : ∃ t ts', ts = t :: ts' ∧ Fits d t ∧ FitsL ds ts' := by
  match ts, h with
  | t :: ts, h => exact ⟨t, ts, rfl, h.each 0 d t rfl rfl, by simpa using h.len, fun j d t h1 h2 => h.each (j + 1) d t (by simpa using h1) (by simpa using h2)⟩
  | [], h => simpa using h.len
theorem fits_int {k : IntKind} {t : T} (h : Fits (.int k) t) : ∃ n, t = .int k n ∧ k.min ≤ n ∧ n ≤ k.max := by cases h with | int h1 h2 => exact ⟨_, rfl, h1, h2⟩
theorem fits_bool {t : T} (h : Fits .bool t) : ∃ b, t = .bool b := by cases h with | bool => exact ⟨_, rfl⟩
theorem enc_of {α : Type} {e : α → List T} {Q : α → Prop} : ∀ {es : Els}, (∀ x ∈ es, ∃ a, x = e a ∧ Q a) → ∃ xs, es = enc e xs ∧ ∀ a ∈ xs, Q a
  | [], _ => ⟨[], rfl, by simp⟩
  | x :: es, h => by
    obtain ⟨a, rfl, ha⟩ := h x (by simp)
    obtain ⟨xs, rfl, hx⟩ := enc_of (es := es) fun y hy => h y (by simp [hy])
    exact ⟨a :: xs, rfl, by simp; exact ⟨ha, hx⟩⟩
theorem fits_sl {α : Type} {e : α → List T} {Q : α → Prop} {z : Nat} {fs : List TD} {t : T} (h : Fits (.sl z fs) t) (he : ∀ ts, FitsL fs ts → ∃ a, ts = e a ∧ Q a) :
    ∃ xs : List α, t = .sl z (enc e xs) ∧ xs.length ≤ 9223372036854775807 ∧ ∀ a ∈ xs, Q a := by
  cases h with
  | sl hl hz hx =>
    obtain ⟨xs, rfl, hq⟩ := enc_of fun x hx' => he x ⟨hz x hx', hx x hx'⟩
    exact ⟨xs, rfl, by simpa [enc_length] using hl, hq⟩
theorem fits_I {ts : List T} (h : FitsL [.int .i64] ts) : ∃ n, ts = eI n ∧ -9223372036854775808 ≤ n ∧ n ≤ 9223372036854775807 := by
  obtain ⟨t, ts', rfl, h1, h2⟩ := fits_cons h
  obtain rfl := fits_nil h2
  obtain ⟨n, rfl, h3, h4⟩ := fits_int h1
  exact ⟨n, rfl, h3, h4⟩
theorem fitsA_nil {as : List A} (h : FitsA [] as) : as = [] := by
  cases as with
  | nil => rfl
  | cons => exact h.elim
theorem fitsA_cons {d : Bool × List TD} {ds : List (Bool × List TD)} {as : List A} (h : FitsA (d :: ds) as) : ∃ ts as', as = (d.1, ts) :: as' ∧ FitsL d.2 ts ∧ FitsA ds as' := by
  match as, h with
  | x :: as, h => exact ⟨x.2, as, by rw [← h.1.1], h.1.2, h.2⟩
  | [], h => exact h.elim
end Go.Tw

namespace Go.Tw
@[ext] structure GMsg where
  kind : Int
  page : Int
  own : Bool
  list : List Int
  deriving DecidableEq
@[ext] structure GSender where
  base : Int
  queue : List GMsg
  deriving DecidableEq
@[ext] structure GReceiver where
  got : Int
  deriving DecidableEq
@[ext] structure GPacket where
  from_ : Int
  to : Int
  ack : Bool
  n : Int
  msg : GMsg
  deriving DecidableEq
@[ext] structure GFrame where
  state : Int
  list : List Int
  asked : Bool
  deriving DecidableEq
@[ext] structure GWait where
  who : Int
  own : Bool
  deriving DecidableEq
@[ext] structure GHome where
  list : List Int
  owner : Int
  readers : List Bool
  busy : Bool
  now : GWait
  acks : Int
  queue : List GWait
  deriving DecidableEq
@[ext] structure GTold where
  to : Int
  msg : GMsg
  deriving DecidableEq
@[ext] structure GNode where
  id : Int
  frames : List GFrame
  homes : List GHome
  out : List GSender
  in_ : List GReceiver
  deriving DecidableEq
@[ext] structure GWorld where
  size : Int
  nodes : List GNode
  net : List GPacket
  deriving DecidableEq
@[ext] structure GDeed where
  kind : Int
  a : Int
  b : Int
  c : Int
  deriving DecidableEq
@[ext] structure GIns where
  op : Int
  r : Int
  a : Int
  b : Int
  n : Int
  deriving DecidableEq
@[ext] structure GHart where
  regs : List Int
  pc : Int
  state : Int
  deriving DecidableEq
@[ext] structure GBlock where
  start : Int
  list : List GIns
  deriving DecidableEq
@[ext] structure GCore where
  hart : GHart
  cache : List GBlock
  deriving DecidableEq
@[ext] structure GFlock where
  world : GWorld
  cores : List GCore
  deriving DecidableEq
@[ext] structure GEvent where
  who : Int
  pc : Int
  at_ : Int
  got : Int
  put : Int
  deriving DecidableEq
@[ext] structure GRace where
  i : Int
  k : Int
  deriving DecidableEq
def eB (x : Bool) : List T := [.bool x]
theorem eB_def (x : Bool) : eB x = [.bool x] := rfl
theorem getD_eB (o : Option Bool) : (Option.map eB o).getD [.bool false] = eB (o.getD false) := by cases o <;> rfl
theorem rep_eB (n : Nat) : List.replicate n [.bool false] = enc eB (List.replicate n false) := enc_rep eB n false
theorem set_eB (xs : List Bool) (i : Nat) (x : Bool) : (enc eB xs).set i [.bool x] = enc eB (xs.set i x) := enc_set eB xs i x
theorem snoc_eB (xs : List Bool) (x : Bool) : enc eB xs ++ [[.bool x]] = enc eB (xs ++ [x]) := enc_snoc eB xs x
theorem fits_B {ts : List T} (h : FitsL [.bool] ts) : ∃ n, ts = eB n ∧ True := by
  obtain ⟨t, ts', rfl, h1, h2⟩ := fits_cons h
  obtain rfl := fits_nil h2
  obtain ⟨n, rfl⟩ := fits_bool h1
  exact ⟨n, rfl, trivial⟩
def eMsg (x : GMsg) : List T := [.int .i64 x.kind, .int .i64 x.page, .bool x.own, .sl 1 (enc eI x.list)]
theorem eMsg_def (x : GMsg) : eMsg x = [.int .i64 x.kind, .int .i64 x.page, .bool x.own, .sl 1 (enc eI x.list)] := rfl
theorem getD_eMsg (o : Option GMsg) : (Option.map eMsg o).getD [.int .i64 0, .int .i64 0, .bool false, .sl 1 []] = eMsg (o.getD ⟨0, 0, false, []⟩) := by cases o <;> rfl
theorem rep_eMsg (n : Nat) : List.replicate n [.int .i64 0, .int .i64 0, .bool false, .sl 1 []] = enc eMsg (List.replicate n ⟨0, 0, false, []⟩) := enc_rep eMsg n ⟨0, 0, false, []⟩
theorem set_eMsg (xs : List GMsg) (i : Nat) (kind0 : Int) (page0 : Int) (own0 : Bool) (list0 : List Int) : (enc eMsg xs).set i [.int .i64 kind0, .int .i64 page0, .bool own0, .sl 1 (enc eI list0)] = enc eMsg (xs.set i (⟨kind0, page0, own0, list0⟩ : GMsg)) := enc_set eMsg xs i (⟨kind0, page0, own0, list0⟩ : GMsg)
theorem snoc_eMsg (xs : List GMsg) (kind0 : Int) (page0 : Int) (own0 : Bool) (list0 : List Int) : enc eMsg xs ++ [[.int .i64 kind0, .int .i64 page0, .bool own0, .sl 1 (enc eI list0)]] = enc eMsg (xs ++ [(⟨kind0, page0, own0, list0⟩ : GMsg)]) := enc_snoc eMsg xs (⟨kind0, page0, own0, list0⟩ : GMsg)
theorem eta_Msg (x : GMsg) : (⟨x.kind, x.page, x.own, x.list⟩ : GMsg) = x := rfl
def GMsg.ok (x : GMsg) : Prop := (-9223372036854775808 ≤ x.kind ∧ x.kind ≤ 9223372036854775807) ∧ (-9223372036854775808 ≤ x.page ∧ x.page ≤ 9223372036854775807) ∧ (True) ∧ (x.list.length ≤ 9223372036854775807 ∧ ∀ a ∈ x.list, -9223372036854775808 ≤ a ∧ a ≤ 9223372036854775807)
theorem fits_Msg {ts : List T} (h : FitsL [.int .i64, .int .i64, .bool, .sl 1 [.int .i64]] ts) : ∃ x : GMsg, ts = eMsg x ∧ x.ok := by
  obtain ⟨t_kind, h_kind, rfl, q_kind, w0⟩ := fits_cons h
  obtain ⟨kind0, rfl, b_kind, c_kind⟩ := fits_int q_kind
  obtain ⟨t_page, h_page, rfl, q_page, w1⟩ := fits_cons w0
  obtain ⟨page0, rfl, b_page, c_page⟩ := fits_int q_page
  obtain ⟨t_own, h_own, rfl, q_own, w2⟩ := fits_cons w1
  obtain ⟨own0, rfl⟩ := fits_bool q_own
  obtain ⟨t_list, h_list, rfl, q_list, w3⟩ := fits_cons w2
  obtain ⟨list0, rfl, b_list, c_list⟩ := fits_sl (e := eI) (Q := fun a : Int => -9223372036854775808 ≤ a ∧ a ≤ 9223372036854775807) q_list fun ts h => fits_I h
  obtain rfl := fits_nil w3
  exact ⟨⟨kind0, page0, own0, list0⟩, rfl, ⟨b_kind, c_kind⟩, ⟨b_page, c_page⟩, trivial, ⟨b_list, c_list⟩⟩
def eSender (x : GSender) : List T := [.int .i64 x.base, .sl 4 (enc eMsg x.queue)]
theorem eSender_def (x : GSender) : eSender x = [.int .i64 x.base, .sl 4 (enc eMsg x.queue)] := rfl
theorem getD_eSender (o : Option GSender) : (Option.map eSender o).getD [.int .i64 0, .sl 4 []] = eSender (o.getD ⟨0, []⟩) := by cases o <;> rfl
theorem rep_eSender (n : Nat) : List.replicate n [.int .i64 0, .sl 4 []] = enc eSender (List.replicate n ⟨0, []⟩) := enc_rep eSender n ⟨0, []⟩
theorem set_eSender (xs : List GSender) (i : Nat) (base0 : Int) (queue0 : List GMsg) : (enc eSender xs).set i [.int .i64 base0, .sl 4 (enc eMsg queue0)] = enc eSender (xs.set i (⟨base0, queue0⟩ : GSender)) := enc_set eSender xs i (⟨base0, queue0⟩ : GSender)
theorem snoc_eSender (xs : List GSender) (base0 : Int) (queue0 : List GMsg) : enc eSender xs ++ [[.int .i64 base0, .sl 4 (enc eMsg queue0)]] = enc eSender (xs ++ [(⟨base0, queue0⟩ : GSender)]) := enc_snoc eSender xs (⟨base0, queue0⟩ : GSender)
theorem eta_Sender (x : GSender) : (⟨x.base, x.queue⟩ : GSender) = x := rfl
def GSender.ok (x : GSender) : Prop := (-9223372036854775808 ≤ x.base ∧ x.base ≤ 9223372036854775807) ∧ (x.queue.length ≤ 9223372036854775807 ∧ ∀ a ∈ x.queue, a.ok)
theorem fits_Sender {ts : List T} (h : FitsL [.int .i64, .sl 4 [.int .i64, .int .i64, .bool, .sl 1 [.int .i64]]] ts) : ∃ x : GSender, ts = eSender x ∧ x.ok := by
  obtain ⟨t_base, h_base, rfl, q_base, w0⟩ := fits_cons h
  obtain ⟨base0, rfl, b_base, c_base⟩ := fits_int q_base
  obtain ⟨t_queue, h_queue, rfl, q_queue, w1⟩ := fits_cons w0
  obtain ⟨queue0, rfl, b_queue, c_queue⟩ := fits_sl (e := eMsg) (Q := fun a : GMsg => a.ok) q_queue fun ts h => fits_Msg h
  obtain rfl := fits_nil w1
  exact ⟨⟨base0, queue0⟩, rfl, ⟨b_base, c_base⟩, ⟨b_queue, c_queue⟩⟩
def eReceiver (x : GReceiver) : List T := [.int .i64 x.got]
theorem eReceiver_def (x : GReceiver) : eReceiver x = [.int .i64 x.got] := rfl
theorem getD_eReceiver (o : Option GReceiver) : (Option.map eReceiver o).getD [.int .i64 0] = eReceiver (o.getD ⟨0⟩) := by cases o <;> rfl
theorem set_eReceiver (xs : List GReceiver) (i : Nat) (got0 : Int) : (enc eReceiver xs).set i [.int .i64 got0] = enc eReceiver (xs.set i (⟨got0⟩ : GReceiver)) := enc_set eReceiver xs i (⟨got0⟩ : GReceiver)
theorem snoc_eReceiver (xs : List GReceiver) (got0 : Int) : enc eReceiver xs ++ [[.int .i64 got0]] = enc eReceiver (xs ++ [(⟨got0⟩ : GReceiver)]) := enc_snoc eReceiver xs (⟨got0⟩ : GReceiver)
theorem eta_Receiver (x : GReceiver) : (⟨x.got⟩ : GReceiver) = x := rfl
def GReceiver.ok (x : GReceiver) : Prop := (-9223372036854775808 ≤ x.got ∧ x.got ≤ 9223372036854775807)
theorem fits_Receiver {ts : List T} (h : FitsL [.int .i64] ts) : ∃ x : GReceiver, ts = eReceiver x ∧ x.ok := by
  obtain ⟨t_got, h_got, rfl, q_got, w0⟩ := fits_cons h
  obtain ⟨got0, rfl, b_got, c_got⟩ := fits_int q_got
  obtain rfl := fits_nil w0
  exact ⟨⟨got0⟩, rfl, ⟨b_got, c_got⟩⟩
theorem eta_Packet (x : GPacket) : (⟨x.from_, x.to, x.ack, x.n, ⟨x.msg.kind, x.msg.page, x.msg.own, x.msg.list⟩⟩ : GPacket) = x := rfl
def GPacket.ok (x : GPacket) : Prop := (-9223372036854775808 ≤ x.from_ ∧ x.from_ ≤ 9223372036854775807) ∧ (-9223372036854775808 ≤ x.to ∧ x.to ≤ 9223372036854775807) ∧ (True) ∧ (-9223372036854775808 ≤ x.n ∧ x.n ≤ 9223372036854775807) ∧ (x.msg.ok)
def eFrame (x : GFrame) : List T := [.int .i64 x.state, .sl 1 (enc eI x.list), .bool x.asked]
theorem eFrame_def (x : GFrame) : eFrame x = [.int .i64 x.state, .sl 1 (enc eI x.list), .bool x.asked] := rfl
theorem getD_eFrame (o : Option GFrame) : (Option.map eFrame o).getD [.int .i64 0, .sl 1 [], .bool false] = eFrame (o.getD ⟨0, [], false⟩) := by cases o <;> rfl
theorem rep_eFrame (n : Nat) : List.replicate n [.int .i64 0, .sl 1 [], .bool false] = enc eFrame (List.replicate n ⟨0, [], false⟩) := enc_rep eFrame n ⟨0, [], false⟩
theorem set_eFrame (xs : List GFrame) (i : Nat) (state0 : Int) (list0 : List Int) (asked0 : Bool) : (enc eFrame xs).set i [.int .i64 state0, .sl 1 (enc eI list0), .bool asked0] = enc eFrame (xs.set i (⟨state0, list0, asked0⟩ : GFrame)) := enc_set eFrame xs i (⟨state0, list0, asked0⟩ : GFrame)
theorem snoc_eFrame (xs : List GFrame) (state0 : Int) (list0 : List Int) (asked0 : Bool) : enc eFrame xs ++ [[.int .i64 state0, .sl 1 (enc eI list0), .bool asked0]] = enc eFrame (xs ++ [(⟨state0, list0, asked0⟩ : GFrame)]) := enc_snoc eFrame xs (⟨state0, list0, asked0⟩ : GFrame)
theorem eta_Frame (x : GFrame) : (⟨x.state, x.list, x.asked⟩ : GFrame) = x := rfl
def GFrame.ok (x : GFrame) : Prop := (-9223372036854775808 ≤ x.state ∧ x.state ≤ 9223372036854775807) ∧ (x.list.length ≤ 9223372036854775807 ∧ ∀ a ∈ x.list, -9223372036854775808 ≤ a ∧ a ≤ 9223372036854775807) ∧ (True)
theorem fits_Frame {ts : List T} (h : FitsL [.int .i64, .sl 1 [.int .i64], .bool] ts) : ∃ x : GFrame, ts = eFrame x ∧ x.ok := by
  obtain ⟨t_state, h_state, rfl, q_state, w0⟩ := fits_cons h
  obtain ⟨state0, rfl, b_state, c_state⟩ := fits_int q_state
  obtain ⟨t_list, h_list, rfl, q_list, w1⟩ := fits_cons w0
  obtain ⟨list0, rfl, b_list, c_list⟩ := fits_sl (e := eI) (Q := fun a : Int => -9223372036854775808 ≤ a ∧ a ≤ 9223372036854775807) q_list fun ts h => fits_I h
  obtain ⟨t_asked, h_asked, rfl, q_asked, w2⟩ := fits_cons w1
  obtain ⟨asked0, rfl⟩ := fits_bool q_asked
  obtain rfl := fits_nil w2
  exact ⟨⟨state0, list0, asked0⟩, rfl, ⟨b_state, c_state⟩, ⟨b_list, c_list⟩, trivial⟩
def eWait (x : GWait) : List T := [.int .i64 x.who, .bool x.own]
theorem eWait_def (x : GWait) : eWait x = [.int .i64 x.who, .bool x.own] := rfl
theorem getD_eWait (o : Option GWait) : (Option.map eWait o).getD [.int .i64 0, .bool false] = eWait (o.getD ⟨0, false⟩) := by cases o <;> rfl
theorem rep_eWait (n : Nat) : List.replicate n [.int .i64 0, .bool false] = enc eWait (List.replicate n ⟨0, false⟩) := enc_rep eWait n ⟨0, false⟩
theorem set_eWait (xs : List GWait) (i : Nat) (who0 : Int) (own0 : Bool) : (enc eWait xs).set i [.int .i64 who0, .bool own0] = enc eWait (xs.set i (⟨who0, own0⟩ : GWait)) := enc_set eWait xs i (⟨who0, own0⟩ : GWait)
theorem snoc_eWait (xs : List GWait) (who0 : Int) (own0 : Bool) : enc eWait xs ++ [[.int .i64 who0, .bool own0]] = enc eWait (xs ++ [(⟨who0, own0⟩ : GWait)]) := enc_snoc eWait xs (⟨who0, own0⟩ : GWait)
theorem eta_Wait (x : GWait) : (⟨x.who, x.own⟩ : GWait) = x := rfl
def GWait.ok (x : GWait) : Prop := (-9223372036854775808 ≤ x.who ∧ x.who ≤ 9223372036854775807) ∧ (True)
theorem fits_Wait {ts : List T} (h : FitsL [.int .i64, .bool] ts) : ∃ x : GWait, ts = eWait x ∧ x.ok := by
  obtain ⟨t_who, h_who, rfl, q_who, w0⟩ := fits_cons h
  obtain ⟨who0, rfl, b_who, c_who⟩ := fits_int q_who
  obtain ⟨t_own, h_own, rfl, q_own, w1⟩ := fits_cons w0
  obtain ⟨own0, rfl⟩ := fits_bool q_own
  obtain rfl := fits_nil w1
  exact ⟨⟨who0, own0⟩, rfl, ⟨b_who, c_who⟩, trivial⟩
def eHome (x : GHome) : List T := [.sl 1 (enc eI x.list), .int .i64 x.owner, .sl 1 (enc eB x.readers), .bool x.busy, .int .i64 x.now.who, .bool x.now.own, .int .i64 x.acks, .sl 2 (enc eWait x.queue)]
theorem eHome_def (x : GHome) : eHome x = [.sl 1 (enc eI x.list), .int .i64 x.owner, .sl 1 (enc eB x.readers), .bool x.busy, .int .i64 x.now.who, .bool x.now.own, .int .i64 x.acks, .sl 2 (enc eWait x.queue)] := rfl
theorem getD_eHome (o : Option GHome) : (Option.map eHome o).getD [.sl 1 [], .int .i64 0, .sl 1 [], .bool false, .int .i64 0, .bool false, .int .i64 0, .sl 2 []] = eHome (o.getD ⟨[], 0, [], false, ⟨0, false⟩, 0, []⟩) := by cases o <;> rfl
theorem rep_eHome (n : Nat) : List.replicate n [.sl 1 [], .int .i64 0, .sl 1 [], .bool false, .int .i64 0, .bool false, .int .i64 0, .sl 2 []] = enc eHome (List.replicate n ⟨[], 0, [], false, ⟨0, false⟩, 0, []⟩) := enc_rep eHome n ⟨[], 0, [], false, ⟨0, false⟩, 0, []⟩
theorem set_eHome (xs : List GHome) (i : Nat) (list0 : List Int) (owner0 : Int) (readers0 : List Bool) (busy0 : Bool) (now_who0 : Int) (now_own0 : Bool) (acks0 : Int) (queue0 : List GWait) : (enc eHome xs).set i [.sl 1 (enc eI list0), .int .i64 owner0, .sl 1 (enc eB readers0), .bool busy0, .int .i64 now_who0, .bool now_own0, .int .i64 acks0, .sl 2 (enc eWait queue0)] = enc eHome (xs.set i (⟨list0, owner0, readers0, busy0, ⟨now_who0, now_own0⟩, acks0, queue0⟩ : GHome)) := enc_set eHome xs i (⟨list0, owner0, readers0, busy0, ⟨now_who0, now_own0⟩, acks0, queue0⟩ : GHome)
theorem snoc_eHome (xs : List GHome) (list0 : List Int) (owner0 : Int) (readers0 : List Bool) (busy0 : Bool) (now_who0 : Int) (now_own0 : Bool) (acks0 : Int) (queue0 : List GWait) : enc eHome xs ++ [[.sl 1 (enc eI list0), .int .i64 owner0, .sl 1 (enc eB readers0), .bool busy0, .int .i64 now_who0, .bool now_own0, .int .i64 acks0, .sl 2 (enc eWait queue0)]] = enc eHome (xs ++ [(⟨list0, owner0, readers0, busy0, ⟨now_who0, now_own0⟩, acks0, queue0⟩ : GHome)]) := enc_snoc eHome xs (⟨list0, owner0, readers0, busy0, ⟨now_who0, now_own0⟩, acks0, queue0⟩ : GHome)
theorem eta_Home (x : GHome) : (⟨x.list, x.owner, x.readers, x.busy, ⟨x.now.who, x.now.own⟩, x.acks, x.queue⟩ : GHome) = x := rfl
def GHome.ok (x : GHome) : Prop := (x.list.length ≤ 9223372036854775807 ∧ ∀ a ∈ x.list, -9223372036854775808 ≤ a ∧ a ≤ 9223372036854775807) ∧ (-9223372036854775808 ≤ x.owner ∧ x.owner ≤ 9223372036854775807) ∧ (x.readers.length ≤ 9223372036854775807 ∧ ∀ a ∈ x.readers, True) ∧ (True) ∧ (x.now.ok) ∧ (-9223372036854775808 ≤ x.acks ∧ x.acks ≤ 9223372036854775807) ∧ (x.queue.length ≤ 9223372036854775807 ∧ ∀ a ∈ x.queue, a.ok)
theorem fits_Home {ts : List T} (h : FitsL [.sl 1 [.int .i64], .int .i64, .sl 1 [.bool], .bool, .int .i64, .bool, .int .i64, .sl 2 [.int .i64, .bool]] ts) : ∃ x : GHome, ts = eHome x ∧ x.ok := by
  obtain ⟨t_list, h_list, rfl, q_list, w0⟩ := fits_cons h
  obtain ⟨list0, rfl, b_list, c_list⟩ := fits_sl (e := eI) (Q := fun a : Int => -9223372036854775808 ≤ a ∧ a ≤ 9223372036854775807) q_list fun ts h => fits_I h
  obtain ⟨t_owner, h_owner, rfl, q_owner, w1⟩ := fits_cons w0
  obtain ⟨owner0, rfl, b_owner, c_owner⟩ := fits_int q_owner
  obtain ⟨t_readers, h_readers, rfl, q_readers, w2⟩ := fits_cons w1
  obtain ⟨readers0, rfl, b_readers, c_readers⟩ := fits_sl (e := eB) (Q := fun a : Bool => True) q_readers fun ts h => fits_B h
  obtain ⟨t_busy, h_busy, rfl, q_busy, w3⟩ := fits_cons w2
  obtain ⟨busy0, rfl⟩ := fits_bool q_busy
  obtain ⟨t_now_who, h_now_who, rfl, q_now_who, w4⟩ := fits_cons w3
  obtain ⟨now_who0, rfl, b_now_who, c_now_who⟩ := fits_int q_now_who
  obtain ⟨t_now_own, h_now_own, rfl, q_now_own, w5⟩ := fits_cons w4
  obtain ⟨now_own0, rfl⟩ := fits_bool q_now_own
  obtain ⟨t_acks, h_acks, rfl, q_acks, w6⟩ := fits_cons w5
  obtain ⟨acks0, rfl, b_acks, c_acks⟩ := fits_int q_acks
  obtain ⟨t_queue, h_queue, rfl, q_queue, w7⟩ := fits_cons w6
  obtain ⟨queue0, rfl, b_queue, c_queue⟩ := fits_sl (e := eWait) (Q := fun a : GWait => a.ok) q_queue fun ts h => fits_Wait h
  obtain rfl := fits_nil w7
  exact ⟨⟨list0, owner0, readers0, busy0, ⟨now_who0, now_own0⟩, acks0, queue0⟩, rfl, ⟨b_list, c_list⟩, ⟨b_owner, c_owner⟩, ⟨b_readers, c_readers⟩, trivial, ⟨⟨b_now_who, c_now_who⟩, trivial⟩, ⟨b_acks, c_acks⟩, ⟨b_queue, c_queue⟩⟩
theorem eta_Told (x : GTold) : (⟨x.to, ⟨x.msg.kind, x.msg.page, x.msg.own, x.msg.list⟩⟩ : GTold) = x := rfl
def GTold.ok (x : GTold) : Prop := (-9223372036854775808 ≤ x.to ∧ x.to ≤ 9223372036854775807) ∧ (x.msg.ok)
def eNode (x : GNode) : List T := [.int .i64 x.id, .sl 3 (enc eFrame x.frames), .sl 8 (enc eHome x.homes), .sl 2 (enc eSender x.out), .sl 1 (enc eReceiver x.in_)]
theorem eNode_def (x : GNode) : eNode x = [.int .i64 x.id, .sl 3 (enc eFrame x.frames), .sl 8 (enc eHome x.homes), .sl 2 (enc eSender x.out), .sl 1 (enc eReceiver x.in_)] := rfl
theorem getD_eNode (o : Option GNode) : (Option.map eNode o).getD [.int .i64 0, .sl 3 [], .sl 8 [], .sl 2 [], .sl 1 []] = eNode (o.getD ⟨0, [], [], [], []⟩) := by cases o <;> rfl
theorem set_eNode (xs : List GNode) (i : Nat) (id0 : Int) (frames0 : List GFrame) (homes0 : List GHome) (out0 : List GSender) (in_0 : List GReceiver) : (enc eNode xs).set i [.int .i64 id0, .sl 3 (enc eFrame frames0), .sl 8 (enc eHome homes0), .sl 2 (enc eSender out0), .sl 1 (enc eReceiver in_0)] = enc eNode (xs.set i (⟨id0, frames0, homes0, out0, in_0⟩ : GNode)) := enc_set eNode xs i (⟨id0, frames0, homes0, out0, in_0⟩ : GNode)
theorem snoc_eNode (xs : List GNode) (id0 : Int) (frames0 : List GFrame) (homes0 : List GHome) (out0 : List GSender) (in_0 : List GReceiver) : enc eNode xs ++ [[.int .i64 id0, .sl 3 (enc eFrame frames0), .sl 8 (enc eHome homes0), .sl 2 (enc eSender out0), .sl 1 (enc eReceiver in_0)]] = enc eNode (xs ++ [(⟨id0, frames0, homes0, out0, in_0⟩ : GNode)]) := enc_snoc eNode xs (⟨id0, frames0, homes0, out0, in_0⟩ : GNode)
theorem eta_Node (x : GNode) : (⟨x.id, x.frames, x.homes, x.out, x.in_⟩ : GNode) = x := rfl
def GNode.ok (x : GNode) : Prop := (-9223372036854775808 ≤ x.id ∧ x.id ≤ 9223372036854775807) ∧ (x.frames.length ≤ 9223372036854775807 ∧ ∀ a ∈ x.frames, a.ok) ∧ (x.homes.length ≤ 9223372036854775807 ∧ ∀ a ∈ x.homes, a.ok) ∧ (x.out.length ≤ 9223372036854775807 ∧ ∀ a ∈ x.out, a.ok) ∧ (x.in_.length ≤ 9223372036854775807 ∧ ∀ a ∈ x.in_, a.ok)
theorem fits_Node {ts : List T} (h : FitsL [.int .i64, .sl 3 [.int .i64, .sl 1 [.int .i64], .bool], .sl 8 [.sl 1 [.int .i64], .int .i64, .sl 1 [.bool], .bool, .int .i64, .bool, .int .i64, .sl 2 [.int .i64, .bool]], .sl 2 [.int .i64, .sl 4 [.int .i64, .int .i64, .bool, .sl 1 [.int .i64]]], .sl 1 [.int .i64]] ts) : ∃ x : GNode, ts = eNode x ∧ x.ok := by
  obtain ⟨t_id, h_id, rfl, q_id, w0⟩ := fits_cons h
  obtain ⟨id0, rfl, b_id, c_id⟩ := fits_int q_id
  obtain ⟨t_frames, h_frames, rfl, q_frames, w1⟩ := fits_cons w0
  obtain ⟨frames0, rfl, b_frames, c_frames⟩ := fits_sl (e := eFrame) (Q := fun a : GFrame => a.ok) q_frames fun ts h => fits_Frame h
  obtain ⟨t_homes, h_homes, rfl, q_homes, w2⟩ := fits_cons w1
  obtain ⟨homes0, rfl, b_homes, c_homes⟩ := fits_sl (e := eHome) (Q := fun a : GHome => a.ok) q_homes fun ts h => fits_Home h
  obtain ⟨t_out, h_out, rfl, q_out, w3⟩ := fits_cons w2
  obtain ⟨out0, rfl, b_out, c_out⟩ := fits_sl (e := eSender) (Q := fun a : GSender => a.ok) q_out fun ts h => fits_Sender h
  obtain ⟨t_in_, h_in_, rfl, q_in_, w4⟩ := fits_cons w3
  obtain ⟨in_0, rfl, b_in_, c_in_⟩ := fits_sl (e := eReceiver) (Q := fun a : GReceiver => a.ok) q_in_ fun ts h => fits_Receiver h
  obtain rfl := fits_nil w4
  exact ⟨⟨id0, frames0, homes0, out0, in_0⟩, rfl, ⟨b_id, c_id⟩, ⟨b_frames, c_frames⟩, ⟨b_homes, c_homes⟩, ⟨b_out, c_out⟩, ⟨b_in_, c_in_⟩⟩
theorem eta_World (x : GWorld) : (⟨x.size, x.nodes, x.net⟩ : GWorld) = x := rfl
def GWorld.ok (x : GWorld) : Prop := (-9223372036854775808 ≤ x.size ∧ x.size ≤ 9223372036854775807) ∧ (x.nodes.length ≤ 9223372036854775807 ∧ ∀ a ∈ x.nodes, a.ok) ∧ (x.net.length ≤ 9223372036854775807 ∧ ∀ a ∈ x.net, a.ok)
theorem eta_Deed (x : GDeed) : (⟨x.kind, x.a, x.b, x.c⟩ : GDeed) = x := rfl
def GDeed.ok (x : GDeed) : Prop := (-9223372036854775808 ≤ x.kind ∧ x.kind ≤ 9223372036854775807) ∧ (-9223372036854775808 ≤ x.a ∧ x.a ≤ 9223372036854775807) ∧ (-9223372036854775808 ≤ x.b ∧ x.b ≤ 9223372036854775807) ∧ (-9223372036854775808 ≤ x.c ∧ x.c ≤ 9223372036854775807)
def eIns (x : GIns) : List T := [.int .i64 x.op, .int .i64 x.r, .int .i64 x.a, .int .i64 x.b, .int .i64 x.n]
theorem eIns_def (x : GIns) : eIns x = [.int .i64 x.op, .int .i64 x.r, .int .i64 x.a, .int .i64 x.b, .int .i64 x.n] := rfl
theorem getD_eIns (o : Option GIns) : (Option.map eIns o).getD [.int .i64 0, .int .i64 0, .int .i64 0, .int .i64 0, .int .i64 0] = eIns (o.getD ⟨0, 0, 0, 0, 0⟩) := by cases o <;> rfl
theorem rep_eIns (n : Nat) : List.replicate n [.int .i64 0, .int .i64 0, .int .i64 0, .int .i64 0, .int .i64 0] = enc eIns (List.replicate n ⟨0, 0, 0, 0, 0⟩) := enc_rep eIns n ⟨0, 0, 0, 0, 0⟩
theorem set_eIns (xs : List GIns) (i : Nat) (op0 : Int) (r0 : Int) (a0 : Int) (b0 : Int) (n0 : Int) : (enc eIns xs).set i [.int .i64 op0, .int .i64 r0, .int .i64 a0, .int .i64 b0, .int .i64 n0] = enc eIns (xs.set i (⟨op0, r0, a0, b0, n0⟩ : GIns)) := enc_set eIns xs i (⟨op0, r0, a0, b0, n0⟩ : GIns)
theorem snoc_eIns (xs : List GIns) (op0 : Int) (r0 : Int) (a0 : Int) (b0 : Int) (n0 : Int) : enc eIns xs ++ [[.int .i64 op0, .int .i64 r0, .int .i64 a0, .int .i64 b0, .int .i64 n0]] = enc eIns (xs ++ [(⟨op0, r0, a0, b0, n0⟩ : GIns)]) := enc_snoc eIns xs (⟨op0, r0, a0, b0, n0⟩ : GIns)
theorem eta_Ins (x : GIns) : (⟨x.op, x.r, x.a, x.b, x.n⟩ : GIns) = x := rfl
def GIns.ok (x : GIns) : Prop := (-9223372036854775808 ≤ x.op ∧ x.op ≤ 9223372036854775807) ∧ (-9223372036854775808 ≤ x.r ∧ x.r ≤ 9223372036854775807) ∧ (-9223372036854775808 ≤ x.a ∧ x.a ≤ 9223372036854775807) ∧ (-9223372036854775808 ≤ x.b ∧ x.b ≤ 9223372036854775807) ∧ (-9223372036854775808 ≤ x.n ∧ x.n ≤ 9223372036854775807)
theorem fits_Ins {ts : List T} (h : FitsL [.int .i64, .int .i64, .int .i64, .int .i64, .int .i64] ts) : ∃ x : GIns, ts = eIns x ∧ x.ok := by
  obtain ⟨t_op, h_op, rfl, q_op, w0⟩ := fits_cons h
  obtain ⟨op0, rfl, b_op, c_op⟩ := fits_int q_op
  obtain ⟨t_r, h_r, rfl, q_r, w1⟩ := fits_cons w0
  obtain ⟨r0, rfl, b_r, c_r⟩ := fits_int q_r
  obtain ⟨t_a, h_a, rfl, q_a, w2⟩ := fits_cons w1
  obtain ⟨a0, rfl, b_a, c_a⟩ := fits_int q_a
  obtain ⟨t_b, h_b, rfl, q_b, w3⟩ := fits_cons w2
  obtain ⟨b0, rfl, b_b, c_b⟩ := fits_int q_b
  obtain ⟨t_n, h_n, rfl, q_n, w4⟩ := fits_cons w3
  obtain ⟨n0, rfl, b_n, c_n⟩ := fits_int q_n
  obtain rfl := fits_nil w4
  exact ⟨⟨op0, r0, a0, b0, n0⟩, rfl, ⟨b_op, c_op⟩, ⟨b_r, c_r⟩, ⟨b_a, c_a⟩, ⟨b_b, c_b⟩, ⟨b_n, c_n⟩⟩
def eHart (x : GHart) : List T := [.sl 1 (enc eI x.regs), .int .i64 x.pc, .int .i64 x.state]
theorem eHart_def (x : GHart) : eHart x = [.sl 1 (enc eI x.regs), .int .i64 x.pc, .int .i64 x.state] := rfl
theorem getD_eHart (o : Option GHart) : (Option.map eHart o).getD [.sl 1 [], .int .i64 0, .int .i64 0] = eHart (o.getD ⟨[], 0, 0⟩) := by cases o <;> rfl
theorem set_eHart (xs : List GHart) (i : Nat) (regs0 : List Int) (pc0 : Int) (state0 : Int) : (enc eHart xs).set i [.sl 1 (enc eI regs0), .int .i64 pc0, .int .i64 state0] = enc eHart (xs.set i (⟨regs0, pc0, state0⟩ : GHart)) := enc_set eHart xs i (⟨regs0, pc0, state0⟩ : GHart)
theorem snoc_eHart (xs : List GHart) (regs0 : List Int) (pc0 : Int) (state0 : Int) : enc eHart xs ++ [[.sl 1 (enc eI regs0), .int .i64 pc0, .int .i64 state0]] = enc eHart (xs ++ [(⟨regs0, pc0, state0⟩ : GHart)]) := enc_snoc eHart xs (⟨regs0, pc0, state0⟩ : GHart)
theorem eta_Hart (x : GHart) : (⟨x.regs, x.pc, x.state⟩ : GHart) = x := rfl
def GHart.ok (x : GHart) : Prop := (x.regs.length ≤ 9223372036854775807 ∧ ∀ a ∈ x.regs, -9223372036854775808 ≤ a ∧ a ≤ 9223372036854775807) ∧ (-9223372036854775808 ≤ x.pc ∧ x.pc ≤ 9223372036854775807) ∧ (-9223372036854775808 ≤ x.state ∧ x.state ≤ 9223372036854775807)
def eBlock (x : GBlock) : List T := [.int .i64 x.start, .sl 5 (enc eIns x.list)]
theorem eBlock_def (x : GBlock) : eBlock x = [.int .i64 x.start, .sl 5 (enc eIns x.list)] := rfl
theorem getD_eBlock (o : Option GBlock) : (Option.map eBlock o).getD [.int .i64 0, .sl 5 []] = eBlock (o.getD ⟨0, []⟩) := by cases o <;> rfl
theorem rep_eBlock (n : Nat) : List.replicate n [.int .i64 0, .sl 5 []] = enc eBlock (List.replicate n ⟨0, []⟩) := enc_rep eBlock n ⟨0, []⟩
theorem set_eBlock (xs : List GBlock) (i : Nat) (start0 : Int) (list0 : List GIns) : (enc eBlock xs).set i [.int .i64 start0, .sl 5 (enc eIns list0)] = enc eBlock (xs.set i (⟨start0, list0⟩ : GBlock)) := enc_set eBlock xs i (⟨start0, list0⟩ : GBlock)
theorem snoc_eBlock (xs : List GBlock) (start0 : Int) (list0 : List GIns) : enc eBlock xs ++ [[.int .i64 start0, .sl 5 (enc eIns list0)]] = enc eBlock (xs ++ [(⟨start0, list0⟩ : GBlock)]) := enc_snoc eBlock xs (⟨start0, list0⟩ : GBlock)
theorem eta_Block (x : GBlock) : (⟨x.start, x.list⟩ : GBlock) = x := rfl
def GBlock.ok (x : GBlock) : Prop := (-9223372036854775808 ≤ x.start ∧ x.start ≤ 9223372036854775807) ∧ (x.list.length ≤ 9223372036854775807 ∧ ∀ a ∈ x.list, a.ok)
theorem fits_Block {ts : List T} (h : FitsL [.int .i64, .sl 5 [.int .i64, .int .i64, .int .i64, .int .i64, .int .i64]] ts) : ∃ x : GBlock, ts = eBlock x ∧ x.ok := by
  obtain ⟨t_start, h_start, rfl, q_start, w0⟩ := fits_cons h
  obtain ⟨start0, rfl, b_start, c_start⟩ := fits_int q_start
  obtain ⟨t_list, h_list, rfl, q_list, w1⟩ := fits_cons w0
  obtain ⟨list0, rfl, b_list, c_list⟩ := fits_sl (e := eIns) (Q := fun a : GIns => a.ok) q_list fun ts h => fits_Ins h
  obtain rfl := fits_nil w1
  exact ⟨⟨start0, list0⟩, rfl, ⟨b_start, c_start⟩, ⟨b_list, c_list⟩⟩
def eCore (x : GCore) : List T := [.sl 1 (enc eI x.hart.regs), .int .i64 x.hart.pc, .int .i64 x.hart.state, .sl 2 (enc eBlock x.cache)]
theorem eCore_def (x : GCore) : eCore x = [.sl 1 (enc eI x.hart.regs), .int .i64 x.hart.pc, .int .i64 x.hart.state, .sl 2 (enc eBlock x.cache)] := rfl
theorem getD_eCore (o : Option GCore) : (Option.map eCore o).getD [.sl 1 [], .int .i64 0, .int .i64 0, .sl 2 []] = eCore (o.getD ⟨⟨[], 0, 0⟩, []⟩) := by cases o <;> rfl
theorem set_eCore (xs : List GCore) (i : Nat) (hart_regs0 : List Int) (hart_pc0 : Int) (hart_state0 : Int) (cache0 : List GBlock) : (enc eCore xs).set i [.sl 1 (enc eI hart_regs0), .int .i64 hart_pc0, .int .i64 hart_state0, .sl 2 (enc eBlock cache0)] = enc eCore (xs.set i (⟨⟨hart_regs0, hart_pc0, hart_state0⟩, cache0⟩ : GCore)) := enc_set eCore xs i (⟨⟨hart_regs0, hart_pc0, hart_state0⟩, cache0⟩ : GCore)
theorem snoc_eCore (xs : List GCore) (hart_regs0 : List Int) (hart_pc0 : Int) (hart_state0 : Int) (cache0 : List GBlock) : enc eCore xs ++ [[.sl 1 (enc eI hart_regs0), .int .i64 hart_pc0, .int .i64 hart_state0, .sl 2 (enc eBlock cache0)]] = enc eCore (xs ++ [(⟨⟨hart_regs0, hart_pc0, hart_state0⟩, cache0⟩ : GCore)]) := enc_snoc eCore xs (⟨⟨hart_regs0, hart_pc0, hart_state0⟩, cache0⟩ : GCore)
theorem eta_Core (x : GCore) : (⟨⟨x.hart.regs, x.hart.pc, x.hart.state⟩, x.cache⟩ : GCore) = x := rfl
def GCore.ok (x : GCore) : Prop := (x.hart.ok) ∧ (x.cache.length ≤ 9223372036854775807 ∧ ∀ a ∈ x.cache, a.ok)
theorem fits_Core {ts : List T} (h : FitsL [.sl 1 [.int .i64], .int .i64, .int .i64, .sl 2 [.int .i64, .sl 5 [.int .i64, .int .i64, .int .i64, .int .i64, .int .i64]]] ts) : ∃ x : GCore, ts = eCore x ∧ x.ok := by
  obtain ⟨t_hart_regs, h_hart_regs, rfl, q_hart_regs, w0⟩ := fits_cons h
  obtain ⟨hart_regs0, rfl, b_hart_regs, c_hart_regs⟩ := fits_sl (e := eI) (Q := fun a : Int => -9223372036854775808 ≤ a ∧ a ≤ 9223372036854775807) q_hart_regs fun ts h => fits_I h
  obtain ⟨t_hart_pc, h_hart_pc, rfl, q_hart_pc, w1⟩ := fits_cons w0
  obtain ⟨hart_pc0, rfl, b_hart_pc, c_hart_pc⟩ := fits_int q_hart_pc
  obtain ⟨t_hart_state, h_hart_state, rfl, q_hart_state, w2⟩ := fits_cons w1
  obtain ⟨hart_state0, rfl, b_hart_state, c_hart_state⟩ := fits_int q_hart_state
  obtain ⟨t_cache, h_cache, rfl, q_cache, w3⟩ := fits_cons w2
  obtain ⟨cache0, rfl, b_cache, c_cache⟩ := fits_sl (e := eBlock) (Q := fun a : GBlock => a.ok) q_cache fun ts h => fits_Block h
  obtain rfl := fits_nil w3
  exact ⟨⟨⟨hart_regs0, hart_pc0, hart_state0⟩, cache0⟩, rfl, ⟨⟨b_hart_regs, c_hart_regs⟩, ⟨b_hart_pc, c_hart_pc⟩, ⟨b_hart_state, c_hart_state⟩⟩, ⟨b_cache, c_cache⟩⟩
theorem eta_Flock (x : GFlock) : (⟨⟨x.world.size, x.world.nodes, x.world.net⟩, x.cores⟩ : GFlock) = x := rfl
def GFlock.ok (x : GFlock) : Prop := (x.world.ok) ∧ (x.cores.length ≤ 9223372036854775807 ∧ ∀ a ∈ x.cores, a.ok)
theorem eta_Event (x : GEvent) : (⟨x.who, x.pc, x.at_, x.got, x.put⟩ : GEvent) = x := rfl
def GEvent.ok (x : GEvent) : Prop := (-9223372036854775808 ≤ x.who ∧ x.who ≤ 9223372036854775807) ∧ (-9223372036854775808 ≤ x.pc ∧ x.pc ≤ 9223372036854775807) ∧ (-9223372036854775808 ≤ x.at_ ∧ x.at_ ≤ 9223372036854775807) ∧ (-9223372036854775808 ≤ x.got ∧ x.got ≤ 9223372036854775807) ∧ (-9223372036854775808 ≤ x.put ∧ x.put ≤ 9223372036854775807)
theorem eta_Race (x : GRace) : (⟨x.i, x.k⟩ : GRace) = x := rfl
def GRace.ok (x : GRace) : Prop := (-9223372036854775808 ≤ x.i ∧ x.i ≤ 9223372036854775807) ∧ (-9223372036854775808 ≤ x.k ∧ x.k ≤ 9223372036854775807)
attribute [go_sem] getD_eB set_eB snoc_eB eB_def getD_eMsg set_eMsg snoc_eMsg eMsg_def getD_eSender set_eSender snoc_eSender eSender_def getD_eReceiver set_eReceiver snoc_eReceiver eReceiver_def getD_eFrame set_eFrame snoc_eFrame eFrame_def getD_eWait set_eWait snoc_eWait eWait_def getD_eHome set_eHome snoc_eHome eHome_def getD_eNode set_eNode snoc_eNode eNode_def getD_eIns set_eIns snoc_eIns eIns_def getD_eHart set_eHart snoc_eHart eHart_def getD_eBlock set_eBlock snoc_eBlock eBlock_def getD_eCore set_eCore snoc_eCore eCore_def eta_Msg eta_Sender eta_Receiver eta_Packet eta_Frame eta_Wait eta_Home eta_Told eta_Node eta_World eta_Deed eta_Ins eta_Hart eta_Block eta_Core eta_Flock eta_Event eta_Race
end Go.Tw

namespace Go.Tw
def lenOf : L → Option Nat
  | .ref _ _ _ _ len => some len
  | .nil => some 0
  | _ => none
section
variable {P : Program} {w0 w w' : World} {Al : Blks} {N : Nat} {g : Gh} {σ : St} {a : Act} {K : Exit → St → Prop}
theorem nil_len (m : Mem w g σ) {l : L} {n : Nat} {v : Value} (hl : lenOf l = some n) (h : RepL w g σ l v) : ∃ oa cap, v = .slice oa n cap ∧ (oa = none → n = 0) := by
  cases l with
  | ref r p z off len =>
    simp only [lenOf, Option.some.injEq] at hl
    subst hl
    obtain ⟨row, es, u, h1, h2, h3, h4, h5⟩ := h
    obtain ⟨oa, k, cap, oa', rfl, rfl, h6⟩ := h5
    refine ⟨oa', _, rfl, fun e => ?_⟩
    subst e
    obtain ⟨u', hu', hr⟩ := m.at h1 h2
    rw [h3] at hu'
    cases hu'
    obtain ⟨hcap, hk⟩ := hr.cap_ge
    rcases h6 with h6 | h6
    · omega
    · cases oa with
      | some x => simp at h6
      | none => cases hr with | nils => simp at h4; omega
  | nil =>
    simp only [lenOf, Option.some.injEq] at hl
    subst hl
    obtain ⟨oa, rfl⟩ := h
    exact ⟨oa, 0, rfl, fun _ => rfl⟩
  | _ => simp [lenOf] at hl
theorem W_regNil {id x d1 d2 t te ty1 ty2 e : Nat} {ps1 ps2 : String} {af : Array Edge} {l : L} {n : Nat} (hu : (tyOf P t).u = .sl e) (hx : get σ.env x = some (true, .l l)) (hl : lenOf l = some n) (h1 : d1 < N) (h2 : d2 < N)
    (h : ∀ b : Bool, (b = true → n = 0) → K .normal ((σ.set (some d1) true (.l l)).set (some d2) true (.l (.t (.bool b))))) :
    W P N (.region id #[{ dst := some d1, op := .move (.tmp x), type := ty1, pos := ps1, after := #[], guard := none },
      { dst := some d2, op := .binOp .eql t (.tmp d1) (.const (.slice none 0 0)) te, type := ty2, pos := ps2, after := af, guard := none }] false) K σ := by
  intro w0 Al a w g R
  refine wp_region ?_
  have hu' : ∃ e', P.underlying t = some (.slice e') := by
    simp only [tyOf, uOf] at hu
    split at hu <;> simp_all
  obtain ⟨e', hu'⟩ := hu'
  have hxr := R.slots.yes x true _ hx rfl
  obtain ⟨oa, cap, hv, hnil⟩ := nil_len R.mem hl hxr
  have R1 := Rel.put (x := a.tmps.getD x undef) (d := some d1) (v := .l l) (c := true) R (fun t e => by cases e; exact h1) (fun _ => hxr) (fun e => by cases e)
  have ev : (a.put (some d1) (a.tmps.getD x undef)).eval (.tmp d1) = .slice oa n cap := by
    have hs : d1 < a.tmps.size := R.tsz ▸ h1
    rw [← hv]
    simp [Act.eval, Act.put, hs, Array.getD]
  have heq : ∀ w1 : World, (Go.binOp .eql t (.slice oa n cap) (.slice none 0 0)).run P w1 = .ok (.bool oa.isNone) w1 := by
    intro w1
    have hq : (Op.equal t (.slice oa n cap) (.slice none 0 0)).run P w1 = .ok oa.isNone w1 := by
      show (Op.equalIn (9999 + 1) t (.slice oa n cap) (.slice none 0 0)).run P w1 = _
      generalize 9999 = d
      simp only [Op.equalIn, Sem.run_bind, run_underlying hu', Result.andThen_ok]
      cases oa <;> simp [Sem.run_pure]
    show ((do pure (.bool (← Op.equal t (.slice oa n cap) (.slice none 0 0))) : Sem Value)).run P w1 = _
    simp only [Sem.run_bind, hq, Result.andThen_ok, Sem.run_pure]
  have R2 := Rel.put (x := .bool oa.isNone) (d := some d2) (v := .l (.t (.bool oa.isNone))) (c := true) R1 (fun t e => by cases e; exact h2) (fun _ => .bool) (fun e => by cases e)
  have hK := h oa.isNone (fun e => hnil (by simpa using e))
  have e0 : List.range (2 : Nat) = [0, 1] := rfl
  simp only [List.size_toArray, List.length_cons, List.length_nil, Nat.zero_add, Nat.reduceAdd, e0, wpOps, List.getElem?_toArray, List.getElem?_cons_zero, List.getElem?_cons_succ, Region.wanted, if_true]
  refine .inl ?_
  have q1 : (execOp a.eval { dst := some d1, op := .move (.tmp x), type := ty1, pos := ps1, after := #[], guard := none }).run P w = .ok (.value (a.tmps.getD x undef)) w := by simp [execOp, Act.eval]
  simp only [Oper.wp, q1, Oper.upon]
  refine .inl ?_
  have q2 : (execOp (a.put (some d1) (a.tmps.getD x undef)).eval { dst := some d2, op := .binOp .eql t (.tmp d1) (.const (.slice none 0 0)) te, type := ty2, pos := ps2, after := af, guard := none }).run P w = .ok (.value (.bool oa.isNone)) w := by
    have hg : (eqGuard .eql t (.tmp d1) (.const (.slice none 0 0)) (.slice oa n cap) (.slice none 0 0)).run P w = .ok () w := by simp [eqGuard]
    have e2 : (a.put (some d1) (a.tmps.getD x undef)).eval (.const (.slice none 0 0)) = .slice none 0 0 := rfl
    simp only [execOp, ev, e2, Sem.run_bind, hg, heq, Result.andThen_ok, Sem.run_pure]
  simp only [q2]
  exact ⟨_, _, R2, hK⟩
end
theorem flat_nil : Flat [] := by simp [Flat]
theorem flat_cons (x : List T) (xs : Els) : Flat (x :: xs) ↔ (∀ c ∈ x, c.flat = true) ∧ Flat xs := by simp [Flat]
theorem flat_app (xs ys : Els) : Flat (xs ++ ys) ↔ Flat xs ∧ Flat ys := by
  simp only [Flat, List.mem_append]
  exact ⟨fun h => ⟨fun x hx => h x (Or.inl hx), fun x hx => h x (Or.inr hx)⟩, fun h x hx => hx.elim (h.1 x) (h.2 x)⟩
theorem flat_enc {α : Type} {f : α → List T} (xs : List α) (h : ∀ x, (f x).all T.flat = true) : Flat (enc f xs) := by
  intro x hx c hc
  simp only [enc, List.mem_map] at hx
  obtain ⟨y, _, rfl⟩ := hx
  exact List.all_eq_true.1 (h y) c hc
theorem flat_eI (xs : List Int) : Flat (enc eI xs) := flat_enc xs fun _ => rfl
theorem flat_eB (xs : List Bool) : Flat (enc eB xs) := flat_enc xs fun _ => rfl
theorem flat_eIns (xs : List GIns) : Flat (enc eIns xs) := flat_enc xs fun _ => rfl
theorem flat_eWait (xs : List GWait) : Flat (enc eWait xs) := flat_enc xs fun _ => rfl
theorem flat_eReceiver (xs : List GReceiver) : Flat (enc eReceiver xs) := flat_enc xs fun _ => rfl
attribute [go_sem] appT appS partsL takeLss shareL shareLs shareLss flat_nil flat_cons flat_app flat_eI flat_eB flat_eIns flat_eWait flat_eReceiver T.flat lenOf
end Go.Tw

namespace Go.Tw
def BoxReads (w : World) (b : Nat) (ts : List T) : Prop := ∃ cs e fr, w.heap[b]? = some (.cells cs e fr) ∧ cs.size = ts.length ∧ ∀ (i : Nat) t, ts[i]? = some t → Rep w false (cs.getD i undef) t fun _ => True
def BoxesRead (w : World) : List Nat → List (List T) → Prop
  | [], [] => True
  | b :: bs, ts :: tss => BoxReads w b ts ∧ BoxesRead w bs tss
  | _, _ => False
def ptrU (b : Nat) : Value := .pointer (some ⟨b, 0, none⟩)
def PCb (P : Program) (f : FuncId) (args : List A) (caps : List (List T)) (res : List A) : Prop :=
  Ours P f ∧ ∀ w vs bs, Shapes args vs → (∀ (j : Nat) t v, (flatA args)[j]? = some t → (flatU vs)[j]? = some v → Rep w false v t fun _ => True) → BoxesRead w bs caps → Calls P f (vs ++ bs.map ptrU).toArray w fun
    | .returned r, w' => w.heap.size ≤ w'.heap.size ∧ (∀ b, b < w.heap.size → w'.heap[b]? = w.heap[b]?) ∧ w'.os = w.os ∧ w'.tape = w.tape ∧ w'.output = w.output ∧
        ∃ us, r = oneU us ∧ Shapes res us ∧ ∃ F : Nat → Blks, (∀ (j : Nat) t v, (flatA res)[j]? = some t → (flatU us)[j]? = some v → Rep w' true v t (F j)) ∧ (∀ j b, F j b → w.heap.size ≤ b) ∧ ∀ j j' b, F j b → F j' b → j = j'
    | _, _ => False
def capRows : Nat → List (List T) → List (Nat × Row)
  | _, [] => []
  | k, ts :: r => (k, ⟨.ro, ts.length, [ts]⟩) :: capRows (k + 1) r
def capVals : Nat → List (List T) → List V
  | _, [] => []
  | k, _ :: r => .l (.ept k [] 0 0 0) :: capVals (k + 1) r
def St.startB (args : List A) (caps : List (List T)) : St :=
  { env := paramsE 0 (valsN 0 args ++ capVals (flatA args).length caps), box := [], row := rowsN .ro 0 (flatA args) ++ capRows (flatA args).length caps, nxt := (flatA args).length + caps.length, sav := [] }
section
variable {P : Program} {w0 w w' : World} {Al : Blks} {N : Nat} {g : Gh} {σ σ' : St} {a : Act}
theorem get_capRows : ∀ (caps : List (List T)) (k n : Nat), get (capRows k caps) n = if k ≤ n then (caps[n - k]?).map fun ts => ⟨.ro, ts.length, [ts]⟩ else none
  | [], k, n => by simp [capRows, get]
  | ts :: r, k, n => by
    simp only [capRows, get]
    by_cases h : n = k
    · subst h; simp
    · rw [if_neg h, get_capRows r (k + 1) n]
      by_cases h1 : k + 1 ≤ n
      · rw [if_pos h1, if_pos (by omega)]
        have : n - k = (n - (k + 1)) + 1 := by omega
        rw [this]
        simp
      · rw [if_neg h1, if_neg (by omega)]
theorem boxes_len : ∀ {bs : List Nat} {caps : List (List T)}, BoxesRead w bs caps → bs.length = caps.length
  | [], [], _ => rfl
  | _ :: _, _ :: _, h => by simp [boxes_len h.2]
  | [], _ :: _, h => h.elim
  | _ :: _, [], h => h.elim
theorem boxes_get : ∀ {bs : List Nat} {caps : List (List T)}, BoxesRead w bs caps → ∀ {j : Nat} {ts : List T}, caps[j]? = some ts → ∃ b, bs[j]? = some b ∧ BoxReads w b ts
  | b :: _, _ :: _, h, 0, ts, e => by simp at e; subst e; exact ⟨b, rfl, h.1⟩
  | _ :: _, _ :: _, h, j + 1, ts, e => boxes_get h.2 (j := j) (by simpa using e)
  | [], [], _, _, _, e => by simp at e
  | [], _ :: _, h, _, _, _ => h.elim
  | _ :: _, [], h, _, _, _ => h.elim
theorem box_rep {b : Nat} {ts : List T} (h : BoxReads w b ts) : Rep w false (.slice (some ⟨b, 0, none⟩) 1 1) (.sl ts.length [ts]) fun _ => True := by
  obtain ⟨cs, e, fr, h1, h2, h3⟩ := h
  have key := Rep.sl (w := w) (o := false) (a := ⟨b, 0, none⟩) (cap := 1) (z := ts.length) (es := [ts]) (F := fun _ => True) (cs := cs) (fun _ _ _ => True)
    ⟨⟨e, fr, h1, fun h => by cases h⟩, rfl, by simp, by simp [h2], by simp⟩ trivial (fun _ _ _ _ => trivial) (fun h => by cases h) (fun h => by cases h) (fun i j x c hx hc => ?_)
  · exact key
  · have hi : i = 0 := by
      have := (List.getElem?_eq_some_iff.1 hx).1
      simp at this
      exact this
    subst hi
    simp at hx
    subst hx
    simpa using h3 j c hc
theorem capVals_rep : ∀ {caps : List (List T)} {bs : List Nat} {k : Nat}, bs.length = caps.length → (∀ (j : Nat) ts, caps[j]? = some ts → get σ.row (k + j) = some ⟨.ro, ts.length, [ts]⟩ ∧ ∃ b, bs[j]? = some b ∧ g.rw (k + j) = .slice (some ⟨b, 0, none⟩) 1 1) →
    RepVs w g σ (capVals k caps) (bs.map ptrU)
  | [], [], _, _, _ => trivial
  | ts :: caps, b :: bs, k, hl, h => by
    refine ⟨?_, capVals_rep (k := k + 1) (by simpa using hl) fun j ts' e => ?_⟩
    · obtain ⟨h1, b', h2, h3⟩ := h 0 ts rfl
      simp at h2
      subst h2
      refine ⟨_, ts.length, [ts], ⟨b, 0, none⟩, 1, 1, h1, rfl, ?_, by simp, rfl, by simp [ptrU]⟩
      simpa [valAt] using h3
    · obtain ⟨h1, b', h2, h3⟩ := h (j + 1) ts' (by simpa using e)
      refine ⟨by rw [show k + 1 + j = k + (j + 1) from by omega]; exact h1, b', by simpa using h2, by rw [show k + 1 + j = k + (j + 1) from by omega]; exact h3⟩
  | [], _ :: _, _, hl, _ => by simp at hl
  | _ :: _, [], _, hl, _ => by simp at hl
theorem PCb_of {f : FuncId} {fn : Func} {c : Code} {args res : List A} {caps : List (List T)} (hf : P.funcs[f]? = some fn) (hb : fn.body = some c) (hn : (fn.name == "runtime.NumGoroutine") = false) {n : Nat} (hnt : fn.ntmps = n) {rs : List ResultVar} (hrs : fn.results.toList = rs) (hl : args.length + caps.length ≤ n)
    (h : W P n c (OutN P rs res) (St.startB args caps)) : PCb P f args caps res := by
  subst hnt hrs
  refine ⟨⟨fn, hf, by simp [hb], hn⟩, fun w vs bs hsh hrep hbox => calls_of_wp hf hb ?_⟩
  let n0 := (flatA args).length
  let g : Gh := ⟨fun _ => 0, fun k => if k < n0 then (flatU vs).getD k undef else .slice (some ⟨bs.getD (k - n0) 0, 0, none⟩) 1 1, fun _ _ => False⟩
  have hfl := flatU_length hsh
  have hbl := boxes_len hbox
  have hrow : ∀ r row, get (St.startB args caps).row r = some row → row.pm = .ro ∧ ((r < n0 ∧ (flatA args)[r]? = some (.sl row.z row.es)) ∨ (n0 ≤ r ∧ ∃ ts, caps[r - n0]? = some ts ∧ row = ⟨.ro, ts.length, [ts]⟩)) := by
    intro r row hr
    simp only [St.startB, get_append, get_rowsN, get_capRows, Nat.zero_le, if_true, Nat.sub_zero] at hr
    by_cases hlt : r < n0
    · have h0 : ∃ t, (flatA args)[r]? = some t := ⟨_, List.getElem?_eq_getElem hlt⟩
      obtain ⟨t, ht⟩ := h0
      rw [ht] at hr
      rw [if_neg (by show ¬ n0 ≤ r; omega)] at hr
      cases t with
      | sl z es => simp at hr; subst hr; exact ⟨rfl, .inl ⟨hlt, ht⟩⟩
      | _ => simp at hr
    · rw [List.getElem?_eq_none (by show n0 ≤ r; omega), if_pos (by show n0 ≤ r; omega)] at hr
      cases hc : caps[r - (flatA args).length]? with
      | none => rw [hc] at hr; simp at hr
      | some ts => rw [hc] at hr; simp at hr; subst hr; exact ⟨rfl, .inr ⟨by omega, ts, rfl, rfl⟩⟩
  have hown : ∀ b, ¬ Owned g (St.startB args caps) b := by
    rintro b (⟨k, ls, h1, _⟩ | ⟨r, row, h1, h2, _⟩)
    · simp [St.startB, get] at h1
    · exact h2 (hrow r row h1).1
  have hvals1 : RepVs w g (St.startB args caps) (valsN 0 args) vs := by
    refine valsN_rep hsh fun j t v ht hv => ?_
    have hlt : j < n0 := (List.getElem?_eq_some_iff.1 ht).1
    refine leafN_rep (hrep j t v ht hv) fun z es e => ?_
    subst e
    refine ⟨⟨.ro, z, es⟩, ?_, rfl, rfl, ?_⟩
    · simp only [St.startB, get_append, get_rowsN, Nat.zero_le, if_true, Nat.zero_add, Nat.sub_zero, ht]
    · simp only [Nat.zero_add, g, hlt, if_true]
      simp [hv]
  have hvals2 : RepVs w g (St.startB args caps) (capVals n0 caps) (bs.map ptrU) := by
    refine capVals_rep hbl fun j ts e => ?_
    obtain ⟨b, hb1, _⟩ := boxes_get hbox e
    refine ⟨?_, b, hb1, ?_⟩
    · simp only [St.startB, get_append, get_rowsN, get_capRows, Nat.zero_le, if_true, Nat.sub_zero]
      rw [List.getElem?_eq_none (by show n0 ≤ n0 + j; omega)]
      show (if n0 ≤ n0 + j then _ else _) = _
      rw [if_pos (by omega), show n0 + j - (flatA args).length = j from by show n0 + j - n0 = j; omega, e]
      rfl
    · simp only [g]
      rw [if_neg (by omega), show n0 + j - n0 = j from by omega]
      simp [hb1]
  have hvals := hvals1.append hvals2
  have hlen := hvals.length
  have hal : args.length = vs.length := hsh.length
  have R : Rel w (fun _ => False) fn.ntmps (St.startB args caps) { tmps := (vs ++ bs.map ptrU).toArray ++ Array.replicate (fn.ntmps - (vs ++ bs.map ptrU).toArray.size) undef, defers := [] } w g := by
    refine ⟨⟨fun t c v hg hc => ?_, fun t c v hg hc => ?_⟩, paramsE_unq _ 0, ⟨?_, ?_, ?_, ?_, ?_, ?_, ?_, fun b hb => (hown b hb).elim⟩, fun b hb => (hown b hb).elim, fun _ _ _ => rfl, Nat.le_refl _, rfl, rfl, rfl, rfl, by simp; omega, fun x hx => by simp [St.startB] at hx⟩
    · obtain ⟨_, _, h3⟩ := get_paramsE _ 0 t c v hg
      obtain ⟨u, hu, hr⟩ := hvals.nth (j := t) (by simpa using h3)
      have hlt : t < (vs ++ bs.map ptrU).length := (List.getElem?_eq_some_iff.1 hu).1
      have : ((vs ++ bs.map ptrU).toArray ++ Array.replicate (fn.ntmps - (vs ++ bs.map ptrU).toArray.size) undef).getD t undef = u := by
        rw [Array.getD_eq_getD_getElem?, Array.getElem?_append_left (by simpa using hlt), List.getElem?_toArray, hu]
        rfl
      rw [this]
      exact hr
    · have := (get_paramsE _ 0 t c v hg).1
      rw [hc] at this
      cases this
    · intro k ls h; simp [St.startB, get] at h
    · intro r row h hp; rw [(hrow r row h).1] at hp; cases hp
    · intro r row h hp; rw [(hrow r row h).1] at hp; cases hp
    · intro r row h hp
      rcases (hrow r row h).2 with ⟨hlt, ht⟩ | ⟨hge, ts, hc, rfl⟩
      · have hlt2 : r < (flatU vs).length := by rw [hfl]; exact hlt
        have hv : (flatU vs)[r]? = some ((flatU vs).getD r undef) := by simp [List.getD_eq_getElem?_getD, List.getElem?_eq_getElem hlt2]
        have := (hrep r _ _ ht hv).mono fun b _ => hown b
        simp only [g, hlt, if_true]
        exact this
      · obtain ⟨b, hb1, hb2⟩ := boxes_get hbox hc
        have := (box_rep hb2).mono fun b _ => hown b
        simp only [g]
        rw [if_neg (by omega)]
        have e : bs.getD (r - n0) 0 = b := by simp [List.getD_eq_getElem?_getD, hb1]
        rw [e]
        exact this
    · intro k k' ls ls' h; simp [St.startB, get] at h
    · intro k ls r row h; simp [St.startB, get] at h
    · intro r r' row row' b h _ hp; exact absurd (hrow r row h).1 hp
  refine wp_mono (h w (fun _ => False) _ w g R) fun e a' w' ⟨σ', g', R', hK⟩ => ?_
  have fin : (match resV P σ' fn.results.toList with
    | some (c, vs) => c ∧ shapeVs res vs ∧ match takeLs σ' ((flatA res).map zOf) (vs.flatMap V.leaves) with
      | some (c', ts, _) => c' ∧ ts = flatA res
      | none => False
    | none => False) → a'.defers = [] ∧ ∃ v, (results fn a'.tmps).run P w' = .ok v w' ∧ (w.heap.size ≤ w'.heap.size ∧ (∀ b, b < w.heap.size → w'.heap[b]? = w.heap[b]?) ∧ w'.os = w.os ∧ w'.tape = w.tape ∧ w'.output = w.output ∧
        ∃ us, v = oneU us ∧ Shapes res us ∧ ∃ F : Nat → Blks, (∀ (j : Nat) t v, (flatA res)[j]? = some t → (flatU us)[j]? = some v → Rep w' true v t (F j)) ∧ (∀ j b, F j b → w.heap.size ≤ b) ∧ ∀ j j' b, F j b → F j' b → j = j') := by
    intro hK
    refine ⟨R'.dfr, ?_⟩
    split at hK
    · rename_i c vs' hres
      obtain ⟨hc, hsv, hK⟩ := hK
      split at hK
      · rename_i c' ts rs hts
        obtain ⟨hc', rfl⟩ := hK
        obtain ⟨us, hr, hus⟩ := resV_us R'.mem R'.slots hres hc
        obtain ⟨hS, hL⟩ := shapeVs_rep hsv hus
        obtain ⟨_, _, F, q1, q2, q3⟩ := takeLs_rep R'.mem hts hc' hL
        refine ⟨_, hr, R'.siz, fun b hb => R'.frm b hb (fun h => h), R'.os, R'.tape, R'.out, us, rfl, hS, F, q1, fun j b hb => ?_, q3⟩
        obtain ⟨r, row, _, h1, h2, h3⟩ := q2 j b hb
        rcases R'.own b (Or.inr ⟨r, row, h1, h2, h3⟩) with h | h
        · exact h
        · exact h.elim
      · exact hK.elim
    · exact hK.elim
  cases e with
  | normal => exact fin hK
  | ret => exact fin hK
  | _ => exact hK.elim
theorem PC.toB {f : FuncId} {args res : List A} (h : PC P f args res) : PCb P f args [] res :=
  ⟨h.1, fun w vs bs hsh hrep hbox => by
    cases bs with
    | nil =>
      rw [List.map_nil, List.append_nil]
      exact Calls.mono (h.2 w vs hsh hrep) fun e w' he => by cases e <;> exact he
    | cons => exact hbox.elim⟩
def capsDen (σ : St) : List Nat → List (List T) → Prop
  | [], [] => True
  | b :: bs, ts :: tss => (∃ ls, get σ.box b = some ls ∧ denLs σ ls ts) ∧ capsDen σ bs tss
  | _, _ => False
theorem capsDen_read (m : Mem w g σ) : ∀ {bs : List Nat} {caps : List (List T)}, capsDen σ bs caps → BoxesRead w (bs.map g.bx) caps
  | [], [], _ => trivial
  | b :: bs, ts :: caps, h => by
    obtain ⟨⟨ls, h1, h2⟩, h3⟩ := h
    refine ⟨?_, capsDen_read m h3⟩
    obtain ⟨cs, e, h4, h5⟩ := m.box b ls h1
    obtain ⟨h6, h7⟩ := denLs_rep m h5 h2
    refine ⟨cs, e, (0, 0), h4, by simpa using h6.symm, fun i t ht => ?_⟩
    have hi : i < cs.size := by have := (List.getElem?_eq_some_iff.1 ht).1; rw [h6] at this; simpa using this
    refine h7 i t _ ht ?_
    simp [Array.getD, hi]
  | [], _ :: _, h => h.elim
  | _ :: _, [], h => h.elim
theorem RepVs.split : ∀ {xs ys : List V} {us : List Value}, RepVs w g σ (xs ++ ys) us → ∃ us1 us2, us = us1 ++ us2 ∧ RepVs w g σ xs us1 ∧ RepVs w g σ ys us2
  | [], _, us, h => ⟨[], us, rfl, trivial, h⟩
  | _ :: xs, ys, u :: us, h => by
    obtain ⟨u1, u2, rfl, h1, h2⟩ := RepVs.split (xs := xs) h.2
    exact ⟨u :: u1, u2, rfl, ⟨h.1, h1⟩, h2⟩
  | _ :: _, _, [], h => h.elim
theorem ptrs_rep : ∀ {bs : List Nat} {us : List Value}, RepVs w g σ (bs.map fun b => .l (.ptr b 0)) us → us = (bs.map g.bx).map ptrU
  | [], [], _ => rfl
  | b :: bs, u :: us, h => by
    obtain ⟨h1, h2⟩ := h
    rw [ptrs_rep h2]
    have : u = ptrU (g.bx b) := h1.2
    rw [this]
    rfl
  | [], _ :: _, h => h.elim
  | _ :: _, [], h => h.elim
theorem CallW_pureB {f : FuncId} {args res : List A} {caps : List (List T)} {bs : List Nat} {vs : List V} {v : V} {K : St → V → Prop} (hpc : PCb P f args caps res) (hden : denVs σ vs args) (hcap : capsDen σ bs caps) (hv : oneV (valsN σ.nxt res) = some v)
    (hfr : ∀ j, j < (flatA res).length → get σ.row (σ.nxt + j) = none) (hK : K (σ.answer res) v) {k : Bool} : CallW P k f (vs ++ bs.map fun b => .l (.ptr b 0)) K σ := by
  refine ⟨hpc.1, fun w0 Al N a w g us R hus => ?_⟩
  obtain ⟨us1, us2, rfl, hus1, hus2⟩ := RepVs.split hus
  obtain rfl := ptrs_rep hus2
  obtain ⟨h1, h2⟩ := denVs_rep R.mem hus1 hden
  refine Calls.mono (hpc.2 w us1 _ h1 h2 (capsDen_read R.mem hcap)) fun e w' he => ?_
  cases e with
  | panicked => exact he
  | outgrown => exact he
  | returned r =>
    obtain ⟨hsiz, hold, hos, htape, hout, us', rfl, hsh, F, hF, hlo, hdis⟩ := he
    obtain ⟨g', hin, hrw⟩ := answer_in R.mem hfr hsh hF hlo hdis hsiz hold
    have R' := R.turn hin ⟨by rw [killE_no]; rfl, (killS_no _).symm⟩ hos htape hout
    refine ⟨σ.answer res, g', v, R', ?_, hK, fun _ => hold⟩
    refine oneV_unit hv (valsN_rep hsh fun j t u ht hu => leafN_rep (hF j t u ht hu) fun z es e => ?_)
    subst e
    have hj : j < (flatA res).length := (List.getElem?_eq_some_iff.1 ht).1
    refine ⟨⟨.own, z, es⟩, ?_, rfl, rfl, hrw j u hj hu⟩
    simp only [St.answer, get_append, get_rowsN, Nat.le_add_right, if_true, Nat.add_sub_cancel_left, ht]
def Quiet (P : Program) (f : FuncId) (vs : List V) (t : T) (σ : St) : Prop := ∀ K : St → V → Prop, K σ (.l (.t t)) → CallW P false f vs K σ
theorem denL_same {σ' : St} (hr : σ'.row = σ.row) (l : L) (t : T) : denL σ' l t = denL σ l t := by
  unfold denL nodeOf
  rw [hr]
theorem denLs_same {σ' : St} (hr : σ'.row = σ.row) : ∀ (ls : List L) (ts : List T), denLs σ' ls ts = denLs σ ls ts
  | [], [] => rfl
  | _ :: ls, _ :: ts => by simp only [denLs, denL_same hr, denLs_same hr ls ts]
  | [], _ :: _ => rfl
  | _ :: _, [] => rfl
theorem capsDen_same {σ' : St} (hb : σ'.box = σ.box) (hr : σ'.row = σ.row) : ∀ {bs : List Nat} {caps : List (List T)}, capsDen σ bs caps → capsDen σ' bs caps
  | [], [], _ => trivial
  | _ :: _, _ :: _, ⟨⟨ls, h1, h2⟩, h3⟩ => ⟨⟨ls, by rw [hb]; exact h1, by rw [denLs_same hr]; exact h2⟩, capsDen_same hb hr h3⟩
  | [], _ :: _, h => h.elim
  | _ :: _, [], h => h.elim
theorem CallW_num {k : Bool} {f : FuncId} {vs : List V} {t : T} {K : St → V → Prop} {n : Nat} (h : CallW P k f vs (fun σ' v => v = .l (.t t) ∧ K { σ' with nxt := n } v) σ) : CallW P k f vs K σ := by
  refine ⟨h.1, fun w0 Al N a w g us R hus => Calls.mono (h.2 w0 Al N a w g us R hus) fun e w' he => ?_⟩
  cases e with
  | panicked => exact he
  | outgrown => exact he
  | returned r =>
    obtain ⟨σ', g', v, R', hv, ⟨rfl, hK⟩, hk⟩ := he
    exact ⟨_, g', _, R'.num n, hv.same rfl rfl, hK, hk⟩
theorem quiet_pcb {f : FuncId} {args : List A} {caps : List (List T)} {bs : List Nat} {vs : List V} {t : T} (hpc : PCb P f args caps [(false, [t])]) (hden : denVs σ vs args) (hcap : capsDen σ bs caps) (hfr : σ.row.all (fun x => decide (x.1 < σ.nxt)) = true)
    (ht : (match t with | .sl .. | .hole => false | _ => true) = true) : Quiet P f (vs ++ bs.map fun b => .l (.ptr b 0)) t σ := by
  intro K hK
  have hlf : leafN σ.nxt t = .t t := by cases t <;> simp_all [leafN]
  have hrw : rowsN .own σ.nxt [t] = [] := by cases t <;> simp_all [rowsN]
  refine CallW_num (n := σ.nxt) (CallW_pureB (v := .l (.t t)) hpc hden hcap (by simp [valsN, oneV, hlf]) (fun _ _ => get_lt hfr _ (by omega)) ⟨rfl, ?_⟩)
  have : ({ σ.answer [(false, [t])] with nxt := σ.nxt } : St) = σ := by
    unfold St.answer
    simp only [flatA, List.flatMap_cons, List.flatMap_nil, List.append_nil, hrw, List.nil_append]
  rw [this]
  exact hK
theorem callG_quiet {f : FuncId} {vs : List V} {t : T} {c : Prop} {G : Bool} {d : Option Nat} {next : St → Prop} (h : G = true → Quiet P f vs t σ) (hc : G = true → c) (hK : next (σ.set d G (.l (.t t)))) : CallG P false f vs c G d next σ := by
  cases G with
  | true => exact callG_true (hc rfl) (h rfl _ hK)
  | false => exact ⟨σ, .l (.t t), (fun _ _ _ _ _ g R => ⟨g, R⟩), fun _ => hK, fun e => by cases e⟩
end
def idxOf {α : Type} (p : α → Bool) (xs : List α) : Int := match xs.findIdx? p with
  | some i => i
  | none => -1
theorem idxOf_none {α : Type} {p : α → Bool} {xs : List α} (h : ∀ j, (hj : j < xs.length) → p xs[j] = false) : idxOf p xs = -1 := by
  have : xs.findIdx? p = none := by
    rw [List.findIdx?_eq_none_iff]
    intro x hx
    obtain ⟨j, hj, rfl⟩ := List.getElem_of_mem hx
    exact h j hj
  simp [idxOf, this]
theorem idxOf_some {α : Type} {p : α → Bool} {xs : List α} {i : Nat} (h : ∀ j, (hj : j < xs.length) → j < i → p xs[j] = false) (hi : i < xs.length) (hp : p xs[i] = true) : idxOf p xs = i := by
  have : xs.findIdx? p = some i := by
    rw [List.findIdx?_eq_some_iff_getElem]
    exact ⟨hi, hp, fun j hj => by simp [h j (by omega) hj]⟩
  simp [idxOf, this]
theorem idxOf_any {α : Type} (p : α → Bool) (xs : List α) : decide (0 ≤ idxOf p xs) = xs.any p := by
  cases h : xs.findIdx? p with
  | none =>
    rw [List.findIdx?_eq_none_iff] at h
    have h2 : xs.findIdx? p = none := by rw [List.findIdx?_eq_none_iff]; exact h
    have : xs.any p = false := by simpa using h
    simp [idxOf, h2, this]
  | some i =>
    have h2 := h
    rw [List.findIdx?_eq_some_iff_getElem] at h
    obtain ⟨hi, hp, _⟩ := h
    have : xs.any p = true := List.any_eq_true.2 ⟨_, List.getElem_mem hi, hp⟩
    simp [idxOf, h2, this]
attribute [go_sem] St.startB capRows capVals capsDen
end Go.Tw

namespace Go.Tw
inductive Sch where
  | nil
  | op (i : Nat) (r : Sch)
  | fork (i : Nat) (a : Sch) (j : Nat) (b : Sch)
  | fork3 (i : Nat) (a : Sch) (j : Nat) (b : Sch) (k : Nat) (c : Sch)
  | fork4 (i : Nat) (a : Sch) (j : Nat) (b : Sch) (k : Nat) (c : Sch) (m : Nat) (d : Sch)
  | sub (r : Sch)
def Sch.len : Sch → Nat
  | .nil => 0
  | .op _ r => r.len + 1
  | .fork _ a _ _ => a.len + 1
  | .fork3 _ a _ _ _ _ => a.len + 1
  | .fork4 _ a _ _ _ _ _ _ => a.len + 1
  | .sub r => r.len
def checkS (kc : Bool) (ops : Array Oper) : Sch → Array Bool → Bool
  | .nil, listed => (Region.ready .any ops listed).isEmpty
  | .op i r, listed => (Region.ready .any ops listed).contains i && (freeK kc ops listed i || Region.ready .any ops listed == [i]) && checkS kc ops r (listed.setIfInBounds i true)
  | .fork i a j b, listed => Region.ready .any ops listed == [i, j] && a.len == b.len && checkS kc ops a (listed.setIfInBounds i true) && checkS kc ops b (listed.setIfInBounds j true)
  | .fork3 i a j b k c, listed => Region.ready .any ops listed == [i, j, k] && a.len == b.len && a.len == c.len && checkS kc ops a (listed.setIfInBounds i true) && checkS kc ops b (listed.setIfInBounds j true) && checkS kc ops c (listed.setIfInBounds k true)
  | .fork4 i a j b k c m d, listed => Region.ready .any ops listed == [i, j, k, m] && a.len == b.len && a.len == c.len && a.len == d.len && checkS kc ops a (listed.setIfInBounds i true) && checkS kc ops b (listed.setIfInBounds j true) && checkS kc ops c (listed.setIfInBounds k true) && checkS kc ops d (listed.setIfInBounds m true)
  | .sub r, listed => checkS kc ops r listed
inductive SchO where
  | nil
  | op (o : Oper) (r : SchO)
  | fork (o : Oper) (a : SchO) (p : Oper) (b : SchO)
  | fork3 (o : Oper) (a : SchO) (p : Oper) (b : SchO) (q : Oper) (c : SchO)
  | fork4 (o : Oper) (a : SchO) (p : Oper) (b : SchO) (q : Oper) (c : SchO) (r : Oper) (d : SchO)
  | sub (r : SchO)
def Sch.ops (l : List Oper) : Sch → Option SchO
  | .nil => some .nil
  | .op i r => match l[i]?, r.ops l with
    | some o, some r' => some (.op o r')
    | _, _ => none
  | .fork i a j b => match l[i]?, a.ops l, l[j]?, b.ops l with
    | some o, some a', some p, some b' => some (.fork o a' p b')
    | _, _, _, _ => none
  | .fork3 i a j b k c => match l[i]?, a.ops l, l[j]?, b.ops l, l[k]?, c.ops l with
    | some o, some a', some p, some b', some q, some c' => some (.fork3 o a' p b' q c')
    | _, _, _, _, _, _ => none
  | .fork4 i a j b k c m d => match l[i]?, a.ops l, l[j]?, b.ops l, l[k]?, c.ops l, l[m]?, d.ops l with
    | some o, some a', some p, some b', some q, some c', some r, some d' => some (.fork4 o a' p b' q c' r d')
    | _, _, _, _, _, _, _, _ => none
  | .sub r => match r.ops l with
    | some r' => some (.sub r')
    | none => none
def RunS (P : Program) (N : Nat) (k : Bool) (ops : List Oper) (K : St → Prop) : SchO → St → Prop
  | .nil, σ => K σ
  | .op o r, σ => Step P N k ops o σ (RunS P N k ops K r)
  | .fork o a p b, σ => Step P N k ops o σ (RunS P N k ops K a) ∧ Step P N k ops p σ (RunS P N k ops K b)
  | .fork3 o a p b q c, σ => Step P N k ops o σ (RunS P N k ops K a) ∧ Step P N k ops p σ (RunS P N k ops K b) ∧ Step P N k ops q σ (RunS P N k ops K c)
  | .fork4 o a p b q c r d, σ => Step P N k ops o σ (RunS P N k ops K a) ∧ Step P N k ops p σ (RunS P N k ops K b) ∧ Step P N k ops q σ (RunS P N k ops K c) ∧ Step P N k ops r σ (RunS P N k ops K d)
  | .sub r, σ => ∃ σ', Sub σ σ' ∧ RunS P N k ops K r σ'
section
variable {kc : Bool} {P : Program} {w0 w w' : World} {Al : Blks} {N : Nat} {g : Gh} {σ : St} {a : Act} {ops : Array Oper} {Q : Exit → Act → World → Prop}
theorem RunS_sound {l : List Oper} {K : St → Prop} (hsel : Region.noSelect l.toArray = true) (hQ : ∀ c a w, ¬ Q (.panic c) a w) (hK : ∀ σ' a' w' g', Rel w0 Al N σ' a' w' g' → K σ' → Q .normal a' w') :
    ∀ (s : Sch) (os : SchO) (listed : Array Bool) (σ : St) (a : Act) (w : World) (g : Gh), checkS kc l.toArray s listed = true → s.ops l = some os → RunS P N kc l K os σ → Rel w0 Al N σ a w g →
      wpAnyK kc P l.toArray Q s.len listed a w
  | .nil, os, listed, σ, a, w, g, hc, ho, h, R => by
    simp only [Sch.ops, Option.some.injEq] at ho
    subst ho
    simp only [checkS, List.isEmpty_iff] at hc
    exact ⟨hc, hK σ a w g R h⟩
  | .op i rest, os, listed, σ, a, w, g, hc, ho, h, R => by
    simp only [Sch.ops] at ho
    split at ho
    · rename_i o r' ho1 hos
      simp only [Option.some.injEq] at ho
      subst ho
      have ho : l.toArray[i]? = some o := by simpa using ho1
      simp only [checkS, Bool.and_eq_true, Bool.or_eq_true] at hc
      obtain ⟨⟨hrd, hone⟩, hrest⟩ := hc
      have hrd : i ∈ Region.ready .any l.toArray listed := by simpa using hrd
      simp only [RunS] at h
      rcases hone with hfr | hone
      · obtain ⟨hpv, hfree⟩ := freeK_spec ho hfr
        obtain ⟨hd, h⟩ := h
        have hd' : ∀ t, o.dst = some t → t < N := by
          intro t ht
          rw [ht] at hd
          exact hd
        split at h
        · exact h.elim
        · rename_i G hG
          have hw := guardOf_run R hG
          simp only [hpv] at h
          split at h
          · rename_i c v hp
            obtain ⟨hc, h⟩ := h
            cases G with
            | true =>
              obtain ⟨r, hr, hv⟩ : ∃ r, (∀ w1, (stillOp o.op = true ∨ Kept w w1) → (execOp a.eval o).run P w1 = .ok (.value r) w1) ∧ RepV w g σ v r := by
                cases hst : stillOp o.op with
                | true =>
                  obtain ⟨r, hr, hv⟩ := pv_still R.mem R.slots hp (hc rfl) hst
                  exact ⟨r, fun w1 _ => hr w1, hv⟩
                | false =>
                  obtain ⟨r, hr, hv⟩ := pv_runs R.mem R.slots hp (hc rfl)
                  exact ⟨r, fun w1 h => hr w1 (h.resolve_left (by simp)), hv⟩
              refine wpAnyK_first ho (Region.noSelect_spec hsel) (fun c a w h => (hQ c _ w h).elim) rest.len listed a w hfree hrd (v := r) (Or.inl ⟨hw, hr⟩) ?_
              exact RunS_sound hsel hQ hK rest r' _ _ _ w g hrest hos h (R.put hd' (fun _ => hv) (fun e => by cases e))
            | false =>
              refine wpAnyK_first ho (Region.noSelect_spec hsel) (fun c a w h => (hQ c _ w h).elim) rest.len listed a w hfree hrd (v := undef) (Or.inr ⟨hw, rfl⟩) ?_
              exact RunS_sound hsel hQ hK rest r' _ _ _ w g hrest hos h (R.put hd' (fun e => by cases e) (fun _ => rfl))
          · exact h.elim
      · have hone : Region.ready .any l.toArray listed = [i] := by simpa using hone
        refine ⟨fun h => (by rw [h] at hone; cases hone), fun j hj => ?_⟩
        rw [hone] at hj
        obtain rfl : j = i := by simpa using hj
        exact Step_wpOp (fun h => h) ho R h fun σ' a' w' g' R' hn hk => ⟨fun hg => hk hg, RunS_sound hsel hQ hK rest r' _ _ _ w' g' hrest hos hn R'⟩
    · cases ho
  | .fork i sa j sb, os, listed, σ, a, w, g, hc, ho, h, R => by
    simp only [Sch.ops] at ho
    split at ho
    · rename_i o a' p b' ho1 ha hp1 hb
      simp only [Option.some.injEq] at ho
      subst ho
      have ho : l.toArray[i]? = some o := by simpa using ho1
      have hp : l.toArray[j]? = some p := by simpa using hp1
      simp only [checkS, Bool.and_eq_true, beq_iff_eq] at hc
      obtain ⟨⟨⟨hrd, hlen⟩, hca⟩, hcb⟩ := hc
      obtain ⟨h1, h2⟩ := h
      refine ⟨fun h => (by rw [h] at hrd; cases hrd), fun q hq => ?_⟩
      rw [hrd] at hq
      simp only [List.mem_cons, List.not_mem_nil, or_false] at hq
      rcases hq with rfl | rfl
      · exact Step_wpOp (fun h => h) ho R h1 fun σ' a1 w' g' R' hn hk => ⟨fun hg => hk hg, RunS_sound hsel hQ hK sa a' _ _ _ w' g' hca ha hn R'⟩
      · refine Step_wpOp (fun h => h) hp R h2 fun σ' a1 w' g' R' hn hk => ⟨fun hg => hk hg, ?_⟩
        have := RunS_sound hsel hQ hK sb b' _ _ _ w' g' hcb hb hn R'
        rw [← hlen] at this
        exact this
    · cases ho
  | .fork3 i sa j sb k sc, os, listed, σ, a, w, g, hc, ho, h, R => by
    simp only [Sch.ops] at ho
    split at ho
    · rename_i o a' p b' q c' ho1 ha hp1 hb hq1 hc1
      simp only [Option.some.injEq] at ho
      subst ho
      have ho : l.toArray[i]? = some o := by simpa using ho1
      have hp : l.toArray[j]? = some p := by simpa using hp1
      have hq' : l.toArray[k]? = some q := by simpa using hq1
      simp only [checkS, Bool.and_eq_true, beq_iff_eq] at hc
      obtain ⟨⟨⟨⟨⟨hrd, hlen⟩, hlen2⟩, hca⟩, hcb⟩, hcc⟩ := hc
      obtain ⟨h1, h2, h3⟩ := h
      refine ⟨fun h => (by rw [h] at hrd; cases hrd), fun q hq => ?_⟩
      rw [hrd] at hq
      simp only [List.mem_cons, List.not_mem_nil, or_false] at hq
      rcases hq with rfl | rfl | rfl
      · exact Step_wpOp (fun h => h) ho R h1 fun σ' a1 w' g' R' hn hk => ⟨fun hg => hk hg, RunS_sound hsel hQ hK sa a' _ _ _ w' g' hca ha hn R'⟩
      · refine Step_wpOp (fun h => h) hp R h2 fun σ' a1 w' g' R' hn hk => ⟨fun hg => hk hg, ?_⟩
        have := RunS_sound hsel hQ hK sb b' _ _ _ w' g' hcb hb hn R'
        rw [← hlen] at this
        exact this
      · refine Step_wpOp (fun h => h) hq' R h3 fun σ' a1 w' g' R' hn hk => ⟨fun hg => hk hg, ?_⟩
        have := RunS_sound hsel hQ hK sc c' _ _ _ w' g' hcc hc1 hn R'
        rw [← hlen2] at this
        exact this
    · cases ho
  | .fork4 i sa j sb k sc m sd, os, listed, σ, a, w, g, hc, ho, h, R => by
    simp only [Sch.ops] at ho
    split at ho
    · rename_i o a' p b' q c' r d' ho1 ha hp1 hb hq1 hc1 hr1 hd1
      simp only [Option.some.injEq] at ho
      subst ho
      have ho : l.toArray[i]? = some o := by simpa using ho1
      have hp : l.toArray[j]? = some p := by simpa using hp1
      have hq' : l.toArray[k]? = some q := by simpa using hq1
      have hr' : l.toArray[m]? = some r := by simpa using hr1
      simp only [checkS, Bool.and_eq_true, beq_iff_eq] at hc
      obtain ⟨⟨⟨⟨⟨⟨⟨hrd, hlen⟩, hlen2⟩, hlen3⟩, hca⟩, hcb⟩, hcc⟩, hcd⟩ := hc
      obtain ⟨h1, h2, h3, h4⟩ := h
      refine ⟨fun h => (by rw [h] at hrd; cases hrd), fun q hq => ?_⟩
      rw [hrd] at hq
      simp only [List.mem_cons, List.not_mem_nil, or_false] at hq
      rcases hq with rfl | rfl | rfl | rfl
      · exact Step_wpOp (fun h => h) ho R h1 fun σ' a1 w' g' R' hn hk => ⟨fun hg => hk hg, RunS_sound hsel hQ hK sa a' _ _ _ w' g' hca ha hn R'⟩
      · refine Step_wpOp (fun h => h) hp R h2 fun σ' a1 w' g' R' hn hk => ⟨fun hg => hk hg, ?_⟩
        have := RunS_sound hsel hQ hK sb b' _ _ _ w' g' hcb hb hn R'
        rw [← hlen] at this
        exact this
      · refine Step_wpOp (fun h => h) hq' R h3 fun σ' a1 w' g' R' hn hk => ⟨fun hg => hk hg, ?_⟩
        have := RunS_sound hsel hQ hK sc c' _ _ _ w' g' hcc hc1 hn R'
        rw [← hlen2] at this
        exact this
      · refine Step_wpOp (fun h => h) hr' R h4 fun σ' a1 w' g' R' hn hk => ⟨fun hg => hk hg, ?_⟩
        have := RunS_sound hsel hQ hK sd d' _ _ _ w' g' hcd hd1 hn R'
        rw [← hlen3] at this
        exact this
    · cases ho
  | .sub rest, os, listed, σ, a, w, g, hc, ho, h, R => by
    simp only [Sch.ops] at ho
    split at ho
    · rename_i r' hos
      simp only [Option.some.injEq] at ho
      subst ho
      obtain ⟨σ', hs, h⟩ := h
      obtain ⟨g', R'⟩ := hs _ _ _ _ _ _ R
      exact RunS_sound hsel hQ hK rest r' listed σ' a w g' hc hos h R'
    · cases ho
theorem W_drawS (kc : Bool) {id : Nat} {l : List Oper} {K : Exit → St → Prop} (s : Sch) (hm : P.follows .mixedOrders = true)
    (hc : (s.len == l.length && Region.noSelect l.toArray && checkS kc l.toArray s (Array.replicate l.length false)) = true) {os : SchO} (ho : s.ops l = some os) (h : RunS P N kc l (K .normal) os σ) : W P N (.region id l.toArray true) K σ := by
  simp only [Bool.and_eq_true, beq_iff_eq] at hc
  obtain ⟨⟨hl, hsel⟩, hc⟩ := hc
  intro w0 Al a w g R
  let Q : Exit → Act → World → Prop := fun e a w => e = .normal ∧ Lift w0 Al N K .normal a w
  have key : (Code.region id l.toArray true).wp P Q a w := by
    refine wp_region_any hm (wpAny_of_K (kc := kc) _ _ _ _ ?_)
    have hQ1 : ∀ c a w, ¬ Q (.panic c) a w := by
      intro c a w h
      have := h.1
      cases this
    have hQ2 : ∀ σ' a' w' g', Rel w0 Al N σ' a' w' g' → K .normal σ' → Q .normal a' w' := by
      intro σ' a' w' g' R' hK
      exact ⟨rfl, σ', g', R', hK⟩
    have := RunS_sound (kc := kc) (P := P) (N := N) (Q := Q) (K := K .normal) hsel hQ1 hQ2 s os (Array.replicate l.length false) σ a { w with drawn := w.drawn + 1 } g hc ho h R.drew
    rw [hl] at this
    simpa using this
  refine wp_mono key fun e a' w' hq => ?_
  obtain ⟨rfl, hq⟩ := hq
  exact hq
end
attribute [go_sem] RunS
end Go.Tw

namespace Go.Tw
theorem Sub.swp_box (a b : Nat) {σ σ' : St} (h : σ.ren (fun n => n) (swp a b) = σ') : Sub σ σ' := by
  subst h
  exact Sub.ren (fun _ => rfl) (swp_swp a b)
theorem Sub.nilBox {σ : St} {k j nm z : Nat} {ls : List L} (hb : get σ.box k = some ls) (hj : ls[j]? = some .nil) (hnm : get σ.row nm = none) :
    Sub σ { σ with box := (k, ls.set j (.ref nm [] z 0 0)) :: del [k] σ.box, row := (nm, ⟨.own, z, []⟩) :: σ.row } := by
  intro w0 Al N a w g R
  obtain ⟨cs0, e0, hc0, hr0⟩ := R.mem.box k ls hb
  obtain ⟨v0, hv0, oa, rfl⟩ := hr0.nth hj
  have hrep : Rep w true (.slice oa 0 0) (.sl z []) fun _ => False := by
    cases oa with
    | none => exact .nils
    | some ad => exact .bare
  let g' : Gh := ⟨g.bx, fun k => if k = nm then .slice oa 0 0 else g.rw k, fun k => if k = nm then fun _ => False else g.fp k⟩
  let σ1 : St := { σ with row := (nm, ⟨.own, z, []⟩) :: σ.row }
  have hin : NewIn w w g g' σ σ1 [] [] [(nm, ⟨.own, z, []⟩)] [] (fun _ => false) := by
    have hk : ∀ k row, get [(nm, (⟨.own, z, []⟩ : Row))] k = some row → k = nm ∧ row = ⟨.own, z, []⟩ := by
      intro k row h
      simp only [get] at h
      split at h
      · rename_i e
        simp only [Option.some.injEq] at h
        exact ⟨e, h.symm⟩
      · cases h
    refine ⟨by simp [σ1, del_nil], by simp [σ1, del_nil, killB_no], fun _ _ _ => rfl, Nat.le_refl _, fun r _ hr => ?_, fun _ _ _ => rfl, fun k row h => ?_, fun k ls h => by simp [get] at h, ?_, ?_, ?_, ?_, fun k ls h => by simp [get] at h, ?_, fun k ls r row h => by simp [get] at h, fun k k' ls ls' h => by simp [get] at h, fun k ls h => by simp [get] at h, fun _ _ r p _ _ h => by simp at h, fun _ _ b _ _ h => by simp at h⟩
    · have : r ≠ nm := fun e => by subst e; rw [hnm] at hr; cases hr
      simp [g', this]
    · obtain ⟨rfl, _⟩ := hk k row h; exact Or.inr hnm
    · intro k row h _; obtain ⟨rfl, rfl⟩ := hk k row h; simp only [g', if_true]; exact hrep
    · intro k row h hp; obtain ⟨_, rfl⟩ := hk k row h; cases hp
    · intro k row h hp; obtain ⟨_, rfl⟩ := hk k row h; cases hp
    · intro k row b h _ hb; obtain ⟨rfl, _⟩ := hk k row h; simp [g'] at hb
    · intro r r' row row' b h h' _ _ hb; obtain ⟨rfl, _⟩ := hk r row h; simp [g'] at hb
  have R1 := R.turn hin (σ1 := σ1) ⟨by rw [killE_no], (killS_no _).symm⟩ rfl rfl rfl
  let σ2 : St := { σ1 with box := (k, ls.set j (.ref nm [] z 0 0)) :: del [k] σ.box }
  have hb1 : get σ1.box k = some ls := hb
  obtain ⟨cs, e, hc, hr⟩ := R1.mem.box k ls hb1
  have hcs : cs = cs0 := by
    have h : g'.bx k = g.bx k := rfl
    rw [h, hc0] at hc
    simp only [Option.some.injEq, Obj.cells.injEq] at hc
    exact hc.1.symm
  subst hcs
  have hst : ∀ l : L, StaysL w w g' g' σ1 σ2 l := fun l => ⟨fun r p _ row h => ⟨row, h, rfl, fun z es u h1 h2 => ⟨es, h1, rfl, h2⟩⟩, fun b _ h => ⟨by
    simp only [σ2, get]
    split
    · rfl
    · rename_i hne
      rw [get_del, if_neg (by simpa using fun e : b = k => hne (by first | exact e | exact e.symm))]
      exact h, rfl⟩⟩
  have hk2 : ∀ k' (ls' : List L), get [(k, ls.set j (.ref nm [] z 0 0))] k' = some ls' → k' = k ∧ ls' = ls.set j (.ref nm [] z 0 0) := by
    intro k' ls' h
    simp only [get] at h
    split at h
    · rename_i e
      simp only [Option.some.injEq] at h
      exact ⟨e, h.symm⟩
    · cases h
  have hin2 : NewIn w w g' g' σ1 σ2 [] [k] [] [(k, ls.set j (.ref nm [] z 0 0))] (fun _ => false) := by
    refine ⟨by simp [σ2, del_nil], by simp [σ2, σ1, killB_no], fun _ _ _ => rfl, Nat.le_refl _, fun _ _ _ => ⟨rfl, rfl⟩, fun _ _ _ => rfl, fun k row h => by simp [get] at h, fun k' ls' h => ?_, fun k row h => by simp [get] at h, fun k row h => by simp [get] at h, fun k row h => by simp [get] at h, fun k row b h => by simp [get] at h, fun k' ls' h => ?_, fun r r' row row' b h => by simp [get] at h, fun k ls r row _ h => by simp [get] at h, fun k1 k2 l1 l2 h1 h2 _ => ?_, fun k' ls' h => ?_, fun _ _ r p _ _ h => by simp at h, fun _ _ b _ _ h => ?_⟩
    · obtain ⟨rfl, _⟩ := hk2 _ _ h; exact Or.inl (by simp)
    · obtain ⟨rfl, _⟩ := hk2 _ _ h
      exact ⟨Or.inl (Or.inr ⟨_, ls, by simp, hb1, rfl⟩), R1.mem.lt _ (Or.inl ⟨_, ls, hb1, rfl⟩)⟩
    · rw [(hk2 _ _ h1).1, (hk2 _ _ h2).1]
    · obtain ⟨rfl, rfl⟩ := hk2 _ _ h
      refine ⟨cs, e, hc, .of_nth (by simp [hr.length]) fun i l v hl hv => ?_⟩
      rw [List.getElem?_set] at hl
      split at hl
      · rename_i hij
        subst hij
        split at hl
        · simp only [Option.some.injEq] at hl
          subst hl
          rw [hv0] at hv
          simp only [Option.some.injEq] at hv
          subst hv
          exact ⟨⟨.own, z, []⟩, [], .slice oa 0 0, by simp [σ2, σ1, get], rfl, by simp [valAt, g'], by simp, View.whole _ _ _ _ _⟩
        · cases hl
      · obtain ⟨v', hv', hrl⟩ := hr.nth hl
        rw [hv'] at hv
        simp only [Option.some.injEq] at hv
        subst hv
        exact hrl.stays (hst l)
    · simp only [List.mem_singleton] at h
      subst h
      exact ⟨by simp [get], rfl⟩
  exact ⟨g', R1.turn hin2 (σ1 := σ2) ⟨by rw [killE_no], (killS_no _).symm⟩ rfl rfl rfl⟩
end Go.Tw

namespace Go.Tw
section
variable {w : World} {g : Gh} {σ σ' : St}
theorem stays_get (hr : ∀ k, get σ'.row k = get σ.row k) (hb : ∀ k, get σ'.box k = get σ.box k) (l : L) : StaysL w w g g σ σ' l :=
  ⟨fun r p _ row h => ⟨row, (hr r).trans h, rfl, fun z es u h1 h2 => ⟨es, h1, rfl, h2⟩⟩, fun b _ h => ⟨by rw [hb]; exact h, rfl⟩⟩
theorem owned_get (hr : ∀ k, get σ'.row k = get σ.row k) (hb : ∀ k, get σ'.box k = get σ.box k) : Owned g σ' = Owned g σ := by
  funext b
  simp only [Owned, hr, hb]
theorem mem_get (hr : ∀ k, get σ'.row k = get σ.row k) (hb : ∀ k, get σ'.box k = get σ.box k) (m : Mem w g σ) : Mem w g σ' := by
  have ho := owned_get (g := g) hr hb
  refine ⟨fun k ls h => ?_, fun r row h hp => m.own r row (hr r ▸ h) hp, fun r row h hp => ?_, fun r row h hp => ?_, fun k k' ls ls' h h' e => m.bb k k' ls ls' (hb k ▸ h) (hb k' ▸ h') e,
    fun k ls r row h h' hp => m.br k ls r row (hb k ▸ h) (hr r ▸ h') hp, fun r r' row row' b h h' hp hp' => m.rr r r' row row' b (hr r ▸ h) (hr r' ▸ h') hp hp', fun b h => m.lt b (ho ▸ h)⟩
  · obtain ⟨cs, e, h1, h2⟩ := m.box k ls (hb k ▸ h)
    exact ⟨cs, e, h1, h2.stays fun l _ => stays_get hr hb l⟩
  · rw [ho]; exact m.top r row (hr r ▸ h) hp
  · rw [ho]; exact m.ro r row (hr r ▸ h) hp
theorem Sub.same_get (he : σ'.env = σ.env) (hs : σ'.sav = σ.sav) (hr : ∀ k, get σ'.row k = get σ.row k) (hb : ∀ k, get σ'.box k = get σ.box k) : Sub σ σ' := fun w0 Al N a w g R => by
  obtain ⟨h1, h2, h3, h4, h5, h6, h7, h8, h9, h10, h11, h12⟩ := R
  refine ⟨g, ⟨fun t c v hg hc => ?_, fun t c v hg hc => h1.no t c v (he ▸ hg) hc⟩, he ▸ h2, mem_get hr hb h3, by rw [owned_get hr hb]; exact h4, h5, h6, h7, h8, h9, h10, h11, fun x hx => ?_⟩
  · exact (h1.yes t c v (he ▸ hg) hc).stays fun l _ => stays_get hr hb l
  · obtain ⟨q1, q2, q3⟩ := h12 x (hs ▸ hx)
    exact ⟨fun t c v h hc => (q1 t c v h hc).stays fun l _ => stays_get hr hb l, q2, q3⟩
end
def picks {α : Type} (xs : List (Nat × α)) (ks : List Nat) : List (Nat × α) := ks.filterMap fun k => (get xs k).map fun x => (k, x)
theorem get_picks {α : Type} (xs : List (Nat × α)) : ∀ (ks : List Nat) (n : Nat), get (picks xs ks) n = if n ∈ ks then get xs n else none
  | [], n => by simp [picks, get]
  | k :: ks, n => by
    have ih := get_picks xs ks n
    unfold picks at *
    simp only [List.filterMap_cons]
    cases h : get xs k with
    | none =>
      simp only [Option.map_none]
      rw [ih]
      by_cases e : n = k
      · subst e; simp [h]
      · simp [e]
    | some x =>
      simp only [Option.map_some, get]
      by_cases e : n = k
      · subst e; simp [h]
      · simp only [e, if_false]; rw [ih]; simp [e]
def St.sorted (σ : St) (rs bs : List Nat) : St := { σ with row := picks σ.row rs, box := picks σ.box bs }
theorem mem_keys {α : Type} : ∀ {xs : List (Nat × α)} {k : Nat}, get xs k ≠ none → k ∈ xs.map (·.1)
  | [], _, h => by simp [get] at h
  | (j, x) :: xs, k, h => by
    simp only [get] at h
    by_cases e : k = j
    · subst e; simp
    · simp only [e, if_false] at h
      simp only [List.map_cons, List.mem_cons]
      exact Or.inr (mem_keys h)
def St.neat (σ : St) (ts rs bs : List Nat) (n : Nat) : St := { ((σ.tidy ts rs bs n).sorted rs bs) with nxt := n }
theorem Sub.neat {σ : St} (ts rs bs : List Nat) (n : Nat) (hn : ts.Nodup) : Sub σ (σ.neat ts rs bs n) := by
  refine (Sub.of_tidy ts rs bs n hn rfl).trans ?_
  refine Sub.trans (σ2 := (σ.tidy ts rs bs n).sorted rs bs) (Sub.same_get rfl rfl (fun k => ?_) fun k => ?_) (Sub.num n)
  · simp only [St.sorted, get_picks]
    split
    · rfl
    · rename_i hk
      simp only [St.tidy, St.drop]
      rw [get_del]
      split
      · rfl
      · rename_i hd
        cases h : get (σ.only ts).row k with
        | none => rfl
        | some x =>
          exfalso
          refine hd ?_
          simp only [List.mem_filter]
          exact ⟨mem_keys (xs := σ.row) (by rw [show get σ.row k = get (σ.only ts).row k from rfl, h]; simp), by simpa using hk⟩
  · simp only [St.sorted, get_picks]
    split
    · rfl
    · rename_i hk
      simp only [St.tidy, St.drop]
      rw [get_killB, get_del]
      split
      · rfl
      · rename_i hd
        cases h : get (σ.only ts).box k with
        | none => rfl
        | some x =>
          exfalso
          refine hd ?_
          simp only [List.mem_filter]
          exact ⟨mem_keys (xs := σ.box) (by rw [show get σ.box k = get (σ.only ts).box k from rfl, h]; simp), by simpa using hk⟩
theorem Sub.of_neat {σ σ' : St} (ts rs bs : List Nat) (n : Nat) (hn : ts.Nodup) (h : σ.neat ts rs bs n = σ') : Sub σ σ' := h ▸ Sub.neat ts rs bs n hn
theorem frz_nil (rs : List Nat) : frz rs [] = [] := rfl
theorem frz_cons (rs : List Nat) (k : Nat) (x : Row) (xs : List (Nat × Row)) : frz rs ((k, x) :: xs) = if rs.contains k = true then (k, { x with pm := .ro }) :: frz rs xs else frz rs xs := by
  unfold frz
  rw [List.filter_cons]
  cases rs.contains k <;> simp
attribute [go_sem] St.neat St.sorted picks St.freeze frz_nil frz_cons
end Go.Tw

namespace Go.Tw
def pfx : Path → Path → Prop
  | [], _ => True
  | (i, j) :: q, (i', j') :: p => i' = i ∧ j' = j ∧ pfx q p
  | _ :: _, [] => False
instance pfxDec : ∀ (q p : Path), Decidable (pfx q p)
  | [], _ => isTrue (by simp [pfx])
  | (i, j) :: q, (i', j') :: p => by
    have := pfxDec q p
    unfold pfx
    infer_instance
  | _ :: _, [] => isFalse (by simp [pfx])
def L.mv (r : Nat) (q : Path) (nm : Nat) : L → L
  | .ref r' p z off len => if r' = r then (if p = q then .ref nm [] z off len else if pfx q p then .undef else .ref r' p z off len) else .ref r' p z off len
  | .ept r' p i j d => if r' = r then (if p = q then .ept nm [] i j d else if pfx q p then .undef else .ept r' p i j d) else .ept r' p i j d
  | l => l
def mapV (φ : L → L) : V → V
  | .l x => .l (φ x)
  | .agg xs => .agg (xs.map φ)
  | .tup vs => .tup (vs.map fun x => (x.1, x.2.map φ))
def mapE (φ : L → L) (env : List (Nat × Bool × V)) : List (Nat × Bool × V) := env.map fun x => (x.1, x.2.1, mapV φ x.2.2)
def St.unpack (σ : St) (r : Nat) (q : Path) (nm : Nat) (z : Nat) (es : Els) (row : Row) : St :=
  { env := mapE (L.mv r q nm) σ.env, box := σ.box.map fun x => (x.1, x.2.map (L.mv r q nm)), row := (nm, ⟨.own, z, es⟩) :: (r, { row with es := (row.t.put q .hole).els }) :: del [r] σ.row, nxt := σ.nxt,
    sav := σ.sav.map fun x => (mapE (L.mv r q nm) x.1, x.2) }
theorem at_put {w : World} {s : T} : ∀ {q p : Path} {t : T} {v : Value} {zp : Nat} {ep : Els}, ¬ pfx q p → t.at? p = some (.sl zp ep) →
    ∃ ep', (t.put q s).at? p = some (.sl zp ep') ∧ ep'.length = ep.length ∧ valAt w v (t.put q s) p = valAt w v t p
  | [], _, _, _, _, _, h, _ => absurd (by simp [pfx]) h
  | (i, j) :: q, [], t, v, zp, ep, _, h => by
    simp only [T.at?, Option.some.injEq] at h
    subst h
    simp only [T.put]
    split
    · split
      · exact ⟨_, rfl, by simp, by simp [valAt]⟩
      · exact ⟨_, rfl, rfl, rfl⟩
    · exact ⟨_, rfl, rfl, rfl⟩
  | (i, j) :: q, (i', j') :: p, t, v, zp, ep, h1, h => by
    cases t with
    | sl z es =>
      simp only [T.at?] at h
      split at h
      · rename_i y hy
        split at h
        · rename_i d hd
          simp only [T.put]
          split
          · rename_i x hx
            split
            · rename_i c hc
              have hil : i < es.length := (List.getElem?_eq_some_iff.1 hx).1
              have hjl : j < x.length := (List.getElem?_eq_some_iff.1 hc).1
              by_cases hij : i' = i ∧ j' = j
              · obtain ⟨rfl, rfl⟩ := hij
                rw [hx] at hy
                cases hy
                rw [hc] at hd
                cases hd
                have h1 : ¬ pfx q p := fun e => h1 ⟨rfl, rfl, e⟩
                have key := fun v => at_put (w := w) (s := s) (v := v) h1 h
                obtain ⟨ep', e1, e2, _⟩ := key v
                refine ⟨ep', ?_, e2, ?_⟩
                · simp only [T.at?]
                  rw [List.getElem?_set_self hil]
                  simp only []
                  rw [List.getElem?_set_self hjl]
                  exact e1
                · cases v with
                  | slice oa n cap =>
                    cases oa with
                    | some a =>
                      simp only [valAt]
                      rw [List.getElem?_set_self hil]
                      simp only []
                      rw [List.getElem?_set_self hjl]
                      simp only [hx, hc]
                      split
                      · rename_i u hu
                        obtain ⟨_, _, _, e3⟩ := key u
                        exact e3
                      · rfl
                    | none => simp [valAt]
                  | _ => simp [valAt]
              · have hsame : ∃ y', (es.set i (x.set j (c.put q s)))[i']? = some y' ∧ y'[j']? = some d := by
                  by_cases hi' : i' = i
                  · subst hi'
                    have hj' : ¬ j' = j := fun h => hij ⟨rfl, h⟩
                    rw [hx] at hy
                    cases hy
                    exact ⟨_, List.getElem?_set_self hil, by rw [List.getElem?_set_ne (Ne.symm hj')]; exact hd⟩
                  · exact ⟨y, by rw [List.getElem?_set_ne (Ne.symm hi')]; exact hy, hd⟩
                obtain ⟨y', hy', hd'⟩ := hsame
                refine ⟨ep, ?_, rfl, ?_⟩
                · simp only [T.at?, hy', hd']
                  exact h
                · cases v with
                  | slice oa n cap =>
                    cases oa with
                    | some a => simp only [valAt, hy', hd', hy, hd]
                    | none => simp [valAt]
                  | _ => simp [valAt]
            · exact ⟨ep, by simp only [T.at?, hy, hd]; exact h, rfl, rfl⟩
          · exact ⟨ep, by simp only [T.at?, hy, hd]; exact h, rfl, rfl⟩
        · cases h
      · cases h
    | _ => simp [T.at?] at h
theorem put_row {z0 : Nat} {es0 : Els} {s : T} : ∀ {q : Path}, q ≠ [] → (T.sl z0 es0).put q s = .sl z0 ((T.sl z0 es0).put q s).els
  | [], h => absurd rfl h
  | (i, j) :: q, _ => by
    simp only [T.put]
    split
    · split <;> rfl
    · rfl
section
variable {w w' : World} {g g' : Gh} {σ σ' : St} {φ : L → L}
theorem mapLs_rep (h : ∀ l v, RepL w g σ l v → RepL w' g' σ' (φ l) v) : ∀ {ls : List L} {vs : List Value}, RepLs w g σ ls vs → RepLs w' g' σ' (ls.map φ) vs
  | [], [], _ => trivial
  | _ :: _, _ :: _, hr => ⟨h _ _ hr.1, mapLs_rep h hr.2⟩
  | [], _ :: _, hr => hr.elim
  | _ :: _, [], hr => hr.elim
theorem mapWs_rep (h : ∀ l v, RepL w g σ l v → RepL w' g' σ' (φ l) v) : ∀ {xs : List (Bool × List L)} {vs : List Value}, RepWs w g σ xs vs → RepWs w' g' σ' (xs.map fun x => (x.1, x.2.map φ)) vs
  | [], [], _ => trivial
  | x :: xs, v :: vs, hr => by
    refine ⟨?_, mapWs_rep h hr.2⟩
    have h0 := hr.1
    unfold RepW at h0 ⊢
    cases hx : x.1 with
    | true =>
      simp only [hx, if_true] at h0 ⊢
      obtain ⟨us, e, hu⟩ := h0
      exact ⟨us, e, mapLs_rep h hu⟩
    | false =>
      simp only [hx, Bool.false_eq_true, if_false] at h0 ⊢
      obtain ⟨l, e, hu⟩ := h0
      exact ⟨φ l, by simp [e], h _ _ hu⟩
  | [], _ :: _, hr => hr.elim
  | _ :: _, [], hr => hr.elim
theorem mapV_rep (h : ∀ l v, RepL w g σ l v → RepL w' g' σ' (φ l) v) {x : V} {v : Value} (hr : RepV w g σ x v) : RepV w' g' σ' (mapV φ x) v := by
  cases x with
  | l y => exact h _ _ hr
  | agg ys => obtain ⟨vs, e, hr⟩ := hr; exact ⟨vs, e, mapLs_rep h hr⟩
  | tup ys => obtain ⟨vs, e, hr⟩ := hr; exact ⟨vs, e, mapWs_rep h hr⟩
theorem get_mapE (φ : L → L) : ∀ (env : List (Nat × Bool × V)) (t : Nat), get (mapE φ env) t = (get env t).map fun x => (x.1, mapV φ x.2)
  | [], _ => rfl
  | (k, x) :: env, t => by
    have ih := get_mapE φ env t
    unfold mapE at ih ⊢
    simp only [List.map_cons, get]
    split
    · rfl
    · exact ih
theorem get_mapB (φ : L → L) : ∀ (bs : List (Nat × List L)) (k : Nat), get (bs.map fun x => (x.1, x.2.map φ)) k = (get bs k).map (List.map φ)
  | [], _ => rfl
  | (j, x) :: bs, k => by
    have ih := get_mapB φ bs k
    simp only [List.map_cons, get]
    split
    · rfl
    · exact ih
theorem mapE_unq {env : List (Nat × Bool × V)} (hp : env.Pairwise fun x y => x.1 ≠ y.1) : (mapE φ env).Pairwise fun x y => x.1 ≠ y.1 := by
  unfold mapE
  rw [List.pairwise_map]
  exact hp
end
theorem Sub.unpack {σ : St} {r nm z : Nat} {q : Path} {es : Els} {row : Row} (hrow : get σ.row r = some row) (hpm : row.pm = .own) (hq : row.t.at? q = some (.sl z es)) (hne : q ≠ []) (hnm : get σ.row nm = none) :
    Sub σ (σ.unpack r q nm z es row) := by
  intro w0 Al N a w g R
  have mem := R.mem
  obtain ⟨u, G, hu, hru, hGF, hput⟩ := (mem.own r row hrow hpm).focus hq
  obtain ⟨c1, -, -⟩ := hput w .hole (fun _ => False) (fun _ _ _ => rfl) (.hole hru.one) (fun _ h => h.elim)
  have hrn : r ≠ nm := fun e => by rw [e, hnm] at hrow; cases hrow
  let g' : Gh := ⟨g.bx, fun k => if k = nm then u else g.rw k, fun k => if k = nm then G else if k = r then (fun b => g.fp r b ∧ ¬ G b) else g.fp k⟩
  let σ' := σ.unpack r q nm z es row
  have hrowT : ({ row with es := (row.t.put q .hole).els } : Row).t = row.t.put q .hole := (put_row hne).symm
  have rowE : ∀ k, get σ'.row k = if k = nm then some ⟨.own, z, es⟩ else if k = r then some { row with es := (row.t.put q .hole).els } else get σ.row k := by
    intro k
    simp only [σ', St.unpack, get]
    split
    · rfl
    · split
      · rfl
      · rename_i hk
        rw [get_del, if_neg (by simpa using hk)]
  have boxE : ∀ k, get σ'.box k = (get σ.box k).map (List.map (L.mv r q nm)) := fun k => get_mapB _ σ.box k
  have repL : ∀ l v, RepL w g σ l v → RepL w g' σ' (L.mv r q nm l) v := by
    intro l v hr
    cases l with
    | t x => exact hr
    | nil => exact hr
    | npt => exact hr
    | undef => exact hr
    | ptr b j => exact ⟨by rw [boxE]; simpa using hr.1, hr.2⟩
    | fn f caps => exact ⟨fun b hb => by rw [boxE]; simpa using hr.1 b hb, hr.2⟩
    | ref r' p z' off len =>
      obtain ⟨row1, es1, u1, e1, e2, e3, e4, e5⟩ := id hr
      simp only [L.mv]
      by_cases h0 : r' = r
      · subst h0
        rw [if_pos rfl]
        rw [hrow] at e1
        cases e1
        by_cases h1 : p = q
        · subst h1
          rw [if_pos rfl]
          rw [hq] at e2
          cases e2
          rw [hu] at e3
          cases e3
          exact ⟨⟨.own, z, es⟩, es, u, by rw [rowE, if_pos rfl], rfl, by simp [valAt, g'], e4, e5⟩
        · rw [if_neg h1]
          by_cases h2 : pfx q p
          · rw [if_pos h2]
            obtain ⟨_, _, _, _, _, rfl, _⟩ := e5
            rfl
          · rw [if_neg h2]
            obtain ⟨ep', d1, d2, d3⟩ := at_put (w := w) (s := .hole) (v := g.rw r') h2 e2
            refine ⟨{ row with es := (row.t.put q .hole).els }, ep', u1, by rw [rowE, if_neg hrn, if_pos rfl], by rw [hrowT]; exact d1, ?_, by rw [d2]; exact e4, e5⟩
            rw [hrowT]
            simp only [g', if_neg hrn]
            rw [d3]
            exact e3
      · rw [if_neg h0]
        have h3 : r' ≠ nm := fun e => by rw [e, hnm] at e1; cases e1
        exact ⟨row1, es1, u1, by rw [rowE, if_neg h3, if_neg h0]; exact e1, e2, by simp only [g', if_neg h3]; exact e3, e4, e5⟩
    | ept r' p i j d =>
      obtain ⟨row1, z1, es1, a1, n, cap, e1, e2, e3, e4, e5, e6⟩ := id hr
      simp only [L.mv]
      by_cases h0 : r' = r
      · subst h0
        rw [if_pos rfl]
        rw [hrow] at e1
        cases e1
        by_cases h1 : p = q
        · subst h1
          rw [if_pos rfl]
          rw [hq] at e2
          cases e2
          rw [hu] at e3
          cases e3
          exact ⟨⟨.own, z, es⟩, z, es, a1, n, cap, by rw [rowE, if_pos rfl], rfl, by simp [valAt, g'], e4, e5, e6⟩
        · rw [if_neg h1]
          by_cases h2 : pfx q p
          · rw [if_pos h2]
            rw [e6]
            rfl
          · rw [if_neg h2]
            obtain ⟨ep', d1, d2, d3⟩ := at_put (w := w) (s := .hole) (v := g.rw r') h2 e2
            refine ⟨{ row with es := (row.t.put q .hole).els }, z1, ep', a1, n, cap, by rw [rowE, if_neg hrn, if_pos rfl], by rw [hrowT]; exact d1, ?_, by rw [d2]; exact e4, e5, e6⟩
            rw [hrowT]
            simp only [g', if_neg hrn]
            rw [d3]
            exact e3
      · rw [if_neg h0]
        have h3 : r' ≠ nm := fun e => by rw [e, hnm] at e1; cases e1
        exact ⟨row1, z1, es1, a1, n, cap, by rw [rowE, if_neg h3, if_neg h0]; exact e1, e2, by simp only [g', if_neg h3]; exact e3, e4, e5, e6⟩
  have cases3 : ∀ k row', get σ'.row k = some row' → (k = nm ∧ row' = ⟨.own, z, es⟩) ∨ (k = r ∧ row' = { row with es := (row.t.put q .hole).els }) ∨ (k ≠ nm ∧ k ≠ r ∧ get σ.row k = some row') := by
    intro k row' h
    rw [rowE] at h
    split at h
    · rename_i e; cases h; exact Or.inl ⟨e, rfl⟩
    · split at h
      · rename_i e; cases h; exact Or.inr (Or.inl ⟨e, rfl⟩)
      · rename_i e1 e2; exact Or.inr (Or.inr ⟨e1, e2, h⟩)
  have fpO : ∀ k row' b, get σ'.row k = some row' → row'.pm ≠ .ro → g'.fp k b → ∃ k0 row0, get σ.row k0 = some row0 ∧ row0.pm ≠ .ro ∧ g.fp k0 b ∧ (k = nm → k0 = r ∧ G b) ∧ (k ≠ nm → k0 = k) ∧ (k = r → ¬ G b) := by
    intro k row' b h hp hb
    rcases cases3 k row' h with ⟨rfl, rfl⟩ | ⟨rfl, rfl⟩ | ⟨e1, e2, h3⟩
    · simp only [g', if_true] at hb
      exact ⟨r, row, hrow, by simp [hpm], hGF b hb, fun _ => ⟨rfl, hb⟩, fun e => absurd rfl e, fun e => absurd e.symm hrn⟩
    · simp only [g', if_neg hrn, if_true] at hb
      exact ⟨k, row, hrow, by simp [hpm], hb.1, fun e => absurd e hrn, fun _ => rfl, fun _ => hb.2⟩
    · simp only [g', if_neg e1, if_neg e2] at hb
      exact ⟨k, row', h3, hp, hb, fun e => absurd e e1, fun _ => rfl, fun e => absurd e e2⟩
  have ownO : ∀ b, Owned g' σ' b → Owned g σ b := by
    rintro b (⟨k, ls, h1, h2⟩ | ⟨k, row', h1, h2, h3⟩)
    · rw [boxE, Option.map_eq_some_iff] at h1
      obtain ⟨ls0, h1, -⟩ := h1
      exact Or.inl ⟨k, ls0, h1, h2⟩
    · obtain ⟨k0, row0, q1, q2, q3, -⟩ := fpO k row' b h1 h2 h3
      exact Or.inr ⟨k0, row0, q1, q2, q3⟩
  have mem' : Mem w g' σ' := by
    refine ⟨fun k ls h => ?_, fun k row' h hp => ?_, fun k row' h hp => ?_, fun k row' h hp => ?_, fun k k' ls ls' h h' e => ?_, fun k ls k' row' h h' hp hb => ?_, fun k k' row' row'' b h h' hp hp' hb hb' => ?_, fun b hb => mem.lt b (ownO b hb)⟩
    · rw [boxE, Option.map_eq_some_iff] at h
      obtain ⟨ls0, h, rfl⟩ := h
      obtain ⟨cs, e, h1, h2⟩ := mem.box k ls0 h
      exact ⟨cs, e, h1, mapLs_rep repL h2⟩
    · rcases cases3 k row' h with ⟨rfl, rfl⟩ | ⟨rfl, rfl⟩ | ⟨e1, e2, h3⟩
      · simp only [g', if_true]; exact hru
      · rw [hrowT]
        simp only [g', if_neg hrn, if_true]
        exact c1.mono fun b hb => hb.resolve_right fun h => h
      · simp only [g', if_neg e1, if_neg e2]
        exact mem.own k row' h3 hp
    · rcases cases3 k row' h with ⟨rfl, rfl⟩ | ⟨rfl, rfl⟩ | ⟨e1, e2, h3⟩
      · cases hp
      · rw [hpm] at hp; cases hp
      · simp only [g', if_neg e1, if_neg e2]
        rcases mem.top k row' h3 hp with h4 | ⟨a1, cap, cs, h4, h5, h6, h7⟩
        · exact Or.inl h4
        · exact Or.inr ⟨a1, cap, cs, h4, h5, h6, fun i j x c hx hc => (h7 i j x c hx hc).mono fun b hb ho => hb (ownO b ho)⟩
    · rcases cases3 k row' h with ⟨rfl, rfl⟩ | ⟨rfl, rfl⟩ | ⟨e1, e2, h3⟩
      · cases hp
      · rw [hpm] at hp; cases hp
      · simp only [g', if_neg e1]
        exact (mem.ro k row' h3 hp).mono fun b hb ho => hb (ownO b ho)
    · rw [boxE, Option.map_eq_some_iff] at h h'
      obtain ⟨l0, h, -⟩ := h
      obtain ⟨l1, h', -⟩ := h'
      exact mem.bb k k' l0 l1 h h' e
    · rw [boxE, Option.map_eq_some_iff] at h
      obtain ⟨l0, h, -⟩ := h
      obtain ⟨k0, row0, q1, q2, q3, -⟩ := fpO k' row' _ h' hp hb
      exact mem.br k l0 k0 row0 h q1 q2 q3
    · obtain ⟨k0, row0, q1, q2, q3, q4, q5, q6⟩ := fpO k row' b h hp hb
      obtain ⟨k1, row1, p1, p2, p3, p4, p5, p6⟩ := fpO k' row'' b h' hp' hb'
      have e := mem.rr k0 k1 row0 row1 b q1 p1 q2 p2 q3 p3
      by_cases n1 : k = nm
      · by_cases n2 : k' = nm
        · rw [n1, n2]
        · obtain ⟨a1, a2⟩ := q4 n1
          have a3 := p5 n2
          exact absurd a2 (p6 (by rw [← a3, ← e, a1]))
      · by_cases n2 : k' = nm
        · obtain ⟨a1, a2⟩ := p4 n2
          have a3 := q5 n1
          exact absurd a2 (q6 (by rw [← a3, e, a1]))
        · rw [← q5 n1, ← p5 n2, e]
  refine ⟨g', ⟨fun t c v hg hc => ?_, fun t c v hg hc => ?_⟩, mapE_unq R.unq, mem', fun b hb => R.own b (ownO b hb), R.frm, R.siz, R.os, R.tape, R.out, R.dfr, R.tsz, fun x hx => ?_⟩
  · simp only [St.unpack, get_mapE, Option.map_eq_some_iff, Prod.mk.injEq] at hg
    obtain ⟨y, hy, rfl, rfl⟩ := hg
    exact mapV_rep repL (R.slots.yes t y.1 y.2 hy hc)
  · simp only [St.unpack, get_mapE, Option.map_eq_some_iff, Prod.mk.injEq] at hg
    obtain ⟨y, hy, rfl, rfl⟩ := hg
    exact R.slots.no t y.1 y.2 hy hc
  · simp only [St.unpack, List.mem_map] at hx
    obtain ⟨y, hy, rfl⟩ := hx
    obtain ⟨q1, q2, q3⟩ := R.sav y hy
    refine ⟨fun t c v hg hc => ?_, fun t c v hg hc => ?_, mapE_unq q3⟩
    · simp only [get_mapE, Option.map_eq_some_iff, Prod.mk.injEq] at hg
      obtain ⟨x, hx, rfl, rfl⟩ := hg
      exact mapV_rep repL (q1 t x.1 x.2 hx hc)
    · simp only [get_mapE, Option.map_eq_some_iff, Prod.mk.injEq] at hg
      obtain ⟨x, hx, rfl, rfl⟩ := hg
      exact q2 t x.1 x.2 hx hc
theorem mapE_nil (φ : L → L) : mapE φ [] = [] := rfl
theorem mapE_cons (φ : L → L) (k : Nat) (c : Bool) (v : V) (env : List (Nat × Bool × V)) : mapE φ ((k, c, v) :: env) = (k, c, mapV φ v) :: mapE φ env := rfl
attribute [go_sem] St.unpack L.mv mapV mapE_nil mapE_cons pfx
end Go.Tw

namespace Go.Tw
section
variable {P : Program} {w0 w : World} {Al : Blks} {N : Nat} {g : Gh} {σ : St} {a : Act}
theorem rel_only (R : Rel w0 Al N σ a w g) (ts : List Nat) (hn : ts.Nodup) : Rel w0 Al N (σ.only ts) a w g :=
  ⟨⟨fun t c v hg hc => (R.slots.yes t c v (get_only σ ts t _ hg).2 hc).same rfl rfl, fun t c v hg hc => R.slots.no t c v (get_only σ ts t _ hg).2 hc⟩, only_unq σ ts hn, R.mem.same rfl rfl, by rw [Owned.same (g := g) (σ' := σ.only ts) (σ := σ) rfl rfl]; exact R.own, R.frm, R.siz, R.os, R.tape, R.out, R.dfr, R.tsz,
    fun x hx => let ⟨q1, q2, q3⟩ := R.sav x hx; ⟨fun t c v h hc => (q1 t c v h hc).same rfl rfl, q2, q3⟩⟩
theorem CallW_only {k : Bool} {f : FuncId} {vs : List V} {K : St → V → Prop} (ts : List Nat) (hn : ts.Nodup) (h : CallW P k f vs K (σ.only ts)) : CallW P k f vs K σ :=
  ⟨h.1, fun w0 Al N a w g us R hu => h.2 w0 Al N a w g us (rel_only R ts hn) (hu.stays fun _ _ l _ => stays_same rfl rfl l)⟩
end
end Go.Tw

