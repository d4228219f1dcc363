/- Contracts of functions that also read captured variables; calls that leave the state as it was. -/
import Derived.Test.YthajhlpbinjpgaaTw39
set_option linter.unusedSimpArgs false
set_option linter.unusedVariables false
namespace Go.Tw

/-- A variable's cells read as trees. -/
def BoxReads (w : World) (b : Nat) (ts : List T) : Prop := ∃ cs e fr, w.heap[b]? = some (.cells cs e fr) ∧ cs.size = ts.length ∧ ∀ (i : Nat) t, ts[i]? = some t → Rep w false (cs.getD i undef) t fun _ => True

def BoxesRead (w : World) : List Nat → List (List T) → Prop
  | [], [] => True
  | b :: bs, ts :: tss => BoxReads w b ts ∧ BoxesRead w bs tss
  | _, _ => False

def ptrU (b : Nat) : Value := .pointer (some ⟨b, 0, none⟩)

/-- As PC; the captured variables read as caps. -/
def PCb (P : Program) (f : FuncId) (args : List A) (caps : List (List T)) (res : List A) : Prop :=
  Ours P f ∧ ∀ w vs bs, Shapes args vs → (∀ (j : Nat) t v, (flatA args)[j]? = some t → (flatU vs)[j]? = some v → Rep w false v t fun _ => True) → BoxesRead w bs caps → Calls P f (vs ++ bs.map ptrU).toArray w fun
    | .returned r, w' => w.heap.size ≤ w'.heap.size ∧ (∀ b, b < w.heap.size → w'.heap[b]? = w.heap[b]?) ∧ w'.os = w.os ∧ w'.tape = w.tape ∧ w'.output = w.output ∧
        ∃ us, r = oneU us ∧ Shapes res us ∧ ∃ F : Nat → Blks, (∀ (j : Nat) t v, (flatA res)[j]? = some t → (flatU us)[j]? = some v → Rep w' true v t (F j)) ∧ (∀ j b, F j b → w.heap.size ≤ b) ∧ ∀ j j' b, F j b → F j' b → j = j'
    | _, _ => False

def capRows : Nat → List (List T) → List (Nat × Row)
  | _, [] => []
  | k, ts :: r => (k, ⟨.ro, ts.length, [ts]⟩) :: capRows (k + 1) r

def capVals : Nat → List (List T) → List V
  | _, [] => []
  | k, _ :: r => .l (.ept k [] 0 0 0) :: capVals (k + 1) r

def St.startB (args : List A) (caps : List (List T)) : St :=
  { env := paramsE 0 (valsN 0 args ++ capVals (flatA args).length caps), box := [], row := rowsN .ro 0 (flatA args) ++ capRows (flatA args).length caps, nxt := (flatA args).length + caps.length, sav := [] }

section
variable {P : Program} {w0 w w' : World} {Al : Blks} {N : Nat} {g : Gh} {σ σ' : St} {a : Act}

theorem get_capRows : ∀ (caps : List (List T)) (k n : Nat), get (capRows k caps) n = if k ≤ n then (caps[n - k]?).map fun ts => ⟨.ro, ts.length, [ts]⟩ else none
  | [], k, n => by simp [capRows, get]
  | ts :: r, k, n => by
    simp only [capRows, get]
    by_cases h : n = k
    · subst h; simp
    · rw [if_neg h, get_capRows r (k + 1) n]
      by_cases h1 : k + 1 ≤ n
      · rw [if_pos h1, if_pos (by omega)]
        have : n - k = (n - (k + 1)) + 1 := by omega
        rw [this]
        simp
      · rw [if_neg h1, if_neg (by omega)]

theorem boxes_len : ∀ {bs : List Nat} {caps : List (List T)}, BoxesRead w bs caps → bs.length = caps.length
  | [], [], _ => rfl
  | _ :: _, _ :: _, h => by simp [boxes_len h.2]
  | [], _ :: _, h => h.elim
  | _ :: _, [], h => h.elim

theorem boxes_get : ∀ {bs : List Nat} {caps : List (List T)}, BoxesRead w bs caps → ∀ {j : Nat} {ts : List T}, caps[j]? = some ts → ∃ b, bs[j]? = some b ∧ BoxReads w b ts
  | b :: _, _ :: _, h, 0, ts, e => by simp at e; subst e; exact ⟨b, rfl, h.1⟩
  | _ :: _, _ :: _, h, j + 1, ts, e => boxes_get h.2 (j := j) (by simpa using e)
  | [], [], _, _, _, e => by simp at e
  | [], _ :: _, h, _, _, _ => h.elim
  | _ :: _, [], h, _, _, _ => h.elim

theorem box_rep {b : Nat} {ts : List T} (h : BoxReads w b ts) : Rep w false (.slice (some ⟨b, 0, none⟩) 1 1) (.sl ts.length [ts]) fun _ => True := by
  obtain ⟨cs, e, fr, h1, h2, h3⟩ := h
  have key := Rep.sl (w := w) (o := false) (a := ⟨b, 0, none⟩) (cap := 1) (z := ts.length) (es := [ts]) (F := fun _ => True) (cs := cs) (fun _ _ _ => True)
    ⟨⟨e, fr, h1, fun h => by cases h⟩, rfl, by simp, by simp [h2], by simp⟩ trivial (fun _ _ _ _ => trivial) (fun h => by cases h) (fun h => by cases h) (fun i j x c hx hc => ?_)
  · exact key
  · have hi : i = 0 := by
      have := (List.getElem?_eq_some_iff.1 hx).1
      simp at this
      exact this
    subst hi
    simp at hx
    subst hx
    simpa using h3 j c hc

theorem capVals_rep : ∀ {caps : List (List T)} {bs : List Nat} {k : Nat}, bs.length = caps.length → (∀ (j : Nat) ts, caps[j]? = some ts → get σ.row (k + j) = some ⟨.ro, ts.length, [ts]⟩ ∧ ∃ b, bs[j]? = some b ∧ g.rw (k + j) = .slice (some ⟨b, 0, none⟩) 1 1) →
    RepVs w g σ (capVals k caps) (bs.map ptrU)
  | [], [], _, _, _ => trivial
  | ts :: caps, b :: bs, k, hl, h => by
    refine ⟨?_, capVals_rep (k := k + 1) (by simpa using hl) fun j ts' e => ?_⟩
    · obtain ⟨h1, b', h2, h3⟩ := h 0 ts rfl
      simp at h2
      subst h2
      refine ⟨_, ts.length, [ts], ⟨b, 0, none⟩, 1, 1, h1, rfl, ?_, by simp, rfl, by simp [ptrU]⟩
      simpa [valAt] using h3
    · obtain ⟨h1, b', h2, h3⟩ := h (j + 1) ts' (by simpa using e)
      refine ⟨by rw [show k + 1 + j = k + (j + 1) from by omega]; exact h1, b', by simpa using h2, by rw [show k + 1 + j = k + (j + 1) from by omega]; exact h3⟩
  | [], _ :: _, _, hl, _ => by simp at hl
  | _ :: _, [], _, hl, _ => by simp at hl

/-- A body's walk is a contract. -/
theorem PCb_of {f : FuncId} {fn : Func} {c : Code} {args res : List A} {caps : List (List T)} (hf : P.funcs[f]? = some fn) (hb : fn.body = some c) (hn : (fn.name == "runtime.NumGoroutine") = false) {n : Nat} (hnt : fn.ntmps = n) {rs : List ResultVar} (hrs : fn.results.toList = rs) (hl : args.length + caps.length ≤ n)
    (h : W P n c (OutN P rs res) (St.startB args caps)) : PCb P f args caps res := by
  subst hnt hrs
  refine ⟨⟨fn, hf, by simp [hb], hn⟩, fun w vs bs hsh hrep hbox => calls_of_wp hf hb ?_⟩
  let n0 := (flatA args).length
  let g : Gh := ⟨fun _ => 0, fun k => if k < n0 then (flatU vs).getD k undef else .slice (some ⟨bs.getD (k - n0) 0, 0, none⟩) 1 1, fun _ _ => False⟩
  have hfl := flatU_length hsh
  have hbl := boxes_len hbox
  have hrow : ∀ r row, get (St.startB args caps).row r = some row → row.pm = .ro ∧ ((r < n0 ∧ (flatA args)[r]? = some (.sl row.z row.es)) ∨ (n0 ≤ r ∧ ∃ ts, caps[r - n0]? = some ts ∧ row = ⟨.ro, ts.length, [ts]⟩)) := by
    intro r row hr
    simp only [St.startB, get_append, get_rowsN, get_capRows, Nat.zero_le, if_true, Nat.sub_zero] at hr
    by_cases hlt : r < n0
    · have h0 : ∃ t, (flatA args)[r]? = some t := ⟨_, List.getElem?_eq_getElem hlt⟩
      obtain ⟨t, ht⟩ := h0
      rw [ht] at hr
      rw [if_neg (by show ¬ n0 ≤ r; omega)] at hr
      cases t with
      | sl z es => simp at hr; subst hr; exact ⟨rfl, .inl ⟨hlt, ht⟩⟩
      | _ => simp at hr
    · rw [List.getElem?_eq_none (by show n0 ≤ r; omega), if_pos (by show n0 ≤ r; omega)] at hr
      cases hc : caps[r - (flatA args).length]? with
      | none => rw [hc] at hr; simp at hr
      | some ts => rw [hc] at hr; simp at hr; subst hr; exact ⟨rfl, .inr ⟨by omega, ts, rfl, rfl⟩⟩
  have hown : ∀ b, ¬ Owned g (St.startB args caps) b := by
    rintro b (⟨k, ls, h1, _⟩ | ⟨r, row, h1, h2, _⟩)
    · simp [St.startB, get] at h1
    · exact h2 (hrow r row h1).1
  have hvals1 : RepVs w g (St.startB args caps) (valsN 0 args) vs := by
    refine valsN_rep hsh fun j t v ht hv => ?_
    have hlt : j < n0 := (List.getElem?_eq_some_iff.1 ht).1
    refine leafN_rep (hrep j t v ht hv) fun z es e => ?_
    subst e
    refine ⟨⟨.ro, z, es⟩, ?_, rfl, rfl, ?_⟩
    · simp only [St.startB, get_append, get_rowsN, Nat.zero_le, if_true, Nat.zero_add, Nat.sub_zero, ht]
    · simp only [Nat.zero_add, g, hlt, if_true]
      simp [hv]
  have hvals2 : RepVs w g (St.startB args caps) (capVals n0 caps) (bs.map ptrU) := by
    refine capVals_rep hbl fun j ts e => ?_
    obtain ⟨b, hb1, _⟩ := boxes_get hbox e
    refine ⟨?_, b, hb1, ?_⟩
    · simp only [St.startB, get_append, get_rowsN, get_capRows, Nat.zero_le, if_true, Nat.sub_zero]
      rw [List.getElem?_eq_none (by show n0 ≤ n0 + j; omega)]
      show (if n0 ≤ n0 + j then _ else _) = _
      rw [if_pos (by omega), show n0 + j - (flatA args).length = j from by show n0 + j - n0 = j; omega, e]
      rfl
    · simp only [g]
      rw [if_neg (by omega), show n0 + j - n0 = j from by omega]
      simp [hb1]
  have hvals := hvals1.append hvals2
  have hlen := hvals.length
  have hal : args.length = vs.length := hsh.length
  have R : Rel w (fun _ => False) fn.ntmps (St.startB args caps) { tmps := (vs ++ bs.map ptrU).toArray ++ Array.replicate (fn.ntmps - (vs ++ bs.map ptrU).toArray.size) undef, defers := [] } w g := by
    refine ⟨⟨fun t c v hg hc => ?_, fun t c v hg hc => ?_⟩, paramsE_unq _ 0, ⟨?_, ?_, ?_, ?_, ?_, ?_, ?_, fun b hb => (hown b hb).elim⟩, fun b hb => (hown b hb).elim, fun _ _ _ => rfl, Nat.le_refl _, rfl, rfl, rfl, rfl, by simp; omega, fun x hx => by simp [St.startB] at hx⟩
    · obtain ⟨_, _, h3⟩ := get_paramsE _ 0 t c v hg
      obtain ⟨u, hu, hr⟩ := hvals.nth (j := t) (by simpa using h3)
      have hlt : t < (vs ++ bs.map ptrU).length := (List.getElem?_eq_some_iff.1 hu).1
      have : ((vs ++ bs.map ptrU).toArray ++ Array.replicate (fn.ntmps - (vs ++ bs.map ptrU).toArray.size) undef).getD t undef = u := by
        rw [Array.getD_eq_getD_getElem?, Array.getElem?_append_left (by simpa using hlt), List.getElem?_toArray, hu]
        rfl
      rw [this]
      exact hr
    · have := (get_paramsE _ 0 t c v hg).1
      rw [hc] at this
      cases this
    · intro k ls h; simp [St.startB, get] at h
    · intro r row h hp; rw [(hrow r row h).1] at hp; cases hp
    · intro r row h hp; rw [(hrow r row h).1] at hp; cases hp
    · intro r row h hp
      rcases (hrow r row h).2 with ⟨hlt, ht⟩ | ⟨hge, ts, hc, rfl⟩
      · have hlt2 : r < (flatU vs).length := by rw [hfl]; exact hlt
        have hv : (flatU vs)[r]? = some ((flatU vs).getD r undef) := by simp [List.getD_eq_getElem?_getD, List.getElem?_eq_getElem hlt2]
        have := (hrep r _ _ ht hv).mono fun b _ => hown b
        simp only [g, hlt, if_true]
        exact this
      · obtain ⟨b, hb1, hb2⟩ := boxes_get hbox hc
        have := (box_rep hb2).mono fun b _ => hown b
        simp only [g]
        rw [if_neg (by omega)]
        have e : bs.getD (r - n0) 0 = b := by simp [List.getD_eq_getElem?_getD, hb1]
        rw [e]
        exact this
    · intro k k' ls ls' h; simp [St.startB, get] at h
    · intro k ls r row h; simp [St.startB, get] at h
    · intro r r' row row' b h _ hp; exact absurd (hrow r row h).1 hp
  refine wp_mono (h w (fun _ => False) _ w g R) fun e a' w' ⟨σ', g', R', hK⟩ => ?_
  have fin : (match resV P σ' fn.results.toList with
    | some (c, vs) => c ∧ shapeVs res vs ∧ match takeLs σ' ((flatA res).map zOf) (vs.flatMap V.leaves) with
      | some (c', ts, _) => c' ∧ ts = flatA res
      | none => False
    | none => False) → a'.defers = [] ∧ ∃ v, (results fn a'.tmps).run P w' = .ok v w' ∧ (w.heap.size ≤ w'.heap.size ∧ (∀ b, b < w.heap.size → w'.heap[b]? = w.heap[b]?) ∧ w'.os = w.os ∧ w'.tape = w.tape ∧ w'.output = w.output ∧
        ∃ us, v = oneU us ∧ Shapes res us ∧ ∃ F : Nat → Blks, (∀ (j : Nat) t v, (flatA res)[j]? = some t → (flatU us)[j]? = some v → Rep w' true v t (F j)) ∧ (∀ j b, F j b → w.heap.size ≤ b) ∧ ∀ j j' b, F j b → F j' b → j = j') := by
    intro hK
    refine ⟨R'.dfr, ?_⟩
    split at hK
    · rename_i c vs' hres
      obtain ⟨hc, hsv, hK⟩ := hK
      split at hK
      · rename_i c' ts rs hts
        obtain ⟨hc', rfl⟩ := hK
        obtain ⟨us, hr, hus⟩ := resV_us R'.mem R'.slots hres hc
        obtain ⟨hS, hL⟩ := shapeVs_rep hsv hus
        obtain ⟨_, _, F, q1, q2, q3⟩ := takeLs_rep R'.mem hts hc' hL
        refine ⟨_, hr, R'.siz, fun b hb => R'.frm b hb (fun h => h), R'.os, R'.tape, R'.out, us, rfl, hS, F, q1, fun j b hb => ?_, q3⟩
        obtain ⟨r, row, _, h1, h2, h3⟩ := q2 j b hb
        rcases R'.own b (Or.inr ⟨r, row, h1, h2, h3⟩) with h | h
        · exact h
        · exact h.elim
      · exact hK.elim
    · exact hK.elim
  cases e with
  | normal => exact fin hK
  | ret => exact fin hK
  | _ => exact hK.elim

theorem PC.toB {f : FuncId} {args res : List A} (h : PC P f args res) : PCb P f args [] res :=
  ⟨h.1, fun w vs bs hsh hrep hbox => by
    cases bs with
    | nil =>
      rw [List.map_nil, List.append_nil]
      exact Calls.mono (h.2 w vs hsh hrep) fun e w' he => by cases e <;> exact he
    | cons => exact hbox.elim⟩

/-- What the caller's captured variables hold. -/
def capsDen (σ : St) : List Nat → List (List T) → Prop
  | [], [] => True
  | b :: bs, ts :: tss => (∃ ls, get σ.box b = some ls ∧ denLs σ ls ts) ∧ capsDen σ bs tss
  | _, _ => False

theorem capsDen_read (m : Mem w g σ) : ∀ {bs : List Nat} {caps : List (List T)}, capsDen σ bs caps → BoxesRead w (bs.map g.bx) caps
  | [], [], _ => trivial
  | b :: bs, ts :: caps, h => by
    obtain ⟨⟨ls, h1, h2⟩, h3⟩ := h
    refine ⟨?_, capsDen_read m h3⟩
    obtain ⟨cs, e, h4, h5⟩ := m.box b ls h1
    obtain ⟨h6, h7⟩ := denLs_rep m h5 h2
    refine ⟨cs, e, (0, 0), h4, by simpa using h6.symm, fun i t ht => ?_⟩
    have hi : i < cs.size := by have := (List.getElem?_eq_some_iff.1 ht).1; rw [h6] at this; simpa using this
    refine h7 i t _ ht ?_
    simp [Array.getD, hi]
  | [], _ :: _, h => h.elim
  | _ :: _, [], h => h.elim

theorem RepVs.split : ∀ {xs ys : List V} {us : List Value}, RepVs w g σ (xs ++ ys) us → ∃ us1 us2, us = us1 ++ us2 ∧ RepVs w g σ xs us1 ∧ RepVs w g σ ys us2
  | [], _, us, h => ⟨[], us, rfl, trivial, h⟩
  | _ :: xs, ys, u :: us, h => by
    obtain ⟨u1, u2, rfl, h1, h2⟩ := RepVs.split (xs := xs) h.2
    exact ⟨u :: u1, u2, rfl, ⟨h.1, h1⟩, h2⟩
  | _ :: _, _, [], h => h.elim

theorem ptrs_rep : ∀ {bs : List Nat} {us : List Value}, RepVs w g σ (bs.map fun b => .l (.ptr b 0)) us → us = (bs.map g.bx).map ptrU
  | [], [], _ => rfl
  | b :: bs, u :: us, h => by
    obtain ⟨h1, h2⟩ := h
    rw [ptrs_rep h2]
    have : u = ptrU (g.bx b) := h1.2
    rw [this]
    rfl
  | [], _ :: _, h => h.elim
  | _ :: _, [], h => h.elim

theorem CallW_pureB {f : FuncId} {args res : List A} {caps : List (List T)} {bs : List Nat} {vs : List V} {v : V} {K : St → V → Prop} (hpc : PCb P f args caps res) (hden : denVs σ vs args) (hcap : capsDen σ bs caps) (hv : oneV (valsN σ.nxt res) = some v)
    (hfr : ∀ j, j < (flatA res).length → get σ.row (σ.nxt + j) = none) (hK : K (σ.answer res) v) {k : Bool} : CallW P k f (vs ++ bs.map fun b => .l (.ptr b 0)) K σ := by
  refine ⟨hpc.1, fun w0 Al N a w g us R hus => ?_⟩
  obtain ⟨us1, us2, rfl, hus1, hus2⟩ := RepVs.split hus
  obtain rfl := ptrs_rep hus2
  obtain ⟨h1, h2⟩ := denVs_rep R.mem hus1 hden
  refine Calls.mono (hpc.2 w us1 _ h1 h2 (capsDen_read R.mem hcap)) fun e w' he => ?_
  cases e with
  | panicked => exact he
  | outgrown => exact he
  | returned r =>
    obtain ⟨hsiz, hold, hos, htape, hout, us', rfl, hsh, F, hF, hlo, hdis⟩ := he
    obtain ⟨g', hin, hrw⟩ := answer_in R.mem hfr hsh hF hlo hdis hsiz hold
    have R' := R.turn hin ⟨by rw [killE_no]; rfl, (killS_no _).symm⟩ hos htape hout
    refine ⟨σ.answer res, g', v, R', ?_, hK, fun _ => hold⟩
    refine oneV_unit hv (valsN_rep hsh fun j t u ht hu => leafN_rep (hF j t u ht hu) fun z es e => ?_)
    subst e
    have hj : j < (flatA res).length := (List.getElem?_eq_some_iff.1 ht).1
    refine ⟨⟨.own, z, es⟩, ?_, rfl, rfl, hrw j u hj hu⟩
    simp only [St.answer, get_append, get_rowsN, Nat.le_add_right, if_true, Nat.add_sub_cancel_left, ht]

/-- A call that leaves the state as it was, and answers with one flat value. -/
def Quiet (P : Program) (f : FuncId) (vs : List V) (t : T) (σ : St) : Prop := ∀ K : St → V → Prop, K σ (.l (.t t)) → CallW P false f vs K σ

theorem denL_same {σ' : St} (hr : σ'.row = σ.row) (l : L) (t : T) : denL σ' l t = denL σ l t := by
  unfold denL nodeOf
  rw [hr]

theorem denLs_same {σ' : St} (hr : σ'.row = σ.row) : ∀ (ls : List L) (ts : List T), denLs σ' ls ts = denLs σ ls ts
  | [], [] => rfl
  | _ :: ls, _ :: ts => by simp only [denLs, denL_same hr, denLs_same hr ls ts]
  | [], _ :: _ => rfl
  | _ :: _, [] => rfl

theorem capsDen_same {σ' : St} (hb : σ'.box = σ.box) (hr : σ'.row = σ.row) : ∀ {bs : List Nat} {caps : List (List T)}, capsDen σ bs caps → capsDen σ' bs caps
  | [], [], _ => trivial
  | _ :: _, _ :: _, ⟨⟨ls, h1, h2⟩, h3⟩ => ⟨⟨ls, by rw [hb]; exact h1, by rw [denLs_same hr]; exact h2⟩, capsDen_same hb hr h3⟩
  | [], _ :: _, h => h.elim
  | _ :: _, [], h => h.elim

theorem CallW_num {k : Bool} {f : FuncId} {vs : List V} {t : T} {K : St → V → Prop} {n : Nat} (h : CallW P k f vs (fun σ' v => v = .l (.t t) ∧ K { σ' with nxt := n } v) σ) : CallW P k f vs K σ := by
  refine ⟨h.1, fun w0 Al N a w g us R hus => Calls.mono (h.2 w0 Al N a w g us R hus) fun e w' he => ?_⟩
  cases e with
  | panicked => exact he
  | outgrown => exact he
  | returned r =>
    obtain ⟨σ', g', v, R', hv, ⟨rfl, hK⟩, hk⟩ := he
    exact ⟨_, g', _, R'.num n, hv.same rfl rfl, hK, hk⟩

/-- A closure's call, by its contract. -/
theorem quiet_pcb {f : FuncId} {args : List A} {caps : List (List T)} {bs : List Nat} {vs : List V} {t : T} (hpc : PCb P f args caps [(false, [t])]) (hden : denVs σ vs args) (hcap : capsDen σ bs caps) (hfr : σ.row.all (fun x => decide (x.1 < σ.nxt)) = true)
    (ht : (match t with | .sl .. | .hole => false | _ => true) = true) : Quiet P f (vs ++ bs.map fun b => .l (.ptr b 0)) t σ := by
  intro K hK
  have hlf : leafN σ.nxt t = .t t := by cases t <;> simp_all [leafN]
  have hrw : rowsN .own σ.nxt [t] = [] := by cases t <;> simp_all [rowsN]
  refine CallW_num (n := σ.nxt) (CallW_pureB (v := .l (.t t)) hpc hden hcap (by simp [valsN, oneV, hlf]) (fun _ _ => get_lt hfr _ (by omega)) ⟨rfl, ?_⟩)
  have : ({ σ.answer [(false, [t])] with nxt := σ.nxt } : St) = σ := by
    unfold St.answer
    simp only [flatA, List.flatMap_cons, List.flatMap_nil, List.append_nil, hrw, List.nil_append]
  rw [this]
  exact hK

theorem callG_quiet {f : FuncId} {vs : List V} {t : T} {c : Prop} {G : Bool} {d : Option Nat} {next : St → Prop} (h : G = true → Quiet P f vs t σ) (hc : G = true → c) (hK : next (σ.set d G (.l (.t t)))) : CallG P false f vs c G d next σ := by
  cases G with
  | true => exact callG_true (hc rfl) (h rfl _ hK)
  | false => exact ⟨σ, .l (.t t), (fun _ _ _ _ _ g R => ⟨g, R⟩), fun _ => hK, fun e => by cases e⟩
end

/-- The first that is so. -/
def idxOf {α : Type} (p : α → Bool) (xs : List α) : Int := match xs.findIdx? p with
  | some i => i
  | none => -1

theorem idxOf_none {α : Type} {p : α → Bool} {xs : List α} (h : ∀ j, (hj : j < xs.length) → p xs[j] = false) : idxOf p xs = -1 := by
  have : xs.findIdx? p = none := by
    rw [List.findIdx?_eq_none_iff]
    intro x hx
    obtain ⟨j, hj, rfl⟩ := List.getElem_of_mem hx
    exact h j hj
  simp [idxOf, this]
theorem idxOf_some {α : Type} {p : α → Bool} {xs : List α} {i : Nat} (h : ∀ j, (hj : j < xs.length) → j < i → p xs[j] = false) (hi : i < xs.length) (hp : p xs[i] = true) : idxOf p xs = i := by
  have : xs.findIdx? p = some i := by
    rw [List.findIdx?_eq_some_iff_getElem]
    exact ⟨hi, hp, fun j hj => by simp [h j (by omega) hj]⟩
  simp [idxOf, this]
theorem idxOf_any {α : Type} (p : α → Bool) (xs : List α) : decide (0 ≤ idxOf p xs) = xs.any p := by
  cases h : xs.findIdx? p with
  | none =>
    rw [List.findIdx?_eq_none_iff] at h
    have h2 : xs.findIdx? p = none := by rw [List.findIdx?_eq_none_iff]; exact h
    have : xs.any p = false := by simpa using h
    simp [idxOf, h2, this]
  | some i =>
    have h2 := h
    rw [List.findIdx?_eq_some_iff_getElem] at h
    obtain ⟨hi, hp, _⟩ := h
    have : xs.any p = true := List.any_eq_true.2 ⟨_, List.getElem_mem hi, hp⟩
    simp [idxOf, h2, this]
theorem idxOf_le {α : Type} (p : α → Bool) (xs : List α) : -1 ≤ idxOf p xs := by unfold idxOf; split <;> omega
attribute [go_sem] St.startB capRows capVals capsDen
end Go.Tw
