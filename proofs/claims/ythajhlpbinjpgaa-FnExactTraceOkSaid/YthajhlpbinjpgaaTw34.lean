/- What simp may unfold. -/
import Derived.Test.YthajhlpbinjpgaaTw33
import Derived.Laws.BitsLemmas
set_option linter.unusedSimpArgs false
set_option linter.unusedVariables false
namespace Go.Tw

theorem wrap_ok {n : Int} (h1 : -9223372036854775808 ≤ n) (h2 : n ≤ 9223372036854775807) : IntKind.wrap .i64 n = n := by
  rw [IntKind.wrap_i64]
  omega

theorem wrap_succ {i : Nat} (h : i < 9223372036854775807) : IntKind.wrap .i64 ((i : Int) + 1) = (i : Int) + 1 := wrap_ok (by omega) (by omega)

/-- Those slots alone, and a number for the next name. -/
def St.to (σ : St) (ts : List Nat) (n : Nat) : St := { (σ.only ts) with nxt := n }
theorem Sub.to {σ : St} (ts : List Nat) (n : Nat) (hn : ts.Nodup) : Sub σ (σ.to ts n) := (Sub.only ts hn).trans (Sub.num n)

theorem get_lt {α : Type} {n : Nat} : ∀ {xs : List (Nat × α)}, xs.all (fun x => decide (x.1 < n)) = true → ∀ k, n ≤ k → get xs k = none
  | [], _, _, _ => rfl
  | (i, x) :: xs, h, k, hk => by
    simp only [List.all_cons, Bool.and_eq_true, decide_eq_true_eq] at h
    simp only [get]
    rw [if_neg (by omega)]
    exact get_lt h.2 k hk

/-- A call by its contract. -/
theorem call_pc {P : Program} {k : Bool} {f : FuncId} {args res : List A} {vs : List V} {v : V} {K : St → V → Prop} {σ : St} (hpc : PC P f args res) (hden : denVs σ vs args) (hv : oneV (valsN σ.nxt res) = some v)
    (hfr : σ.row.all (fun x => decide (x.1 < σ.nxt)) = true) (hK : K (σ.answer res) v) : CallW P k f vs K σ :=
  CallW_pure hpc hden hv (fun _ _ => get_lt hfr _ (by omega)) hK

@[congr] theorem CallW_congr {P : Program} {k : Bool} {f : FuncId} {vs vs' : List V} {K : St → V → Prop} {σ σ' : St} (h : vs = vs') (hs : σ = σ') : CallW P k f vs K σ = CallW P k f vs' K σ' := by rw [h, hs]

@[congr] theorem CallG_congr {P : Program} {k : Bool} {f : FuncId} {vs vs' : List V} {c c' : Prop} {G G' : Bool} {d : Option Nat} {next : St → Prop} {σ σ' : St} (h : vs = vs') (hc : c = c') (hG : G = G') (hs : σ = σ') :
    CallG P k f vs c G d next σ = CallG P k f vs' c' G' d next σ' := by rw [h, hc, hG, hs]

theorem callG_true {P : Program} {k : Bool} {f : FuncId} {vs : List V} {c : Prop} {d : Option Nat} {next : St → Prop} {σ : St} (hc : c) (h : CallW P k f vs (fun σ' v => next (σ'.set d true v)) σ) : CallG P k f vs c true d next σ :=
  ⟨σ, .l .undef, fun _ _ _ _ _ g R => ⟨g, R⟩, (fun e => by cases e), fun _ => ⟨hc, h⟩⟩

theorem rowsN_flat (pm : Pm) : ∀ (ts : List T) (k : Nat), ts.all (fun t => match t with | .sl .. => false | _ => true) = true → rowsN pm k ts = []
  | [], _, _ => rfl
  | t :: ts, k, h => by
    simp only [List.all_cons, Bool.and_eq_true] at h
    have ih := rowsN_flat pm ts (k + 1) h.2
    cases t <;> simp_all [rowsN]

/-- A call by its contract, under a guard. -/
theorem callG_pc {P : Program} {k : Bool} {f : FuncId} {args res : List A} {vs : List V} {v : V} {c : Prop} {G : Bool} {d : Option Nat} {next : St → Prop} {σ : St} (hpc : G = true → PC P f args res) (hc : G = true → c)
    (hden : G = true → denVs σ vs args) (hv : oneV (valsN σ.nxt res) = some v) (hfr : σ.row.all (fun x => decide (x.1 < σ.nxt)) = true) (hfl : G = true ∨ (flatA res).all (fun t => match t with | .sl .. => false | _ => true) = true)
    (hK : next ((σ.answer res).set d G v)) : CallG P k f vs c G d next σ := by
  cases G with
  | true => exact callG_true (hc rfl) (call_pc (hpc rfl) (hden rfl) hv hfr hK)
  | false =>
    refine ⟨σ.answer res, v, fun w0 Al N a w g R => ⟨g, ?_⟩, fun _ => hK, (fun e => by cases e)⟩
    have hf := hfl.resolve_left (by simp)
    unfold St.answer
    rw [rowsN_flat _ _ _ hf]
    exact R.num _

/-- Less is left, of a state that says no more. -/
def Again (J : Nat → St → Prop) (n : Nat) (σ : St) : Prop := ∃ m σ', m < n ∧ Sub σ σ' ∧ J m σ'

/-- A loop; what a round ends with may say more than J. -/
theorem W_loopS {P : Program} {N : Nat} {K : Exit → St → Prop} {c : Code} {σ : St} (J : Nat → St → Prop) {n : Nat} {σ0 : St} (hs : Sub σ σ0) (h0 : J n σ0)
    (round : ∀ n σ, J n σ → W P N c (Then (Again J n) K) σ) : W P N (.loop c) K σ :=
  W_loop (fun n σ => ∃ σ', Sub σ σ' ∧ J n σ') n ⟨σ0, hs, h0⟩ fun n σ ⟨σ1, h1, h2⟩ => W_sub h1 (W_mono (round n σ1 h2) fun e σ' h => by
    cases e with
    | normal => obtain ⟨m, σ'', q1, q2, q3⟩ := h; exact ⟨m, q1, σ'', q2, q3⟩
    | _ => exact h)

theorem then_normal (next : St → Prop) (K : Exit → St → Prop) : Then next K .normal = next := rfl
theorem then_exit (next : St → Prop) (K : Exit → St → Prop) (id : Nat) : Then next K (.exit id) = K (.exit id) := rfl
theorem then_ret (next : St → Prop) (K : Exit → St → Prop) : Then next K .ret = K .ret := rfl
theorem inBlock_normal (id : Nat) (K : Exit → St → Prop) : InBlock id K .normal = K .normal := rfl
theorem inBlock_exit (id : Nat) (K : Exit → St → Prop) : InBlock id K (.exit id) = K .normal := by funext σ; simp [InBlock]
theorem inBlock_exit_ne (id id' : Nat) (K : Exit → St → Prop) (h : id' ≠ id) : InBlock id K (.exit id') = K (.exit id') := by funext σ; simp [InBlock, h]
theorem inBlock_ret (id : Nat) (K : Exit → St → Prop) : InBlock id K .ret = K .ret := rfl

theorem killE_nil (kill : L → Bool) : killE kill [] = [] := rfl
theorem killE_cons (kill : L → Bool) (t : Nat) (c : Bool) (v : V) (env : List (Nat × Bool × V)) : killE kill ((t, c, v) :: env) = if v.leaves.any kill = true then killE kill env else (t, c, v) :: killE kill env := by
  unfold killE
  rw [List.filter_cons]
  cases v.leaves.any kill <;> simp
theorem del_nil' {α : Type} (ns : List Nat) : del ns ([] : List (Nat × α)) = [] := rfl
theorem del_cons {α : Type} (ns : List Nat) (k : Nat) (x : α) (xs : List (Nat × α)) : del ns ((k, x) :: xs) = if ns.contains k = true then del ns xs else (k, x) :: del ns xs := by
  unfold del
  rw [List.filter_cons]
  cases ns.contains k <;> simp

/-- Rows of elements of a kind. -/
def enc {α : Type} (f : α → List T) (xs : List α) : Els := xs.map f

theorem enc_length {α : Type} (f : α → List T) (xs : List α) : (enc f xs).length = xs.length := by simp [enc]
theorem enc_get {α : Type} (f : α → List T) (xs : List α) (i : Nat) : (enc f xs)[i]? = xs[i]?.map f := by simp [enc]
theorem enc_getElem {α : Type} (f : α → List T) (xs : List α) (i : Nat) (h : i < (enc f xs).length) : (enc f xs)[i] = f (xs[i]'(by simpa [enc] using h)) := by simp [enc]
theorem enc_append {α : Type} (f : α → List T) (xs ys : List α) : enc f xs ++ enc f ys = enc f (xs ++ ys) := by simp [enc]
theorem enc_set {α : Type} (f : α → List T) (xs : List α) (i : Nat) (y : α) : (enc f xs).set i (f y) = enc f (xs.set i y) := by simp [enc]
theorem enc_snoc {α : Type} (f : α → List T) (xs : List α) (y : α) : enc f xs ++ [f y] = enc f (xs ++ [y]) := by simp [enc]
theorem enc_rep {α : Type} (f : α → List T) (n : Nat) (y : α) : List.replicate n (f y) = enc f (List.replicate n y) := by simp [enc]
theorem enc_take {α : Type} (f : α → List T) (xs : List α) (n : Nat) : (enc f xs).take n = enc f (xs.take n) := by simp [enc]
theorem enc_drop {α : Type} (f : α → List T) (xs : List α) (n : Nat) : (enc f xs).drop n = enc f (xs.drop n) := by simp [enc]
theorem enc_nil {α : Type} (f : α → List T) : enc f [] = [] := rfl
theorem enc_eq_nil {α : Type} (f : α → List T) (xs : List α) : enc f xs = [] ↔ xs = [] := by simp [enc]

/-- Numbers. -/
def eI (n : Int) : List T := [.int .i64 n]
theorem getD_eI (o : Option Int) : (Option.map eI o).getD [T.int .i64 0] = eI (o.getD 0) := by cases o <;> rfl
theorem rep_eI (n : Nat) : List.replicate n [T.int .i64 0] = enc eI (List.replicate n 0) := enc_rep eI n 0
theorem set_eI (xs : List Int) (i : Nat) (y : Int) : (enc eI xs).set i [T.int .i64 y] = enc eI (xs.set i y) := enc_set eI xs i y
theorem snoc_eI (xs : List Int) (y : Int) : enc eI xs ++ [[T.int .i64 y]] = enc eI (xs ++ [y]) := enc_snoc eI xs y
theorem eI_def (n : Int) : eI n = [.int .i64 n] := rfl

attribute [go_sem] List.take_of_length_le eqLs RunL Step guardOf Op.isPv pv evO constV constL paramsE valsN leavesN leafN flatA rowsN dstOk St.set get killE_nil killE_cons del_nil' del_cons St.start then_normal then_exit then_ret inBlock_normal inBlock_exit inBlock_exit_ne inBlock_ret
  numV boundV ofLeaves aggU loadV nodeOf T.at? leavesOf leafOf ptrAdd binT notT convT U.ok resV oneV tupV takeLs takeL zOf shapeVs shapeV V.leaves OutN Out
  calleeOf eff argsV St.swap killB killS killLs Row.store patchT killSt hits thru L.rowOf L.boxOf V.cells T.put T.els denVs denLs denL St.only St.to St.answer fillL patch capsV
  enc_length enc_get enc_getElem enc_append enc_take enc_drop enc_eq_nil getD_eI rep_eI set_eI snoc_eI eI_def

end Go.Tw
