/- What an operation that makes no memory and turns none answers of a state (pv), and that the machine answers so. -/
import Derived.Test.YthajhlpbinjpgaaTw4
import Derived.Laws.Small
import Derived.Laws.StructEq
set_option linter.unusedSimpArgs false
set_option linter.unusedVariables false
namespace Go.Tw

def notT (op : UnOp) : T → Option T
  | .bool b => match op with
    | .not => some (.bool !b)
    | _ => none
  | .int k n => match op with
    | .neg => some (.int k (k.wrap (0 - n)))
    | _ => none
  | _ => none

def convT (P : Program) (src dst : TypeId) : T → Option (Prop × T)
  | .int _ n => match (tyOf P dst).u with
    | .int k => some ((tyOf P src).u.ok = true, .int k (k.wrap n))
    | .str => some ((tyOf P src).u.ok = true, .str (Utf8.encode n))
    | _ => none
  | _ => none

/-- An address with so many cells more. -/
def ptrAdd (n : Nat) : V → Option V
  | .l (.ptr b j) => some (.l (.ptr b (j + n)))
  | .l (.ept r p i j d) => some (.l (.ept r p i (j + n) d))
  | _ => none

def capsV (σ : St) : List Operand → Option (Prop × List Nat)
  | [] => some (True, [])
  | x :: r => match evO σ x with
    | some (c, .l (.ptr b 0)) => (capsV σ r).map fun q => (c = true ∧ q.1, b :: q.2)
    | _ => none

/-- All of a struct's fields have a row. -/
def fieldsKnown (P : Program) (t : TypeId) : Bool := match P.underlying t with
  | some (.struct gs) => gs.toList.all fun f => (P.info? f.type).isSome && (P.underlying f.type).isSome
  | _ => false

def fieldKindsL (P : Program) : Nat → List Field → Option (List Bool)
  | _, [] => some []
  | off, f :: fs => if f.offset = off ∧ f.name ≠ "_" then match P.underlying f.type with
    | some (.int _) => (fieldKindsL P (off + 1) fs).map (true :: ·)
    | some .bool => (fieldKindsL P (off + 1) fs).map (false :: ·)
    | _ => none
    else none

/-- A struct of numbers and flags alone: which. -/
def fieldKinds (P : Program) (t : TypeId) : Option (List Bool) := match P.underlying t with
  | some (.struct fs) => if P.stoodInHeld t = false ∧ P.eqGuardType P.depth t = false then fieldKindsL P 0 fs.toList else none
  | _ => none

def eqLs : List Bool → List L → List L → Option Bool
  | [], [], [] => some true
  | true :: ks, .t (.int .i64 a) :: xs, .t (.int .i64 b) :: ys => (eqLs ks xs ys).map fun q => (a == b) && q
  | false :: ks, .t (.bool a) :: xs, .t (.bool b) :: ys => (eqLs ks xs ys).map fun q => (a == b) && q
  | _, _, _ => none

/-- What it asks, and what it answers. -/
def pv (P : Program) (σ : St) : Op → Option (Prop × V)
  | .move x => (evO σ x).map fun q => (q.1 = true, q.2)
  | .assign x => (evO σ x).map fun q => (q.1 = true, q.2)
  | .pick c a b => match evO σ c, evO σ a, evO σ b with
    | some (cc, .l (.t (.bool x))), some (ca, .l (.t (.bool y))), some (cb, .l (.t (.bool z))) => some (cc = true ∧ (x = true → ca = true) ∧ (x = false → cb = true), .l (.t (.bool (bif x then y else z))))
    | _, _, _ => none
  | .binOp op t x y _ => match evO σ x, evO σ y with
    | some (c1, .l (.t a)), some (c2, .l (.t b)) => match a, b, op with
      | .bool a, .bool b, .eql => some (c1 = true ∧ c2 = true ∧ (tyOf P t).u = .bool, .l (.t (.bool (a == b))))
      | .bool a, .bool b, .neq => some (c1 = true ∧ c2 = true ∧ (tyOf P t).u = .bool, .l (.t (.bool (!(a == b)))))
      | a, b, op => (binT op a b).map fun q => (c1 = true ∧ c2 = true ∧ q.1, .l (.t q.2))
    | some (c1, .agg l1), some (c2, .agg l2) => match op, fieldKinds P t with
      | .eql, some ks => (eqLs ks l1 l2).map fun b => (c1 = true ∧ c2 = true, .l (.t (.bool b)))
      | .neq, some ks => (eqLs ks l1 l2).map fun b => (c1 = true ∧ c2 = true, .l (.t (.bool (!b))))
      | _, _ => none
    | _, _ => none
  | .unOp op _ x => match evO σ x with
    | some (c, .l (.t a)) => (notT op a).map fun z => (c = true, .l (.t z))
    | _ => none
  | .convert src dst x => match evO σ x with
    | some (c, .l (.t a)) => (convT P src dst a).map fun q => (c = true ∧ q.1, .l (.t q.2))
    | _ => none
  | .field t x f => match evO σ x, (tyOf P t).u with
    | some (c, .agg ls), .st fs => match fs[f]? with
      | some (off, sz, agg) => (ofLeaves agg ((ls.drop off).take sz)).map fun v => (c = true ∧ off + sz ≤ ls.length ∧ fieldsKnown P t = true, v)
      | none => none
    | _, _ => none
  | .extract x i => match evO σ x with
    | some (c, .tup vs) => match vs[i]? with
      | some (true, ls) => some (c = true, .agg ls)
      | some (false, [l]) => some (c = true, .l l)
      | _ => none
    | _ => none
  | .fieldAddr t x f => match evO σ x, (tyOf P t).u with
    | some (c, v), .st fs => match fs[f]? with
      | some (off, sz, _) => (ptrAdd off v).map fun u => (c = true ∧ 0 < sz, u)
      | none => none
    | _, _ => none
  | .nilCheck x => match evO σ x with
    | some (c, .l (.ptr b j)) => some (c = true, .l (.ptr b j))
    | some (c, .l (.ept r p i j d)) => some (c = true, .l (.ept r p i j d))
    | _ => none
  | .indexAddr t x ix => match evO σ x, evO σ ix, (tyOf P t).u with
    | some (c, .l (.ref r p z off len)), some (c', .l (.t (.int _ i))), .sl e => some (c = true ∧ c' = true ∧ (0 ≤ i ∧ i < (len : Int)) ∧ (tyOf P e).sz = z ∧ (tyOf P e).known = true, .l (.ept r p (off + i.toNat) 0 e))
    | some (c, .l (.ptr b j)), some (c', .l (.t (.int _ i))), .arr n e => some (c = true ∧ c' = true ∧ (0 ≤ i ∧ i < (n : Int)) ∧ (tyOf P e).known = true, .l (.ptr b (j + i.toNat * (tyOf P e).sz)))
    | _, _, _ => none
  | .load t x => match evO σ x with
    | some (c, v) => (loadV P σ t v).map fun q => (c = true ∧ q.1, q.2)
    | none => none
  | .index t x ix => match evO σ x, evO σ ix, (tyOf P t).u with
    | some (c, .l (.t (.str s))), some (c', .l (.t (.int _ i))), .str => some (c = true ∧ c' = true ∧ (0 ≤ i ∧ i < (s.size : Int)), .l (.t (.int .u8 ((s.data.getD i.toNat 0).toNat : Int))))
    | _, _, _ => none
  | .build t parts => match (tyOf P t).u with
    | .st fs => (fillL σ fs (tyOf P t).ze parts.toList).map fun q => ((tyOf P t).known = true ∧ fieldsKnown P t = true ∧ q.1, .agg q.2)
    | _ => none
  | .makeFunc fn first caps => match fn, first.toList with
    | .func f, [] => (capsV σ caps.toList).map fun q => (q.1, .l (.fn f q.2))
    | _, _ => none
  | .slice t x lo hi mx => match mx, evO σ x, (tyOf P t).u with
    | none, some (c, .l (.ref r p z off len)), .sl e => match boundV σ lo 0, boundV σ hi len, nodeOf σ r p with
      | some (c1, l), some (c2, h), some (_, es) => some (c = true ∧ c1 ∧ c2 ∧ (0 ≤ l ∧ l ≤ h ∧ h ≤ (es.length : Int) - off) ∧ (tyOf P e).sz = z ∧ (tyOf P e).known = true, .l (.ref r p z (off + l.toNat) (h.toNat - l.toNat)))
      | _, _, _ => none
    | none, some (c, .l .nil), .sl e => match boundV σ lo 0, boundV σ hi 0 with
      | some (c1, l), some (c2, h) => some (c = true ∧ c1 ∧ c2 ∧ (l = 0 ∧ h = 0) ∧ (tyOf P e).known = true, .l .nil)
      | _, _ => none
    | none, some (c, .l (.t (.str s))), .str => match boundV σ lo 0, boundV σ hi s.size with
      | some (c1, l), some (c2, h) => some (c = true ∧ c1 ∧ c2 ∧ (0 ≤ l ∧ l ≤ h ∧ h ≤ (s.size : Int)), .l (.t (.str (s.extract l.toNat h.toNat))))
      | _, _ => none
    | _, _, _ => none
  | .call { callee := .builtin b, args, argTypes } => match b, args.toList, argTypes.toList with
    | .len, [x], [t] => match evO σ x, (tyOf P t).u with
      | some (c, .l (.ref _ _ _ _ len)), .sl _ => some (c = true, .l (.t (.int .i64 len)))
      | some (c, .l .nil), .sl _ => some (c = true, .l (.t (.int .i64 0)))
      | some (c, .l (.t (.str s))), .str => some (c = true, .l (.t (.int .i64 s.size)))
      | _, _ => none
    | .max, [x, y], _ => match evO σ x, evO σ y with
      | some (c, .l (.t (.int k a))), some (c', .l (.t (.int _ b))) => some (c = true ∧ c' = true, .l (.t (.int k (if b > a then b else a))))
      | _, _ => none
    | .min, [x, y], _ => match evO σ x, evO σ y with
      | some (c, .l (.t (.int k a))), some (c', .l (.t (.int _ b))) => some (c = true ∧ c' = true, .l (.t (.int k (if b < a then b else a))))
      | _, _ => none
    | .cap, [x], [t] => match evO σ x, (tyOf P t).u with
      | some (c, .l .nil), .sl _ => some (c = true, .l (.t (.int .i64 0)))
      | _, _ => none
    | _, _, _ => none
  | _ => none

section
variable {P : Program} {w : World} {g : Gh} {σ : St} {a : Act}

theorem rep_int {k : IntKind} {n : Int} {v : Value} (h : RepL w g σ (.t (.int k n)) v) : v = .int k n := by
  simp only [RepL] at h
  cases h
  rfl
theorem rep_bool {b : Bool} {v : Value} (h : RepL w g σ (.t (.bool b)) v) : v = .bool b := by
  simp only [RepL] at h
  cases h
  rfl
theorem rep_str {s : ByteArray} {v : Value} (h : RepL w g σ (.t (.str s)) v) : v = .string s := by
  simp only [RepL] at h
  cases h
  rfl

theorem boundV_run (hs : Slots w g σ a) {x : Option Operand} {d n : Int} {c : Prop} (h : boundV σ x d = some (c, n)) (hc : c) :
    (x = none ∧ n = d) ∨ ∃ o k, x = some o ∧ a.eval o = .int k n := by
  unfold boundV at h
  split at h
  · simp only [Option.some.injEq, Prod.mk.injEq] at h; exact Or.inl ⟨rfl, h.2.symm⟩
  · rename_i o
    split at h
    · rename_i c' v hv
      simp only [Option.map_eq_some_iff, Prod.mk.injEq] at h
      obtain ⟨m, hm, rfl, rfl⟩ := h
      have hr := evO_rep hs hv hc
      unfold numV at hm
      split at hm
      · rename_i k n
        simp only [Option.some.injEq] at hm
        subst hm
        exact Or.inr ⟨o, k, rfl, rep_int (g := g) (σ := σ) hr⟩
      · cases hm
    · cases h

theorem cells_one {v : Value} (h : v.oneCell' = true) : v.cells = #[v] := by
  cases v <;> simp_all [Value.oneCell', Value.cells]

theorem RepV.cells {v : V} {ls : List L} {u : Value} (h : RepV w g σ v u) (hc : v.cells = some ls) : RepLs w g σ ls u.cells.toList := by
  cases v with
  | l x =>
    simp only [V.cells, Option.some.injEq] at hc
    subst hc
    have h1 : u.cells = #[u] := by
      cases x with
      | t x => exact cells_one (Rep.one h)
      | ref r p z off len => obtain ⟨_, _, _, _, _, _, _, _, _, _, _, _, rfl, _⟩ := h; rfl
      | nil => obtain ⟨_, rfl⟩ := h; rfl
      | ptr b j => obtain ⟨_, rfl⟩ := h; rfl
      | ept r p i j d => obtain ⟨_, _, _, _, _, _, _, _, _, _, _, rfl⟩ := h; rfl
      | npt => simp only [RepV, RepL] at h; subst h; rfl
      | fn f caps => obtain ⟨_, rfl⟩ := h; rfl
      | undef => exact cells_one h
    rw [h1]
    exact ⟨h, trivial⟩
  | agg xs =>
    simp only [V.cells, Option.some.injEq] at hc
    subst hc
    obtain ⟨vs, rfl, h⟩ := h
    simpa [Value.cells] using h
  | tup => cases hc

theorem zeroLeaf_rep (v : Value) (h1 : v.oneCell' = true) : RepL w g σ (zeroLeaf v) v := by
  unfold zeroLeaf
  split
  · exact .int
  · exact .bool
  · exact .str
  · exact ⟨none, rfl⟩
  · rfl
  · exact h1

theorem patch_length {ls : List L} {off : Nat} {xs : List L} (h : off + xs.length ≤ ls.length) : (patch ls off xs).length = ls.length := by
  simp [patch]
  omega

theorem patch_get {α : Type} {ls : List α} {off : Nat} {xs : List α} (h : off + xs.length ≤ ls.length) (j : Nat) :
    (ls.take off ++ xs ++ ls.drop (off + xs.length))[j]? = if j < off then ls[j]? else if j < off + xs.length then xs[j - off]? else ls[j]? := by
  have h1 : (ls.take off).length = off := by simp; omega
  split
  · rename_i hj
    rw [List.append_assoc, List.getElem?_append_left (by omega), List.getElem?_take, if_pos hj]
  · split
    · rename_i h2 h3
      rw [List.append_assoc, List.getElem?_append_right (by omega), List.getElem?_append_left (by omega), h1]
    · rw [List.getElem?_append_right (by simp; omega), List.getElem?_drop]
      congr 1
      simp
      omega

theorem RepLs.patch {ls xs : List L} {vs ys : List Value} (h : RepLs w g σ ls vs) (hx : RepLs w g σ xs ys) {off : Nat} (ho : off + xs.length ≤ ls.length) :
    RepLs w g σ (patch ls off xs) (vs.take off ++ ys ++ vs.drop (off + ys.length)) := by
  have h1 := h.length
  have h2 := hx.length
  refine .of_nth (by rw [patch_length ho]; simp; omega) fun j l v hl hv => ?_
  unfold Go.Tw.patch at hl
  rw [patch_get ho] at hl
  rw [patch_get (by omega)] at hv
  rw [← h2] at hv
  split at hl
  · rename_i hj
    simp only [hj, if_true] at hv
    obtain ⟨v', hv', hr⟩ := h.nth hl
    rw [hv] at hv'; cases hv'; exact hr
  · rename_i hj
    simp only [hj, if_false] at hv
    split at hl
    · rename_i hj2
      simp only [hj2, if_true] at hv
      obtain ⟨v', hv', hr⟩ := hx.nth hl
      rw [hv] at hv'; cases hv'; exact hr
    · rename_i hj2
      simp only [hj2, if_false] at hv
      obtain ⟨v', hv', hr⟩ := h.nth hl
      rw [hv] at hv'; cases hv'; exact hr

end

end Go.Tw
