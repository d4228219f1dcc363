/- What a type's row says, as a small table; what an operation that makes no memory and turns none answers, as trees; and that the machine answers so. -/
import Derived.Test.YthajhlpbinjpgaaTw2
set_option linter.unusedSimpArgs false
set_option linter.unusedVariables false
namespace Go.Tw

/-- A type's shape. -/
inductive U where
  | int (k : IntKind)
  | bool
  | str
  | sl (e : TypeId)
  | st (fs : List (Nat × Nat × Bool))
  | ptr (e : TypeId)
  | arr (n : Nat) (e : TypeId)
  | other

def aggU : U → Bool
  | .st _ | .arr _ _ => true
  | _ => false

def isAggD : Option TypeDesc → Bool
  | some (.struct _) | some (.array ..) => true
  | _ => false

def uOf (P : Program) (t : TypeId) : U := match P.underlying t with
  | some (.int k) => .int k
  | some .bool => .bool
  | some .string => .str
  | some (.slice e) => .sl e
  | some (.struct fs) => .st (fs.toList.map fun f => (f.offset, P.cellsOf f.type, isAggD (P.underlying f.type)))
  | some (.pointer e) => .ptr e
  | some (.array n e) => .arr n e
  | _ => .other

/-- A cell of a zero value. -/
def zeroLeaf : Value → L
  | .int k n => .t (.int k n)
  | .bool b => .t (.bool b)
  | .string s => .t (.str s)
  | .slice none 0 0 => .nil
  | .pointer none => .npt
  | _ => .undef

/-- Cell by cell of a type: of a slice, how many cells an element has. -/
def cellZ (P : Program) : Nat → TypeId → List Nat
  | 0, _ => []
  | n + 1, t => match P.underlying t with
    | some (.slice e) => [P.cellsOf e]
    | some (.struct fs) => fs.toList.flatMap fun f => cellZ P n f.type
    | some (.array k e) => (List.replicate k (cellZ P n e)).flatten
    | _ => [0]

/-- A zero cell as a tree. -/
def zeroT : Nat → L → T
  | _, .t x => x
  | z, .nil => .sl z []
  | _, _ => .hole

def zeL (P : Program) (t : TypeId) : List L := ((P.info? t).bind (·.zero)).elim [] fun v => v.cells.toList.map zeroLeaf

/-- A type's row: its shape, its cells, its bytes, its zero value; cell by cell: of a slice, how many cells an element has. -/
structure Ty where
  u : U
  sz : Nat
  by_ : Nat
  ze : List L
  known : Bool
  cz : List Nat
  dz : List T

def tyOf (P : Program) (t : TypeId) : Ty :=
  { u := uOf P t, sz := P.cellsOf t, by_ := P.bytesOf t, ze := zeL P t, known := ((P.info? t).bind (·.zero)).any fun v => v.cells.toList.all (·.oneCell') && v.cells.size == P.cellsOf t, cz := cellZ P 8 t, dz := List.zipWith zeroT (cellZ P 8 t) (zeL P t) }

/-! ### Operands -/

def constL : Value → L
  | .int k n => .t (.int k n)
  | .bool b => .t (.bool b)
  | .string s => .t (.str s)
  | .slice none 0 0 => .nil
  | .pointer none => .npt
  | _ => .undef

def constV (v : Value) : Option V := match constL v with
  | .undef => none
  | l => some (.l l)

def evO (σ : St) : Operand → Option (Bool × V)
  | .tmp t => get σ.env t
  | .const v => (constV v).map fun x => (true, x)
  | .func f => some (true, .l (.fn f []))
  | .global _ => none

/-- The slots hold what the state says. -/
structure Slots (w : World) (g : Gh) (σ : St) (a : Act) : Prop where
  yes : ∀ t c v, get σ.env t = some (c, v) → c = true → RepV w g σ v (a.tmps.getD t undef)
  no : ∀ t c v, get σ.env t = some (c, v) → c = false → a.tmps.getD t undef = undef

theorem constV_rep {w : World} {g : Gh} {σ : St} {v : Value} {x : V} (h : constV v = some x) : RepV w g σ x v := by
  unfold constV at h
  split at h
  · cases h
  · rename_i l hl
    simp only [Option.some.injEq] at h
    subst h
    unfold constL
    split
    · exact .int
    · exact .bool
    · exact .str
    · exact ⟨none, rfl⟩
    · rfl
    · rename_i h1 h2 h3 h4 h5
      exact absurd (by unfold constL; split <;> simp_all) hl

theorem evO_rep {w : World} {g : Gh} {σ : St} {a : Act} (hs : Slots w g σ a) {x : Operand} {c : Bool} {v : V} (h : evO σ x = some (c, v)) (hc : c = true) : RepV w g σ v (a.eval x) := by
  cases x with
  | tmp t => exact hs.yes t c v h hc
  | const u =>
    simp only [evO, Option.map_eq_some_iff, Prod.mk.injEq] at h
    obtain ⟨y, hy, _, rfl⟩ := h
    exact constV_rep hy
  | func f =>
    simp only [evO, Option.some.injEq, Prod.mk.injEq] at h
    obtain ⟨_, rfl⟩ := h
    exact ⟨by simp, rfl⟩
  | global => cases h

/-! ### Numbers, flags, texts -/

/-- What two cells' operation answers, and what it asks. -/
def binT (op : BinOp) : T → T → Option (Prop × T)
  | .int k a, .int k' b => match op with
    | .shl => some (0 ≤ b, .int k (k.wrap (a * 2 ^ (min b.toNat k.bits))))
    | .shr => some (0 ≤ b, .int k (a.fdiv (2 ^ (min b.toNat k.bits))))
    | .add => some (k = k', .int k (k.wrap (a + b)))
    | .sub => some (k = k', .int k (k.wrap (a - b)))
    | .mul => some (k = k', .int k (k.wrap (a * b)))
    | .quo => some (k = k' ∧ b ≠ 0, .int k (k.wrap (a.tdiv b)))
    | .rem => some (k = k' ∧ b ≠ 0, .int k (a.tmod b))
    | .and => some (k = k', .int k (k.wrap (BitVec.ofInt k.bits a &&& BitVec.ofInt k.bits b).toNat))
    | .or => some (k = k', .int k (k.wrap (BitVec.ofInt k.bits a ||| BitVec.ofInt k.bits b).toNat))
    | .xor => some (k = k', .int k (k.wrap (BitVec.ofInt k.bits a ^^^ BitVec.ofInt k.bits b).toNat))
    | .eql => some (k = k', .bool (a == b))
    | .neq => some (k = k', .bool (a != b))
    | .lss => some (k = k', .bool (decide (a < b)))
    | .leq => some (k = k', .bool (decide (a ≤ b)))
    | .gtr => some (k = k', .bool (decide (a > b)))
    | .geq => some (k = k', .bool (decide (a ≥ b)))
    | .andNot => none
  | .str x, .str y => match op with
    | .add => some (((x.size + y.size : Nat) : Int) ≤ 9223372036854775807, .str (x ++ y))
    | .eql => some (True, .bool (x.toList == y.toList))
    | .neq => some (True, .bool (!(x.toList == y.toList)))
    | _ => none
  | _, _ => none

/-- All that was there is there as it was. -/
def Kept (w w1 : World) : Prop := ∀ b, b < w.heap.size → w1.heap[b]? = w.heap[b]?

theorem Kept.refl (w : World) : Kept w w := fun _ _ => rfl

theorem Kept.lt {w w1 : World} (h : Kept w w1) : w.heap.size ≤ w1.heap.size := by
  apply Nat.le_of_not_lt
  intro hlt
  have e := h (w.heap.size - 1) (by omega)
  rw [Array.getElem?_eq_none (by omega), Array.getElem?_eq_getElem (by omega)] at e
  cases e

theorem Kept.trans {w w1 w2 : World} (h : Kept w w1) (h' : Kept w1 w2) : Kept w w2 := fun b hb => by
  rw [h' b (Nat.lt_of_lt_of_le hb h.lt), h b hb]

theorem Kept.cell {w w1 : World} (h : Kept w w1) {a : Addr} {v : Value} (hc : w.cell? a = some v) : w1.cell? a = some v := by
  unfold World.cell? at hc ⊢
  cases hb : w.heap[a.block]? with
  | none => rw [hb] at hc; cases hc
  | some o => rw [h a.block (Array.getElem?_eq_some_iff.1 hb).1]; exact hc

theorem binT_run {P : Program} {w : World} {op : BinOp} {t : TypeId} {x y : T} {c : Prop} {z : T} {u v : Value} {F : Blks} (hx : Rep w false u x F) (hy : Rep w false v y F)
    (h : binT op x y = some (c, z)) (hc : c) : ∃ r, (∀ w1, (Go.binOp op t u v).run P w1 = .ok r w1) ∧ Rep w false r z F := by
  cases hx with
  | @int k a =>
    cases hy with
    | @int k' b =>
      cases op <;> simp only [binT, Option.some.injEq, Prod.mk.injEq, reduceCtorEq] at h <;> obtain ⟨rfl, rfl⟩ := h
      case shl => exact ⟨_, fun _ => by simp [Go.binOp, Op.shift, Int.not_lt.mpr hc], .int⟩
      case shr => exact ⟨_, fun _ => by simp [Go.binOp, Op.shift, Int.not_lt.mpr hc], .int⟩
      case quo => obtain ⟨rfl, hb⟩ := hc; exact ⟨_, fun _ => by simp [Go.binOp, Op.intDiv, hb], .int⟩
      case rem => obtain ⟨rfl, hb⟩ := hc; exact ⟨_, fun _ => by simp [Go.binOp, Op.intDiv, hb], .int⟩
      case and => subst hc; exact ⟨_, fun _ => by simp only [Go.binOp]; rw [if_neg (by simp)]; rfl, .int⟩
      case or => subst hc; exact ⟨_, fun _ => by simp only [Go.binOp]; rw [if_neg (by simp)]; rfl, .int⟩
      case xor => subst hc; exact ⟨_, fun _ => by simp only [Go.binOp]; rw [if_neg (by simp)]; rfl, .int⟩
      all_goals first
        | (subst hc; exact ⟨_, fun _ => by simp [Go.binOp, Op.intArith], .int⟩)
        | (subst hc; exact ⟨_, fun _ => by simp [Go.binOp, Op.intCmp], .bool⟩)
    | _ => simp [binT] at h
  | @str x =>
    cases hy with
    | @str y =>
      cases op <;> simp only [binT, Option.some.injEq, Prod.mk.injEq, reduceCtorEq] at h <;> obtain ⟨rfl, rfl⟩ := h
      case add =>
        have : ¬ ((x.size + y.size : Nat) : Int) > IntKind.i64.max := by
          have : IntKind.i64.max = 9223372036854775807 := by decide
          omega
        exact ⟨_, fun _ => by simp only [Go.binOp, Op.stringOp]; rw [if_neg this]; rfl, .str⟩
      case eql => exact ⟨_, fun _ => by simp [Go.binOp, Op.stringOp], .bool⟩
      case neq => exact ⟨_, fun _ => by simp [Go.binOp, Op.stringOp], .bool⟩
    | _ => simp [binT] at h
  | _ => simp [binT] at h


/-! ### Reading -/

theorem Rep.toTrue {w : World} {o : Bool} {v : Value} {t : T} {F : Blks} (h : Rep w o v t F) : Rep w false v t fun _ => True := h.lent.mono fun _ _ => trivial

theorem Mem.reads {w : World} {g : Gh} {σ : St} (m : Mem w g σ) {r : Nat} {row : Row} (h : get σ.row r = some row) : Rep w false (g.rw r) row.t fun _ => True := by
  cases hp : row.pm with
  | own => exact (m.own r row h hp).toTrue
  | ro => exact (m.ro r row h hp).toTrue
  | top =>
    rcases m.top r row h hp with ⟨e, oa, hv⟩ | ⟨a, cap, cs, hv, hl, hF, hc⟩
    · rw [hv, Row.t, e]
      cases oa with
      | none => exact .nils
      | some a => exact .bare
    · rw [hv]
      exact .sl (fun _ _ _ => True) ⟨let ⟨e, fr, h, _⟩ := hl.blk; ⟨e, fr, h, fun h => by cases h⟩, hl.spot, hl.len, hl.room, hl.each⟩ trivial (fun _ _ _ _ => trivial) (fun h => by cases h) (fun h => by cases h)
        (fun i j x c hx hcc => (hc i j x c hx hcc).toTrue)

theorem Mem.at {w : World} {g : Gh} {σ : St} (m : Mem w g σ) {r : Nat} {row : Row} (h : get σ.row r = some row) {p : Path} {s : T} (hs : row.t.at? p = some s) :
    ∃ u, valAt w (g.rw r) row.t p = some u ∧ Rep w false u s fun _ => True := (m.reads h).focus_ro hs

theorem T.at?_append : ∀ (p q : Path) (t : T), t.at? (p ++ q) = (t.at? p).bind fun s => s.at? q
  | [], q, t => by simp [T.at?]
  | (i, j) :: p, q, t => by
    cases t with
    | sl z es =>
      simp only [List.cons_append, T.at?]
      cases es[i]? with
      | none => rfl
      | some x =>
        simp only []
        cases x[j]? with
        | none => rfl
        | some c => exact T.at?_append p q c
    | _ => rfl

theorem valAt_append {w : World} : ∀ (p q : Path) (t s : T) (v : Value), t.at? p = some s → valAt w v t (p ++ q) = (valAt w v t p).bind fun u => valAt w u s q
  | [], q, t, s, v, h => by
    simp only [T.at?, Option.some.injEq] at h
    subst h
    simp [valAt]
  | (i, j) :: p, q, t, s, v, h => by
    cases t with
    | sl z es =>
      simp only [T.at?] at h
      cases v with
      | slice oa n cap =>
        cases oa with
        | none => simp [valAt]
        | some a =>
          simp only [List.cons_append, valAt]
          cases hx : es[i]? with
          | none => rfl
          | some x =>
            simp only [hx] at h ⊢
            cases hc : x[j]? with
            | none => rfl
            | some c =>
              simp only [hc] at h ⊢
              cases w.cell? (a.add (i * z + j)) with
              | none => rfl
              | some u => exact valAt_append p q c s u h
      | _ => simp [valAt]
    | _ => simp [T.at?] at h

/-- A cell of an element, as a leaf. -/
def leafOf (r : Nat) (p : Path) (i j : Nat) : T → L
  | .sl z es => .ref r (p ++ [(i, j)]) z 0 es.length
  | .hole => .undef
  | x => .t x

def leavesOf (r : Nat) (p : Path) (i : Nat) : Nat → List T → List L
  | _, [] => []
  | j, c :: cs => leafOf r p i j c :: leavesOf r p i (j + 1) cs

theorem View.whole (oa : Option Addr) (n cap z len : Nat) : View (.slice oa n cap) z 0 len (.slice oa len cap) :=
  ⟨oa, n, cap, oa, rfl, by simp, Or.inr (by cases oa <;> simp [Addr.add])⟩

/-- The slice value of an element's cell that is read: its cells lie there. -/
theorem Rep.elem {w : World} {o : Bool} {oa : Option Addr} {n cap z : Nat} {es : Els} {F : Blks} (h : Rep w o (.slice oa n cap) (.sl z es) F) {i : Nat} {x : List T} (hx : es[i]? = some x) :
    ∃ a, oa = some a ∧ n = es.length ∧ a.spot = none ∧ x.length = z ∧ ∀ j c, x[j]? = some c → ∃ v G, w.cell? ⟨a.block, a.off + i * z + j, none⟩ = some v ∧ Rep w o v c G ∧ (∀ b, G b → F b) := by
  cases h with
  | nils => simp at hx
  | bare => simp at hx
  | @sl a _ _ _ _ cs f hl hF hsub hd hdd hr =>
    refine ⟨_, rfl, rfl, hl.spot, hl.each x (List.mem_of_getElem? hx), fun j c hc => ⟨_, f i j, ?_, hr i j x c hx hc, hsub i j⟩⟩
    have := hl.cell hx hc
    rwa [Addr.add_plain hl.spot, ← Nat.add_assoc] at this

theorem leafOf_rep {w : World} {g : Gh} {σ : St} {r : Nat} {row : Row} (hrow : get σ.row r = some row) {p : Path} {z : Nat} {es : Els} (hp : row.t.at? p = some (.sl z es))
    {i j : Nat} {x : List T} {c : T} (hx : es[i]? = some x) (hc : x[j]? = some c) {oa : Option Addr} {n cap : Nat} (hv : valAt w (g.rw r) row.t p = some (.slice oa n cap)) {a : Addr} (ha : oa = some a) (hs : a.spot = none)
    {v : Value} (hcell : w.cell? ⟨a.block, a.off + i * z + j, none⟩ = some v) (hrep : Rep w false v c fun _ => True) : RepL w g σ (leafOf r p i j c) v := by
  subst ha
  have hadd : a.add (i * z + j) = ⟨a.block, a.off + i * z + j, none⟩ := by rw [Addr.add_plain hs, Nat.add_assoc]
  have hat : ∀ c, x[j]? = some c → row.t.at? (p ++ [(i, j)]) = some c := fun c hc => by rw [T.at?_append, hp]; simp [T.at?, hx, hc]
  have hva : valAt w (g.rw r) row.t (p ++ [(i, j)]) = some v := by
    rw [valAt_append p _ _ _ _ hp, hv]
    simp [valAt, hx, hc, hadd, hcell]
  cases c with
  | sl z' es' =>
    obtain ⟨oa, cap, e⟩ := hrep.head
    subst e
    exact ⟨row, es', _, hrow, hat _ hc, hva, by simp, View.whole oa _ cap z' _⟩
  | hole => exact hrep.one
  | int k n => cases hrep; exact .int
  | bool b => cases hrep; exact .bool
  | str s => cases hrep; exact .str

theorem RepLs.length {w : World} {g : Gh} {σ : St} : ∀ {ls : List L} {vs : List Value}, RepLs w g σ ls vs → ls.length = vs.length
  | [], [], _ => rfl
  | _ :: _, _ :: _, h => by simp [RepLs.length h.2]
  | [], _ :: _, h => h.elim
  | _ :: _, [], h => h.elim

theorem RepLs.nth {w : World} {g : Gh} {σ : St} : ∀ {ls : List L} {vs : List Value}, RepLs w g σ ls vs → ∀ {j : Nat} {l : L}, ls[j]? = some l → ∃ v, vs[j]? = some v ∧ RepL w g σ l v
  | l :: ls, v :: vs, h, 0, l', hl => by simp at hl; subst hl; exact ⟨v, rfl, h.1⟩
  | l :: ls, v :: vs, h, j + 1, l', hl => by simpa using RepLs.nth h.2 (by simpa using hl)
  | [], _, _, _, _, hl => by simp at hl
  | _ :: _, [], h, _, _, _ => h.elim

theorem RepLs.of_nth {w : World} {g : Gh} {σ : St} : ∀ {ls : List L} {vs : List Value}, ls.length = vs.length → (∀ (j : Nat) (l : L) (v : Value), ls[j]? = some l → vs[j]? = some v → RepL w g σ l v) → RepLs w g σ ls vs
  | [], [], _, _ => trivial
  | l :: ls, v :: vs, h, hr => ⟨hr 0 l v rfl rfl, RepLs.of_nth (by simpa using h) fun j l' v' h1 h2 => hr (j + 1) l' v' (by simpa using h1) (by simpa using h2)⟩
  | [], _ :: _, h, _ => by simp at h
  | _ :: _, [], h, _ => by simp at h

theorem RepLs.part {w : World} {g : Gh} {σ : St} {ls : List L} {vs : List Value} (h : RepLs w g σ ls vs) (j n : Nat) : RepLs w g σ ((ls.drop j).take n) ((vs.drop j).take n) := by
  refine .of_nth (by simp [h.length]) fun k l v hl hv => ?_
  rw [List.getElem?_take] at hl hv
  split at hl
  · rename_i hk
    simp only [hk, if_true] at hv
    rw [List.getElem?_drop] at hl hv
    obtain ⟨v', hv', hr⟩ := h.nth hl
    rw [hv] at hv'
    cases hv'
    exact hr
  · cases hl

theorem leavesOf_get (r : Nat) (p : Path) (i : Nat) : ∀ (cs : List T) (j k : Nat), (leavesOf r p i j cs)[k]? = (cs[k]?).map (leafOf r p i (j + k))
  | [], _, _ => by simp [leavesOf]
  | c :: cs, j, 0 => by simp [leavesOf]
  | c :: cs, j, k + 1 => by
    simp only [leavesOf, List.getElem?_cons_succ, leavesOf_get r p i cs (j + 1) k]
    congr 2
    omega

theorem leavesOf_length (r : Nat) (p : Path) (i : Nat) : ∀ (cs : List T) (j : Nat), (leavesOf r p i j cs).length = cs.length
  | [], _ => rfl
  | c :: cs, j => by simp [leavesOf, leavesOf_length r p i cs]

end Go.Tw
