/- The layer: trees, states, rules; plain functions. -/
import Derived.Test.YtgcjdkgddnnlpaaBaseE
import Derived.Lib.Join
import Derived.Below
set_option linter.unusedSimpArgs false
set_option linter.unusedVariables false
set_option linter.unnecessarySimpa false
namespace Go.Tw
end Go.Tw

namespace Go.Tw
open Go.RowKit
def joinT (xs : List ByteArray) (sep : ByteArray) : ByteArray := ⟨(Lib.join (xs.map (·.data.toList)) sep.data.toList).toArray⟩
theorem ba_ext {a b : ByteArray} (h : a.data.toList = b.data.toList) : a = b := by
  cases a; cases b
  simp only [ByteArray.mk.injEq]
  exact Array.toList_inj.1 h
theorem joinT_one (x sep : ByteArray) : joinT [x] sep = x := by
  refine ba_ext ?_
  simp [joinT, Lib.join_one]
theorem join_two (x y : List UInt8) (r : List (List UInt8)) (sep : List UInt8) : Lib.join (x :: y :: r) sep = x ++ sep ++ Lib.join (y :: r) sep := by
  rw [Lib.join_cons, Lib.join_cons]
  simp [Lib.joinTail]
theorem joinT_cons (x y : ByteArray) (r : List ByteArray) (sep : ByteArray) : joinT (x :: y :: r) sep = x ++ sep ++ joinT (y :: r) sep := by
  refine ba_ext ?_
  simp only [joinT, List.map_cons, join_two]
  simp
theorem join_len_le (sep : List UInt8) {c : Nat} : ∀ xs : List (List UInt8), (∀ x ∈ xs, x.length ≤ c) → (Lib.join xs sep).length ≤ xs.length * (c + sep.length)
  | [], _ => by simp [Lib.join_nil]
  | [x], h => by
    have := h x (by simp)
    rw [Lib.join_one]; simp; omega
  | x :: y :: r, h => by
    have h1 := h x (by simp)
    have h2 := join_len_le sep (y :: r) fun z hz => h z (List.mem_cons_of_mem _ hz)
    rw [join_two]
    simp only [List.length_append, List.length_cons] at h2 ⊢
    rw [Nat.add_mul (r.length + 1) 1, Nat.one_mul]
    omega
section
variable {P : Program}
theorem join_pc {f : FuncId} (ho : Ours P f) (h0 : ∀ a c sep w, Calls P f #[.slice a 0 c, .string sep] w fun e w' => e = .returned (.string ⟨#[]⟩) ∧ w' = w)
    (h1 : ∀ bk o c (xs : List ByteArray) sep w, (∀ (j : Nat) x, xs[j]? = some x → w.cell? ⟨bk, o + j, none⟩ = some (.string x)) → bk < w.heap.size → xs.length ≤ 140737488355328 → xs.length ≤ c → (Lib.join (xs.map (·.data.toList)) sep.data.toList).length ≤ 140737488355328 →
      Calls P f #[.slice (some ⟨bk, o, none⟩) xs.length c, .string sep] w fun e w' => e = .returned (.string ⟨(Lib.join (xs.map (·.data.toList)) sep.data.toList).toArray⟩) ∧ Below w.heap.size w w')
    (xs : List ByteArray) (sep : ByteArray) (hx : xs.length ≤ 1048576) (hs : ∀ x ∈ xs, x.size ≤ 1048576) (hp : sep.size ≤ 1048576) : PC P f [(false, [.sl 1 (enc eStr xs)]), (false, [.str sep])] [(false, [.str (joinT xs sep)])] := by
  refine ⟨ho, fun w vs hsh hrep => ?_⟩
  have fin : ∀ {s : ByteArray} {w' : World}, s = joinT xs sep → Below w.heap.size w w' → w.heap.size ≤ w'.heap.size ∧ (∀ b, b < w.heap.size → w'.heap[b]? = w.heap[b]?) ∧ w'.os = w.os ∧ w'.tape = w.tape ∧ w'.output = w.output ∧
        ∃ us, Value.string s = oneU us ∧ Shapes [(false, [T.str (joinT xs sep)])] us ∧ ∃ F : Nat → Blks, (∀ (j : Nat) t v, (flatA [(false, [T.str (joinT xs sep)])])[j]? = some t → (flatU us)[j]? = some v → Rep w' true v t (F j)) ∧ (∀ j b, F j b → w.heap.size ≤ b) ∧ ∀ j j' b, F j b → F j' b → j = j' := by
    intro s w' e hb
    subst e
    refine ⟨hb.size, hb.block, hb.os, hb.tape, hb.output, [_], rfl, by simp [Shapes, ShapeV, Value.oneCell'], fun _ _ => False, fun j t v ht hv => ?_, fun _ _ h => h.elim, fun _ _ _ h => h.elim⟩
    cases j with
    | zero =>
      simp [flatA, flatU, Value.cells] at ht hv
      subst ht hv
      exact .str
    | succ j => simp [flatA] at ht
  match vs, hsh with
  | [u0, u1], hsh =>
    obtain ⟨hs0, hs1, -⟩ := hsh
    have c0 : u0.cells = #[u0] := by
      simp only [ShapeV, Bool.false_eq_true, if_false] at hs0
      have := hs0.2
      cases u0 <;> first | rfl | (simp [Value.oneCell'] at this)
    have c1 : u1.cells = #[u1] := by
      simp only [ShapeV, Bool.false_eq_true, if_false] at hs1
      have := hs1.2
      cases u1 <;> first | rfl | (simp [Value.oneCell'] at this)
    have r0 : Rep w false u0 (.sl 1 (enc eStr xs)) fun _ => True := hrep 0 _ u0 rfl (by simp [flatU, c0])
    have r1 : Rep w false u1 (.str sep) fun _ => True := hrep 1 _ u1 rfl (by simp [flatU, c0, c1])
    have e1 : u1 = .string sep := by cases r1; rfl
    subst e1
    obtain ⟨oa, cap, rfl⟩ := r0.head
    have hcap := r0.cap_ge.1
    have hl : (enc eStr xs).length = xs.length := by simp [enc]
    rw [hl] at hcap
    by_cases hn : xs = []
    · subst hn
      refine Calls.mono (h0 oa cap sep w) fun e w' he => ?_
      obtain ⟨rfl, rfl⟩ := he
      exact fin rfl (Below.refl _ _)
    · have hpos : 0 < xs.length := List.length_pos_iff.2 hn
      have hat : ∀ (j : Nat) (x : ByteArray), xs[j]? = some x → (enc eStr xs)[j]? = some [T.str x] := fun j x h => by show (List.map eStr xs)[j]? = some [T.str x]; rw [List.getElem?_map, h]; rfl
      obtain ⟨a, rfl, _, hsp, _, _⟩ := r0.elem (hat 0 xs[0] (List.getElem?_eq_getElem hpos))
      have ha : a = ⟨a.block, a.off, none⟩ := by cases a; simp only at hsp; subst hsp; rfl
      have hcell : ∀ j x, xs[j]? = some x → w.cell? ⟨a.block, a.off + j, none⟩ = some (.string x) := by
        intro j x hj
        obtain ⟨a2, ha2, _, _, _, hc⟩ := r0.elem (hat j x hj)
        simp only [Option.some.injEq] at ha2
        subst ha2
        obtain ⟨v, G, hv, hrv, _⟩ := hc 0 _ rfl
        rw [Nat.mul_one, Nat.add_zero] at hv
        rw [hv]
        cases hrv; rfl
      have hblk : a.block < w.heap.size := by
        have := hcell 0 xs[0] (List.getElem?_eq_getElem hpos)
        unfold World.cell? at this
        cases hb : w.heap[a.block]? with
        | none => simp [hb] at this
        | some q => exact (Array.getElem?_eq_some_iff.1 hb).1
      have hlen := join_len_le (c := 1048576) sep.data.toList (xs.map (·.data.toList)) fun y hy => by
        obtain ⟨x, hx', rfl⟩ := List.mem_map.1 hy
        have := hs x hx'
        show x.data.toList.length ≤ _
        rw [Array.length_toList]; exact this
      have hlen2 : (Lib.join (xs.map (·.data.toList)) sep.data.toList).length ≤ 140737488355328 := by
        refine Nat.le_trans hlen ?_
        have hq : sep.data.toList.length ≤ 1048576 := by rw [Array.length_toList]; exact hp
        have : (xs.map (·.data.toList)).length * (1048576 + sep.data.toList.length) ≤ 1048576 * (1048576 + 1048576) := Nat.mul_le_mul (by simpa using hx) (by omega)
        omega
      rw [hl, ha]
      refine Calls.mono (h1 a.block a.off cap xs sep w hcell hblk (by omega) hcap hlen2) fun e w' he => ?_
      obtain ⟨rfl, hb⟩ := he
      exact fin rfl hb
end
end Go.Tw

namespace Go.Tw
def ends (x : GIns) : Bool := !(insOk x) || decide (x.op = 7) || decide (x.op = 8) || decide (x.op = 9)
def badIns (n i : Nat) (x : GIns) : Bool := (!(insOk x) && decide (x ≠ ⟨0, 0, 0, 0, 0⟩)) || (ends x && decide (i + 1 < n))
def blockHd (b : GBlock) : Bool := inR b.start 0 23 && inR (b.list.length : Int) 1 (4 - b.start % 4)
def blockOk (b : GBlock) : Bool := blockHd b && (List.range b.list.length).all fun i => match b.list[i]? with
  | some x => !badIns b.list.length i x
  | none => true
def pageOf (b : GBlock) : Int := if blockOk b = true then b.start / 4 else -1
end Go.Tw

namespace Go.Tw
end Go.Tw

namespace Go.Tw
def frameOk (f : GFrame) : Bool := if f.state = 0 then decide (f.list.length = 0) else inR f.state 0 2 && wordsOk f.list 4
def blk : List Int → List GIns
  | [] => []
  | w :: ws => if ends (decode w) = true then [decode w] else decode w :: blk ws
end Go.Tw

namespace Go.Tw
theorem callG_false {P : Program} {k : Bool} {f : FuncId} {vs : List V} {c : Prop} {d : Option Nat} {next : St → Prop} {σ : St} (v : V) (h : next (σ.set d false v)) : CallG P k f vs c false d next σ :=
  ⟨σ, v, fun _ _ _ _ _ g R => ⟨g, R⟩, fun _ => h, fun e => by cases e⟩
theorem all_of {α : Type} {xs : List α} {p : α → Bool} (h : ∀ j, (hj : j < xs.length) → p xs[j] = true) : xs.all p = true := by
  rw [List.all_eq_true]
  intro x hx
  obtain ⟨j, hj, rfl⟩ := List.getElem_of_mem hx
  exact h j hj
end Go.Tw

namespace Go.Tw
def msgHd (m : GMsg) : Bool := inR m.kind 1 7 && inR m.page 0 5 && ((decide (m.kind = 3) || decide (m.kind = 6)) || !m.own)
def msgOk (m : GMsg) : Bool := msgHd m && wordsOk m.list (if m.kind = 3 ∨ m.kind = 7 then 4 else 0)
def sendHd (s : GSender) : Bool := inR s.base 0 100000 && decide ((s.queue.length : Int) ≤ 30) && decide (IntKind.wrap .i64 (s.base + s.queue.length) ≤ 100000)
def senderOk (s : GSender) : Bool := sendHd s && s.queue.all msgOk
end Go.Tw

namespace Go.Tw
def wofN (who n : Int) : Bool := inR who 0 (IntKind.wrap .i64 (n - 1))
def homeHd (h : GHome) (n : Int) : Bool := inR n 1 4 && wordsOk h.list 4 && inR h.owner (-1) (IntKind.wrap .i64 (n - 1)) && decide ((h.readers.length : Int) = n) && wofN h.now.who n && inR h.acks 0 n && decide ((h.queue.length : Int) ≤ 12)
def homeOk (h : GHome) (n : Int) : Bool := homeHd h n && h.queue.all fun w => wofN w.who n
end Go.Tw

namespace Go.Tw
def nodeHd (x : GNode) (n : Int) : Bool := inR n 1 4 && inR x.id 0 (IntKind.wrap .i64 (n - 1)) && decide ((x.frames.length : Int) = 6) && decide ((x.homes.length : Int) = 6) && decide ((x.out.length : Int) = n) && decide ((x.in_.length : Int) = n)
def gotOk (r : GReceiver) : Bool := inR r.got 0 100000
def nodeOk (x : GNode) (n : Int) : Bool := nodeHd x n && x.frames.all frameOk && (x.homes.all fun h => homeOk h n) && x.out.all senderOk && x.in_.all gotOk
theorem all_no {α : Type} {xs : List α} {p : α → Bool} {i : Nat} (h : i < xs.length) (hp : p xs[i] = false) : xs.all p = false := by
  rw [List.all_eq_false]; exact ⟨xs[i], List.getElem_mem h, by simp [hp]⟩
end Go.Tw

namespace Go.Tw
theorem enc_tail {α : Type} (f : α → List T) (xs : List α) : (enc f xs).tail = enc f xs.tail := by cases xs <;> rfl
attribute [go_sem] enc_tail
def purge (l : List GBlock) (page : Int) : List GBlock := l.filter fun b => decide (pageOf b ≠ page)
theorem purge_step {l : List GBlock} {page : Int} {i : Nat} (h : i < l.length) : purge (l.take (i + 1)) page = purge (l.take i) page ++ (if pageOf l[i] = page then [] else [l[i]]) := by
  unfold purge
  rw [← List.take_append_getElem h, List.filter_append]
  by_cases hp : pageOf l[i] = page <;> simp [hp]
end Go.Tw

namespace Go.Tw
def xAt (mem : List Int) (h : GHart) : GIns := decode (mem.getD h.pc.toNat 0)
def tAt (mem : List Int) (h : GHart) : Int := target (xAt mem h) h.regs
def gAt (mem : List Int) (h : GHart) : Int := if 0 ≤ tAt mem h then mem.getD (tAt mem h).toNat 0 else 0
def stepH (mem : List Int) (h : GHart) : GHart := (work h (xAt mem h) (gAt mem h)).1
def putAt (mem : List Int) (h : GHart) : Int := (work h (xAt mem h) (gAt mem h)).2
def stepM (mem : List Int) (h : GHart) : List Int := if 0 ≤ putAt mem h then mem.set (tAt mem h).toNat (putAt mem h) else mem
def flatM (mem : List Int) (h : GHart) : List Int := if evOk mem h = true then stepM mem h else mem
def flatH (mem : List Int) (h : GHart) : GHart := if evOk mem h = true then stepH mem h else h
theorem work_regs (h : GHart) (x : GIns) (got : Int) : (work h x got).1.regs.length = h.regs.length := by
  unfold work
  by_cases q : hartOk h = true ∧ h.state = 0 ∧ isW got = true
  · rw [if_pos q]
    by_cases qi : insOk x = true
    · rw [if_pos qi]
      split; · simp
      split; · simp
      split; · simp
      split; · simp
      split; · simp
      split; · simp
      split; · simp
      split; · simp
      split <;> simp
    · rw [if_neg qi]
  · rw [if_neg q]
theorem work_small {h : GHart} (x : GIns) (got : Int) {n : Nat} (q : h.regs.length ≤ n) : (work h x got).1.regs.length ≤ n := by rw [work_regs]; exact q
theorem word_isW (n : Int) : isW (word n) = true := by unfold isW word inR; simp; omega
theorem work_put {h : GHart} {x : GIns} {got : Int} (hp : 0 ≤ (work h x got).2) : hartOk h = true ∧ h.state = 0 ∧ isW got = true ∧ insOk x = true ∧ (x.op = 5 ∨ x.op = 6) ∧ isW (work h x got).2 = true := by
  by_cases q : hartOk h = true ∧ h.state = 0 ∧ isW got = true
  · by_cases qi : insOk x = true
    · refine ⟨q.1, q.2.1, q.2.2, qi, ?_⟩
      obtain ⟨qw, ql, -, -⟩ := hart_facts q.1
      have qb := (insOk_range qi).2.2.2.1
      have hb : x.b.toNat < h.regs.length := by omega
      have hw := wordsOk_get qw hb
      unfold work at hp ⊢
      rw [if_pos q, if_pos qi] at hp ⊢
      by_cases e1 : x.op = 1
      · rw [if_pos e1] at hp; exact absurd (show (0:Int) ≤ -1 from hp) (by decide)
      rw [if_neg e1] at hp ⊢
      by_cases e2 : x.op = 2
      · rw [if_pos e2] at hp; exact absurd (show (0:Int) ≤ -1 from hp) (by decide)
      rw [if_neg e2] at hp ⊢
      by_cases e10 : x.op = 10
      · rw [if_pos e10] at hp; exact absurd (show (0:Int) ≤ -1 from hp) (by decide)
      rw [if_neg e10] at hp ⊢
      by_cases e3 : x.op = 3
      · rw [if_pos e3] at hp; exact absurd (show (0:Int) ≤ -1 from hp) (by decide)
      rw [if_neg e3] at hp ⊢
      by_cases e4 : x.op = 4
      · rw [if_pos e4] at hp; exact absurd (show (0:Int) ≤ -1 from hp) (by decide)
      rw [if_neg e4] at hp ⊢
      by_cases e5 : x.op = 5
      · rw [if_pos e5]
        refine ⟨Or.inl e5, ?_⟩
        simp only [List.getD_eq_getElem?_getD, List.getElem?_eq_getElem hb, Option.getD_some]
        unfold isW
        exact (inR_iff _ _ _).2 hw
      rw [if_neg e5] at hp ⊢
      by_cases e6 : x.op = 6
      · rw [if_pos e6]
        exact ⟨Or.inr e6, word_isW _⟩
      rw [if_neg e6] at hp
      by_cases e7 : x.op = 7
      · rw [if_pos e7] at hp; exact absurd (show (0:Int) ≤ -1 from hp) (by decide)
      rw [if_neg e7] at hp
      by_cases e8 : x.op = 8
      · rw [if_pos e8] at hp; exact absurd (show (0:Int) ≤ -1 from hp) (by decide)
      rw [if_neg e8] at hp
      exact absurd (show (0:Int) ≤ -1 from hp) (by decide)
    · unfold work at hp
      rw [if_pos q, if_neg qi] at hp
      exact absurd (show (0:Int) ≤ -1 from hp) (by decide)
  · rw [work_no q] at hp
    exact absurd (show (0:Int) ≤ -1 from hp) (by decide)
theorem put_at {mem : List Int} {h : GHart} (hp : 0 ≤ putAt mem h) : 0 ≤ tAt mem h ∧ tAt mem h ≤ 23 ∧ isW (putAt mem h) = true := by
  obtain ⟨q1, q2, q3, q4, q5, q6⟩ := work_put hp
  obtain ⟨-, ql, -, -⟩ := hart_facts q1
  have hr := addr_range (IntKind.wrap .i64 (h.regs.getD (xAt mem h).a.toNat 0 + (xAt mem h).n))
  have ht : tAt mem h = addr (IntKind.wrap .i64 (h.regs.getD (xAt mem h).a.toNat 0 + (xAt mem h).n)) := by
    unfold tAt target
    rw [if_pos ⟨q4, by unfold aims; rcases q5 with q | q <;> simp [q], by omega⟩]
  rw [ht]
  exact ⟨hr.1, hr.2, q6⟩
theorem stepM_len (mem : List Int) (h : GHart) : (stepM mem h).length = mem.length := by unfold stepM; split <;> simp
theorem wordsOk_set {mem : List Int} {n v : Int} {i : Nat} (h : wordsOk mem n = true) (hv : isW v = true) : wordsOk (mem.set i v) n = true := by
  unfold wordsOk at *
  rw [Bool.and_eq_true] at *
  refine ⟨by simpa using h.1, ?_⟩
  rw [List.all_eq_true] at *
  intro x hx
  rcases List.mem_or_eq_of_mem_set hx with hx | rfl
  · exact h.2 x hx
  · exact hv
theorem stepM_ok {mem : List Int} {h : GHart} (q : wordsOk mem 24 = true) : wordsOk (stepM mem h) 24 = true := by
  unfold stepM
  split
  · rename_i hp
    exact wordsOk_set q (put_at hp).2.2
  · exact q
structure Tr where
  m : List Int
  hs : List GHart
  evs : List GEvent
def z0 : GHart := ⟨[], 0, 0⟩
def trGo (s : Tr) (i : Int) : Bool := decide (0 ≤ i) && decide (i < s.hs.length) && evOk s.m (s.hs.getD i.toNat z0)
def trStep (s : Tr) (i : Int) : Tr :=
  if trGo s i = true then ⟨stepM s.m (s.hs.getD i.toNat z0), s.hs.set i.toNat (stepH s.m (s.hs.getD i.toNat z0)), s.evs ++ [eventOf s.m (s.hs.getD i.toNat z0) i]⟩ else s
def trN (s : Tr) (order : List Int) (n : Nat) : Tr := (order.take n).foldl trStep s
theorem trN_succ {s : Tr} {order : List Int} {i : Nat} (h : i < order.length) : trN s order (i + 1) = trStep (trN s order i) order[i] := by
  unfold trN
  rw [← List.take_append_getElem h, List.foldl_append]
  rfl
def TrOk (n : Nat) (s : Tr) : Prop := s.m.length ≤ 1048576 ∧ s.hs.length = n ∧ ∀ h ∈ s.hs, h.regs.length ≤ 1048576
theorem TrOk.step {n : Nat} {s : Tr} (h : TrOk n s) (i : Int) : TrOk n (trStep s i) := by
  unfold trStep
  split
  · rename_i hg
    obtain ⟨h1, h2, h3⟩ := h
    refine ⟨by rw [stepM_len]; exact h1, by simpa using h2, fun a ha => ?_⟩
    rcases List.mem_or_eq_of_mem_set ha with ha | rfl
    · exact h3 a ha
    · unfold trGo at hg
      simp only [Bool.and_eq_true, decide_eq_true_eq] at hg
      have hlt : i.toNat < s.hs.length := by omega
      refine work_small _ _ ?_
      rw [List.getD_eq_getElem?_getD, List.getElem?_eq_getElem hlt]
      exact h3 _ (List.getElem_mem hlt)
  · exact h
theorem trStep_words {s : Tr} {i : Int} (h : wordsOk s.m 24 = true) : wordsOk (trStep s i).m 24 = true := by
  unfold trStep
  split
  · exact stepM_ok h
  · exact h
theorem trStep_yes {s : Tr} {i : Int} (h : trGo s i = true) : trStep s i = ⟨stepM s.m (s.hs.getD i.toNat z0), s.hs.set i.toNat (stepH s.m (s.hs.getD i.toNat z0)), s.evs ++ [eventOf s.m (s.hs.getD i.toNat z0) i]⟩ := if_pos h
theorem trStep_no {s : Tr} {i : Int} (h : trGo s i = false) : trStep s i = s := if_neg (by simp [h])
theorem trStep_evs (s : Tr) (i : Int) : (trStep s i).evs.length ≤ s.evs.length + 1 := by
  unfold trStep
  split
  · simp
  · omega
theorem trN_none {s : Tr} (h : wordsOk s.m 24 = false) (order : List Int) : ∀ n, trN s order n = s := by
  have one : ∀ i, trStep s i = s := fun i => trStep_no (by unfold trGo evOk; rw [h]; simp)
  intro n
  unfold trN
  generalize order.take n = l
  induction l with
  | nil => rfl
  | cons x l ih => rw [List.foldl_cons, one, ih]
theorem trN_evs (s : Tr) (order : List Int) : ∀ n, (trN s order n).evs.length ≤ s.evs.length + n
  | 0 => by simp [trN]
  | n + 1 => by
    have ih := trN_evs s order n
    by_cases h : n < order.length
    · rw [trN_succ h]
      have := trStep_evs (trN s order n) order[n]
      omega
    · have : trN s order (n + 1) = trN s order n := by
        unfold trN
        rw [List.take_of_length_le (by omega), List.take_of_length_le (by omega)]
      rw [this]
      omega
def trace (mem : List Int) (hs : List GHart) (order : List Int) : List GEvent := if order.length ≤ 2000 then (trN ⟨mem, hs, []⟩ order order.length).evs else []
theorem trace_len (mem : List Int) (hs : List GHart) (order : List Int) : (trace mem hs order).length ≤ 2000 := by
  unfold trace
  split
  · have := trN_evs ⟨mem, hs, []⟩ order order.length
    simp only [List.length_nil] at this
    omega
  · simp
theorem trStep_at {s : Tr} {i : Int} {h : GHart} (h0 : 0 ≤ i) (h2 : i.toNat < s.hs.length) (hh : s.hs[i.toNat] = h) (he : evOk s.m h = true) :
    trStep s i = ⟨stepM s.m h, s.hs.set i.toNat (stepH s.m h), s.evs ++ [eventOf s.m h i]⟩ := by
  have hd : s.hs.getD i.toNat z0 = h := by rw [List.getD_eq_getElem?_getD, List.getElem?_eq_getElem h2, hh]; rfl
  have hg : trGo s i = true := by unfold trGo; rw [hd, he]; simp; omega
  rw [trStep_yes hg, hd]
theorem trStep_not {s : Tr} {i : Int} {h : GHart} (h2 : i.toNat < s.hs.length) (hh : s.hs[i.toNat] = h) (he : evOk s.m h = false) : trStep s i = s := by
  have hd : s.hs.getD i.toNat z0 = h := by rw [List.getD_eq_getElem?_getD, List.getElem?_eq_getElem h2, hh]; rfl
  exact trStep_no (by unfold trGo; rw [hd, he]; simp)
theorem trStep_out {s : Tr} {i : Int} (h : inR i 0 ((s.hs.length : Int) - 1) = false) : trStep s i = s := by
  refine trStep_no ?_
  unfold trGo
  unfold inR at h
  by_cases h0 : 0 ≤ i
  · simp [h0] at h
    have : ¬ i < (s.hs.length : Int) := by omega
    simp [this]
  · simp [h0]
theorem in_split (n : Nat) (k : Int) : inR k 0 ((n : Int) - 1) = false ∨ (inR k 0 ((n : Int) - 1) = true ∧ 0 ≤ k ∧ k < n ∧ k.toNat < n) := by
  unfold inR
  by_cases h0 : 0 ≤ k
  · by_cases h1 : k ≤ (n : Int) - 1
    · right; simp [h0, h1]; omega
    · left; simp [h0]; omega
  · left; simp [h0]
theorem trace_no {mem : List Int} {hs : List GHart} {order : List Int} (h : 2000 < order.length ∨ wordsOk mem 24 = false) : trace mem hs order = [] := by
  unfold trace
  split
  · rcases h with h | h
    · omega
    · rw [trN_none h]
  · rfl
theorem flat_yes {mem : List Int} {h : GHart} (he : evOk mem h = true) : flatM mem h = stepM mem h ∧ flatH mem h = stepH mem h := ⟨if_pos he, if_pos he⟩
theorem flat_no {mem : List Int} {h : GHart} (he : evOk mem h = false) : flatM mem h = mem ∧ flatH mem h = h := ⟨if_neg (by simp [he]), if_neg (by simp [he])⟩
end Go.Tw

namespace Go.Tw
def eG (s : Int) : List T := [.int .i64 s, .hole]
def kept (xs : List GBlock) (page : Int) (j : Nat) : Nat := (purge (xs.take j) page).length
def Del (xs : List GBlock) (page : Int) (j : Nat) (es : Els) : Prop :=
  ∃ gl : List Int, es = enc eBlock (purge (xs.take j) page) ++ enc eG gl ++ enc eBlock (xs.drop j) ∧ kept xs page j + gl.length = j ∧ 0 < gl.length
section
variable {xs : List GBlock} {page : Int} {j : Nat} {es : Els}
theorem Del.len (h : Del xs page j es) (hj : j ≤ xs.length) : es.length = xs.length := by
  obtain ⟨gl, rfl, h1, h2⟩ := h
  simp only [List.length_append, enc_length, List.length_drop]
  unfold kept at h1
  omega
theorem Del.lt (h : Del xs page j es) : kept xs page j < j := by
  obtain ⟨gl, -, h1, h2⟩ := h
  omega
theorem Del.at (h : Del xs page j es) (hj : j < xs.length) : es[j]? = some [.int .i64 xs[j].start, .sl 5 (enc eIns xs[j].list)] := by
  obtain ⟨gl, rfl, h1, h2⟩ := h
  unfold kept at h1
  rw [List.getElem?_append_right (by simp only [List.length_append, enc_length]; omega)]
  simp only [List.length_append, enc_length]
  rw [show j - ((purge (xs.take j) page).length + gl.length) = 0 from by omega, enc_get, List.getElem?_drop]
  simp [hj, eBlock]
theorem set_mid {α : Type} (a b c : List α) (x y : α) : (a ++ (b ++ x :: c)).set (a.length + b.length) y = a ++ (b ++ y :: c) := by
  rw [List.set_append_right _ _ (by omega), Nat.add_sub_cancel_left, List.set_append_right _ _ (by omega), Nat.sub_self]
  rfl
theorem Del.skip (h : Del xs page j es) (hj : j < xs.length) (hp : pageOf xs[j] = page) : Del xs page (j + 1) (es.set j [.int .i64 xs[j].start, .hole]) ∧ kept xs page (j + 1) = kept xs page j := by
  obtain ⟨gl, rfl, h1, h2⟩ := h
  have hk : purge (xs.take (j + 1)) page = purge (xs.take j) page := by rw [purge_step hj, if_pos hp, List.append_nil]
  refine ⟨⟨gl ++ [xs[j].start], ?_, ?_, by simp⟩, by unfold kept; rw [hk]⟩
  · rw [hk]
    unfold kept at h1
    have e1 : enc eBlock (xs.drop j) = eBlock xs[j] :: enc eBlock (xs.drop (j + 1)) := by rw [List.drop_eq_getElem_cons hj]; rfl
    have e2 : (enc eBlock (purge (xs.take j) page)).length + (enc eG gl).length = j := by simp only [enc_length]; exact h1
    rw [e1, List.append_assoc]
    have := set_mid (enc eBlock (purge (xs.take j) page)) (enc eG gl) (enc eBlock (xs.drop (j + 1))) (eBlock xs[j]) [.int .i64 xs[j].start, .hole]
    rw [e2] at this
    rw [this]
    simp [enc, eG]
  · unfold kept at *
    rw [hk]
    simp only [List.length_append, List.length_singleton]
    omega
theorem Del.start {i : Nat} (hi : i < xs.length) (hp : pageOf xs[i] = page) (hall : ∀ k, (hk : k < xs.length) → k < i → ¬ pageOf xs[k] = page) :
    Del xs page (i + 1) ((enc eBlock xs).set i [.int .i64 xs[i].start, .hole]) ∧ kept xs page (i + 1) = i := by
  have h0 : purge (xs.take i) page = xs.take i := by
    unfold purge
    rw [List.filter_eq_self]
    intro a ha
    obtain ⟨k, hk, rfl⟩ := List.getElem_of_mem ha
    simp only [List.length_take] at hk
    simp only [List.getElem_take, decide_eq_true_eq]
    exact hall k (by omega) (by omega)
  have hk : purge (xs.take (i + 1)) page = xs.take i := by rw [purge_step hi, if_pos hp, List.append_nil, h0]
  have hki : kept xs page (i + 1) = i := by unfold kept; rw [hk]; simp; omega
  refine ⟨⟨[xs[i].start], ?_, by rw [hki]; rfl, by simp⟩, hki⟩
  rw [hk]
  have e1 : xs = xs.take i ++ xs[i] :: xs.drop (i + 1) := by rw [← List.drop_eq_getElem_cons hi, List.take_append_drop]
  have e2 : enc eBlock xs = enc eBlock (xs.take i) ++ ([] ++ eBlock xs[i] :: enc eBlock (xs.drop (i + 1))) := by
    rw [List.nil_append]
    have e0 := congrArg (enc eBlock) e1
    rw [e0]
    unfold enc
    rw [List.map_append]
    rfl
  have e3 : (enc eBlock (xs.take i)).length + ([] : Els).length = i := by simp [enc_length]; omega
  rw [e2]
  have := set_mid (enc eBlock (xs.take i)) [] (enc eBlock (xs.drop (i + 1))) (eBlock xs[i]) [.int .i64 xs[i].start, .hole]
  rw [e3] at this
  rw [this]
  simp [enc, eG]
theorem Del.fin (h : Del xs page xs.length es) : es.take (kept xs page xs.length) = enc eBlock (purge xs page) ∧ kept xs page xs.length = (purge xs page).length ∧ (purge xs page).length < xs.length := by
  have hlt := h.lt
  obtain ⟨gl, rfl, h1, h2⟩ := h
  have hk : kept xs page xs.length = (purge xs page).length := by unfold kept; rw [List.take_length]
  refine ⟨?_, hk, by omega⟩
  rw [hk, List.take_length, List.append_assoc, List.take_left' (by simp [enc_length])]
end
end Go.Tw

namespace Go.Tw
end Go.Tw

namespace Go.Tw
def packetHd (p : GPacket) (n : Int) : Bool := inR n 1 4 && wofN p.from_ n && wofN p.to n && inR p.n 0 100000
def packetOk (p : GPacket) (n : Int) : Bool := packetHd p n && (if p.ack = true then decide (p.msg.kind = 0) && decide (p.msg.page = 0) && !p.msg.own && decide (p.msg.list.length = 0) else msgOk p.msg)
def worldHd (w : GWorld) : Bool := inR w.size 1 4 && decide ((w.nodes.length : Int) = w.size) && decide ((w.net.length : Int) ≤ 40)
def nodeAt (s : Int) (i : Nat) (x : GNode) : Bool := nodeOk x s && decide (x.id = (i : Int))
def nodesAt (w : GWorld) : Bool := (List.range w.nodes.length).all fun i => match w.nodes[i]? with
  | some x => nodeAt w.size i x
  | none => true
def worldOk (w : GWorld) : Bool := worldHd w && nodesAt w && w.net.all fun p => packetOk p w.size
def comN (q : List GMsg) (base got : Int) : Nat → List GMsg
  | 0 => []
  | k + 1 => match q[k]? with
    | some m => if got ≤ base + (k : Int) then comN q base got k ++ [m] else comN q base got k
    | none => comN q base got k
def zNode : GNode := ⟨0, [], [], [], []⟩
def zHome : GHome := ⟨[], 0, [], false, ⟨0, false⟩, 0, []⟩
def zFrame : GFrame := ⟨0, [], false⟩
def comingOf (w : GWorld) (a b : Nat) : List GMsg :=
  comN ((w.nodes.getD a zNode).out.getD b ⟨0, []⟩).queue ((w.nodes.getD a zNode).out.getD b ⟨0, []⟩).base ((w.nodes.getD b zNode).in_.getD a ⟨0⟩).got ((w.nodes.getD a zNode).out.getD b ⟨0, []⟩).queue.length
def lastL (p : GMsg → Bool) (l : List GMsg) : List Int := match l.reverse.find? p with
  | some m => m.list
  | none => []
def lastP (kind page : Int) (m : GMsg) : Bool := decide (m.kind = kind) && decide (m.page = page) && (m.own || decide (kind = 7))
def truthOf (w : GWorld) (p : Nat) : List Int :=
  let d := p % w.size.toNat
  let h := (w.nodes.getD d zNode).homes.getD p zHome
  if h.owner < 0 then h.list
  else
    let o := h.owner.toNat
    let f := (w.nodes.getD o zNode).frames.getD p zFrame
    if f.state = 2 then f.list
    else if 0 < (lastL (lastP 3 p) (comingOf w d o)).length then lastL (lastP 3 p) (comingOf w d o) else lastL (lastP 7 p) (comingOf w o d)
def truthR (w : GWorld) (page : Int) : List Int := if worldOk w = true ∧ 0 ≤ page ∧ page ≤ 5 then truthOf w page.toNat else []
def RevTo (xs ys : List GMsg) (i : Nat) : Prop := ys.length = xs.length ∧ ∀ k, (h : k < ys.length) → (h2 : k < xs.length) → ys[k] = if k < i ∨ xs.length - 1 - i < k then xs[xs.length - 1 - k]'(by omega) else xs[k]
theorem RevTo.start (xs : List GMsg) : RevTo xs xs 0 := ⟨rfl, fun k h h2 => by rw [if_neg (by omega)]⟩
theorem RevTo.step {xs ys : List GMsg} {i : Nat} (h : RevTo xs ys i) (hi : i < xs.length - 1 - i) (h1 : i < ys.length) (h2 : xs.length - 1 - i < ys.length) : RevTo xs ((ys.set i ys[xs.length - 1 - i]).set (xs.length - 1 - i) ys[i]) (i + 1) := by
  obtain ⟨hl, hk⟩ := h
  refine ⟨by simpa using hl, fun k q1 q2 => ?_⟩
  have e1 := hk i h1 (by omega)
  have e2 := hk (xs.length - 1 - i) h2 (by omega)
  rw [if_neg (by omega)] at e1 e2
  rw [List.getElem_set]
  by_cases c1 : xs.length - 1 - i = k
  · subst c1
    rw [if_pos rfl, if_pos (by omega), e1]
    congr 1
    omega
  · rw [if_neg c1, List.getElem_set]
    by_cases c2 : i = k
    · subst c2
      rw [if_pos rfl, if_pos (by omega), e2]
    · rw [if_neg c2, hk k (by simpa using q1) q2]
      by_cases c3 : k < i ∨ xs.length - 1 - i < k
      · rw [if_pos c3, if_pos (by omega)]
      · rw [if_neg c3, if_neg (by omega)]
theorem RevTo.fin {xs ys : List GMsg} {i : Nat} (h : RevTo xs ys i) (hi : ¬ i < xs.length - 1 - i) (hb : i ≤ xs.length) : ys = xs.reverse := by
  obtain ⟨hl, hk⟩ := h
  apply List.ext_getElem
  · simpa using hl
  · intro k q1 q2
    rw [hk k q1 (by omega), List.getElem_reverse]
    split
    · rfl
    · congr 1
      omega
def memN (w : GWorld) : Nat → Option (List Int)
  | 0 => some []
  | k + 1 => match memN w k with
    | some m => if (truthR w k).length = 4 then some (m ++ truthR w k) else none
    | none => none
def memory (w : GWorld) : List Int := (memN w 6).getD []
end Go.Tw

namespace Go.Tw
end Go.Tw

namespace Go.Tw
def hartNew (pc : Int) : GHart := ⟨[0, 0, 0, 0], addr pc, 0⟩
theorem pick_mem {xs : List Int} {x : Int} (h : 0 ≤ x ∧ (x < xs.length ∨ (xs.length : Int) ≤ 0 ∧ x = 0)) (hl : 0 < xs.length) : xs[x.toNat]?.getD 0 ∈ xs := by
  have : x.toNat < xs.length := by omega
  rw [List.getElem?_eq_getElem this]
  exact List.getElem_mem this
end Go.Tw

namespace Go.Tw
theorem isW_iff (x : Int) : isW x = true ↔ 0 ≤ x ∧ x ≤ 65535 := inR_iff _ _ _
theorem getD_word {xs : List Int} {n : Int} (h : wordsOk xs n = true) (j : Nat) : 0 ≤ xs.getD j 0 ∧ xs.getD j 0 ≤ 65535 := by
  rw [List.getD_eq_getElem?_getD]
  by_cases hj : j < xs.length
  · rw [List.getElem?_eq_getElem hj]
    exact wordsOk_get h hj
  · rw [List.getElem?_eq_none (by omega)]
    simp
theorem work_elim {M : GHart × Int → Prop} (h : GHart) (x : GIns) (got : Int) (h0 : M (h, -1)) (hf : hartOk h = true → M (⟨h.regs, h.pc, 2⟩, -1)) (hs : ∀ r v p, hartOk h = true → isW v = true → M (⟨h.regs.set r v, addr p, 0⟩, -1))
    (hj : ∀ p, hartOk h = true → M (⟨h.regs, addr p, 0⟩, -1)) (hst : ∀ v, hartOk h = true → isW v = true → M (⟨h.regs, addr (h.pc + 1), 0⟩, v)) (hsw : ∀ r v u, hartOk h = true → isW v = true → isW u = true → M (⟨h.regs.set r v, addr (h.pc + 1), 0⟩, u))
    (hh : hartOk h = true → M (⟨h.regs, h.pc, 1⟩, -1)) : M (work h x got) := by
  by_cases q : hartOk h = true ∧ h.state = 0 ∧ isW got = true
  · by_cases qi : insOk x = true
    · obtain ⟨qw, ql, -, -⟩ := hart_facts q.1
      have hb := (isW_iff _).2 (getD_word qw x.b.toNat)
      have qn : isW x.n = true := (isW_iff _).2 (by have := (insOk_range qi).2.2.2.2; omega)
      unfold work
      rw [if_pos q, if_pos qi]
      by_cases e1 : x.op = 1
      · rw [if_pos e1]; exact hs _ _ _ q.1 qn
      rw [if_neg e1]
      by_cases e2 : x.op = 2
      · rw [if_pos e2]; exact hs _ _ _ q.1 (word_isW _)
      rw [if_neg e2]
      by_cases e10 : x.op = 10
      · rw [if_pos e10]; exact hs _ _ _ q.1 (word_isW _)
      rw [if_neg e10]
      by_cases e3 : x.op = 3
      · rw [if_pos e3]; exact hs _ _ _ q.1 (word_isW _)
      rw [if_neg e3]
      by_cases e4 : x.op = 4
      · rw [if_pos e4]; exact hs _ _ _ q.1 q.2.2
      rw [if_neg e4]
      by_cases e5 : x.op = 5
      · rw [if_pos e5]; exact hst _ q.1 hb
      rw [if_neg e5]
      by_cases e6 : x.op = 6
      · rw [if_pos e6]; exact hsw _ _ _ q.1 q.2.2 (word_isW _)
      rw [if_neg e6]
      by_cases e7 : x.op = 7
      · rw [if_pos e7]
        by_cases ez : h.regs.getD x.a.toNat 0 = 0
        · rw [if_pos ez]; exact hj _ q.1
        · rw [if_neg ez]; exact hj _ q.1
      rw [if_neg e7]
      by_cases e8 : x.op = 8
      · rw [if_pos e8]; exact hj _ q.1
      rw [if_neg e8]
      exact hh q.1
    · have : work h x got = (⟨h.regs, h.pc, 2⟩, -1) := by unfold work; rw [if_pos q, if_neg qi]
      rw [this]; exact hf q.1
  · rw [work_no q]; exact h0
theorem work_put2 (h : GHart) (x : GIns) (got : Int) : -1 ≤ (work h x got).2 ∧ (work h x got).2 ≤ 65535 :=
  work_elim (M := fun w => -1 ≤ w.2 ∧ w.2 ≤ 65535) h x got (by simp) (fun _ => by simp) (fun _ _ _ _ _ => by simp) (fun _ _ => by simp) (fun v _ hv => by have := (isW_iff _).1 hv; simp only; omega) (fun _ _ u _ _ hu => by have := (isW_iff _).1 hu; simp only; omega) (fun _ => by simp)
end Go.Tw

namespace Go.Tw
def runS (mem : List Int) (hs : List GHart) (order : List Int) : Tr := if order.length ≤ 2000 then trN ⟨mem, hs, []⟩ order order.length else ⟨mem, hs, []⟩
def runM (mem : List Int) (hs : List GHart) (order : List Int) : List Int := (runS mem hs order).m
def runH (mem : List Int) (hs : List GHart) (order : List Int) : List GHart := (runS mem hs order).hs
theorem trN_all (s : Tr) (order : List Int) : trN s order order.length = order.foldl trStep s := by unfold trN; rw [List.take_length]
theorem runS_small {mem : List Int} {hs : List GHart} {order : List Int} (h : order.length ≤ 2000) : runS mem hs order = order.foldl trStep ⟨mem, hs, []⟩ := by
  unfold runS; rw [if_pos h, trN_all]
theorem trace_runS (mem : List Int) (hs : List GHart) (order : List Int) : trace mem hs order = (runS mem hs order).evs := by
  unfold trace runS; split <;> rfl
end Go.Tw

namespace Go.Tw
theorem getD_set_ne {m : List Int} {i j : Nat} {v : Int} (h : i ≠ j) : (m.set i v).getD j 0 = m.getD j 0 := by
  rw [List.getD_eq_getElem?_getD, List.getD_eq_getElem?_getD, List.getElem?_set_ne h]
end Go.Tw

namespace Go.Tw
def codeOf (x : GIns) : Int := if insOk x = true then x.op + 16 * x.r + 64 * x.a + 256 * x.b + 1024 * x.n else 0
theorem code_wrap {x : GIns} (q : insOk x = true) : IntKind.wrap .i64 (IntKind.wrap .i64 (IntKind.wrap .i64 (IntKind.wrap .i64 (x.op + IntKind.wrap .i64 (16 * x.r)) + IntKind.wrap .i64 (64 * x.a)) + IntKind.wrap .i64 (256 * x.b)) + IntKind.wrap .i64 (1024 * x.n)) = codeOf x := by
  obtain ⟨h0, h1, h2, h3, h4⟩ := insOk_range q
  unfold codeOf
  rw [if_pos q, wrap_ok (n := 16 * x.r) (by omega) (by omega), wrap_ok (n := 64 * x.a) (by omega) (by omega), wrap_ok (n := 256 * x.b) (by omega) (by omega), wrap_ok (n := 1024 * x.n) (by omega) (by omega),
    wrap_ok (n := x.op + 16 * x.r) (by omega) (by omega), wrap_ok (n := x.op + 16 * x.r + 64 * x.a) (by omega) (by omega), wrap_ok (n := x.op + 16 * x.r + 64 * x.a + 256 * x.b) (by omega) (by omega), wrap_ok (by omega) (by omega)]
end Go.Tw

namespace Go.Tw
theorem runS_no {mem : List Int} {hs : List GHart} {order : List Int} (h : 2000 < order.length ∨ wordsOk mem 24 = false) : runM mem hs order = mem ∧ runH mem hs order = hs := by
  unfold runM runH runS
  split
  · rcases h with h | h
    · omega
    · rw [trN_none h]; exact ⟨rfl, rfl⟩
  · exact ⟨rfl, rfl⟩
theorem run_end {mem : List Int} {hs : List GHart} {order : List Int} {n : Nat} {s : Tr} (qo : order.length ≤ 2000) (hs' : s = trN ⟨mem, hs, []⟩ order n) (hn : n = order.length) : runM mem hs order = s.m ∧ runH mem hs order = s.hs := by
  unfold runM runH runS
  rw [if_pos qo, hs', hn]
  exact ⟨rfl, rfl⟩
end Go.Tw

namespace Go.Tw
end Go.Tw

namespace Go.Tw
def zEv : GEvent := ⟨0, 0, 0, 0, 0⟩
def isSwp (e : GEvent) : Bool := decide (0 ≤ e.got) && decide (0 ≤ e.put)
def joinB (list : List GEvent) (e : GEvent) (k : Nat) : Bool := isSwp e && isSwp (list.getD k zEv) && decide ((list.getD k zEv).at_ = e.at_)
def joinN (list : List GEvent) (out : List (List Int)) (e : GEvent) (c : List Int) : Nat → List Int
  | 0 => c
  | k + 1 => if joinB list e k = true then clockJoin (joinN list out e c k) (out.getD k []) else joinN list out e c k
def bump (c : List Int) (w : Nat) : List Int := c.set w (IntKind.wrap .i64 (c.getD w 0 + 1))
structure Ck where
  now : List (List Int)
  out : List (List Int)
def ckC (list : List GEvent) (s : Ck) (i : Nat) : List Int := bump (joinN list s.out (list.getD i zEv) (s.now.getD (list.getD i zEv).who.toNat []) i) (list.getD i zEv).who.toNat
def ckStep (list : List GEvent) (s : Ck) (i : Nat) : Ck := ⟨s.now.set (list.getD i zEv).who.toNat (ckC list s i), s.out ++ [ckC list s i]⟩
theorem joinN_len {list : List GEvent} {out : List (List Int)} {e : GEvent} (c : List Int) : ∀ i, (joinN list out e c i).length = c.length
  | 0 => rfl
  | i + 1 => by
    unfold joinN
    have ih := joinN_len (list := list) (out := out) (e := e) c i
    split
    · unfold clockJoin; split
      · simp [ih]
      · exact ih
    · exact ih
theorem bump_len (c : List Int) (w : Nat) : (bump c w).length = c.length := by unfold bump; simp
def CkOk (n : Int) (i : Nat) (s : Ck) : Prop := s.now.length = n.toNat ∧ (∀ c ∈ s.now, c.length = n.toNat) ∧ s.out.length = i ∧ ∀ c ∈ s.out, c.length = n.toNat
theorem ckC_len {n : Int} {list : List GEvent} {s : Ck} {i : Nat} (hs : CkOk n i s) (hw : 0 ≤ (list.getD i zEv).who ∧ (list.getD i zEv).who < n) : (ckC list s i).length = n.toNat := by
  unfold ckC
  rw [bump_len, joinN_len]
  have hl : (list.getD i zEv).who.toNat < s.now.length := by rw [hs.1]; omega
  rw [List.getD_eq_getElem?_getD, List.getElem?_eq_getElem hl, Option.getD_some]
  exact hs.2.1 _ (List.getElem_mem hl)
theorem CkOk.step {n : Int} {list : List GEvent} {s : Ck} {i : Nat} (hs : CkOk n i s) (hw : 0 ≤ (list.getD i zEv).who ∧ (list.getD i zEv).who < n) : CkOk n (i + 1) (ckStep list s i) := by
  have hc := ckC_len hs hw
  obtain ⟨h1, h2, h3, h4⟩ := hs
  refine ⟨by simpa [ckStep] using h1, fun c hm => ?_, by simp [ckStep, h3], fun c hm => ?_⟩
  · rcases List.mem_or_eq_of_mem_set hm with hm | rfl
    · exact h2 c hm
    · exact hc
  · rcases List.mem_append.1 hm with hm | hm
    · exact h4 c hm
    · rw [show c = _ by simpa using hm]; exact hc
end Go.Tw
namespace Go.Tw
end Go.Tw
namespace Go.Tw
end Go.Tw
namespace Go.Tw
end Go.Tw
namespace Go.Tw
end Go.Tw

namespace Go.Tw
def dig (d : Nat) : ByteArray := ⟨#[UInt8.ofNat (48 + d)]⟩
def dgB (n : Nat) : ByteArray := if h : n < 10 then dig n else dgB (n / 10) ++ dig (n % 10)
termination_by n
decreasing_by omega
theorem dgB_one {n : Nat} (h : n < 10) : dgB n = dig n := by rw [dgB]; simp [h]
theorem dgB_more {n : Nat} (h : ¬ n < 10) : dgB n = dgB (n / 10) ++ dig (n % 10) := by rw [dgB]; simp [h]
theorem ba_assoc (a b c : ByteArray) : a ++ b ++ c = a ++ (b ++ c) := ByteArray.append_assoc
theorem ba_size (a b : ByteArray) : (a ++ b).size = a.size + b.size := ByteArray.size_append
theorem dig_size (d : Nat) : (dig d).size = 1 := rfl
theorem dgB_size : ∀ (k n : Nat), n < 10 ^ (k + 1) → (dgB n).size ≤ k + 1
  | 0, n, h => by rw [dgB_one (by simpa using h)]; exact Nat.le_refl _
  | k + 1, n, h => by
    by_cases hn : n < 10
    · rw [dgB_one hn, dig_size]; omega
    · rw [dgB_more hn, ba_size, dig_size]
      have := dgB_size k (n / 10) (by rw [Nat.pow_succ] at h; omega)
      omega
theorem dgB_small {n : Nat} (h : (n : Int) ≤ 9223372036854775807) : (dgB n).size ≤ 19 := dgB_size 18 n (by (have : (10 : Nat) ^ (18 + 1) = 10000000000000000000 := by decide); rw [this]; omega)
def sgB (n : Int) : ByteArray := if n < 0 then ⟨#[45]⟩ else dgB n.toNat
theorem sgB_size {n : Int} (h : n ≤ 9223372036854775807) : (sgB n).size ≤ 19 := by
  unfold sgB
  split
  · decide
  · exact dgB_small (by omega)
def evText (e : GEvent) : ByteArray := joinT [sgB e.who, sgB e.pc, sgB e.at_, sgB e.got, sgB e.put] ⟨#[32]⟩
theorem evText_plus (e : GEvent) : sgB e.who ++ ⟨#[32]⟩ ++ sgB e.pc ++ ⟨#[32]⟩ ++ sgB e.at_ ++ ⟨#[32]⟩ ++ sgB e.got ++ ⟨#[32]⟩ ++ sgB e.put = evText e := by
  unfold evText
  simp only [joinT_cons, joinT_one, ba_assoc]
def DgTo (n m : Nat) (out : ByteArray) : Prop := (m = 0 ∧ dgB n = out) ∨ (0 < m ∧ dgB n = dgB m ++ out)
theorem DgTo.step {n m : Nat} {out : ByteArray} (h : DgTo n m out) (hm : 0 < m) : DgTo n (m / 10) (dig (m % 10) ++ out) := by
  rcases h with ⟨rfl, _⟩ | ⟨_, h⟩
  · omega
  · by_cases h9 : m < 10
    · refine Or.inl ⟨by omega, ?_⟩
      rw [h, dgB_one h9, Nat.mod_eq_of_lt h9]
    · refine Or.inr ⟨by omega, ?_⟩
      rw [h, dgB_more h9, ba_assoc]
theorem DgTo.start {n : Nat} (h : 0 < n) : DgTo n n ⟨#[]⟩ := Or.inr ⟨h, by refine ba_ext ?_; simp⟩
theorem DgTo.fin {n : Nat} {out : ByteArray} (h : DgTo n 0 out) : out = dgB n := by
  rcases h with ⟨_, h⟩ | ⟨h, _⟩
  · exact h.symm
  · omega
theorem DgTo.size {n m : Nat} {out : ByteArray} (h : DgTo n m out) : out.size ≤ (dgB n).size := by
  rcases h with ⟨_, h⟩ | ⟨_, h⟩
  · rw [h]; exact Nat.le_refl _
  · rw [h, ba_size]; omega
theorem utf_dig {d : Nat} (h : d < 10) : Utf8.encode (48 + (d : Int)) = dig d := by
  have : d = 0 ∨ d = 1 ∨ d = 2 ∨ d = 3 ∨ d = 4 ∨ d = 5 ∨ d = 6 ∨ d = 7 ∨ d = 8 ∨ d = 9 := by omega
  rcases this with rfl | rfl | rfl | rfl | rfl | rfl | rfl | rfl | rfl | rfl <;> rfl
theorem nums_dig {d : Nat} (h : d < 10) : strOfNums [48 + (d : Int)] = dig d := by
  have : d = 0 ∨ d = 1 ∨ d = 2 ∨ d = 3 ∨ d = 4 ∨ d = 5 ∨ d = 6 ∨ d = 7 ∨ d = 8 ∨ d = 9 := by omega
  rcases this with rfl | rfl | rfl | rfl | rfl | rfl | rfl | rfl | rfl | rfl <;> rfl
end Go.Tw
namespace Go.Tw
theorem wrap32_dig {d : Nat} (h : d < 10) : IntKind.wrap .i32 (48 + (d : Int)) = 48 + (d : Int) := by
  have : d = 0 ∨ d = 1 ∨ d = 2 ∨ d = 3 ∨ d = 4 ∨ d = 5 ∨ d = 6 ∨ d = 7 ∨ d = 8 ∨ d = 9 := by omega
  rcases this with rfl | rfl | rfl | rfl | rfl | rfl | rfl | rfl | rfl | rfl <;> rfl
theorem wrap8_dig {d : Nat} (h : d < 10) : IntKind.wrap .u8 (48 + (d : Int)) = 48 + (d : Int) := by
  have : d = 0 ∨ d = 1 ∨ d = 2 ∨ d = 3 ∨ d = 4 ∨ d = 5 ∨ d = 6 ∨ d = 7 ∨ d = 8 ∨ d = 9 := by omega
  rcases this with rfl | rfl | rfl | rfl | rfl | rfl | rfl | rfl | rfl | rfl <;> rfl
theorem wrap48 {d : Nat} (h : d < 10) : IntKind.wrap .i64 (48 + (d : Int)) = 48 + (d : Int) := wrap_ok (by omega) (by omega)
theorem quo10 {k : Nat} (h : (k : Int) ≤ 9223372036854775807) : IntKind.wrap .i64 ((k : Int).tdiv 10) = ((k / 10 : Nat) : Int) := by
  rw [Int.tdiv_eq_ediv_of_nonneg (by omega), wrap_ok (by omega) (by omega)]; omega
theorem rem10 (k : Nat) : ((k : Int).tmod 10) = ((k % 10 : Nat) : Int) := by
  rw [Int.tmod_eq_emod_of_nonneg (by omega)]; omega
def sgN (xs : List Int) (i : Nat) : List ByteArray := (xs.take i).map sgB
theorem sgN_zero (xs : List Int) : sgN xs 0 = [] := rfl
theorem sgN_succ {xs : List Int} {i : Nat} (h : i < xs.length) : sgN xs i ++ [sgB xs[i]] = sgN xs (i + 1) := by unfold sgN; rw [← List.take_append_getElem h, List.map_append]; rfl
theorem sgN_len {xs : List Int} {i : Nat} (h : i ≤ xs.length) : (sgN xs i).length = i := by unfold sgN; simp; omega
theorem sgN_full (xs : List Int) : sgN xs xs.length = xs.map sgB := by unfold sgN; rw [List.take_length]
end Go.Tw

