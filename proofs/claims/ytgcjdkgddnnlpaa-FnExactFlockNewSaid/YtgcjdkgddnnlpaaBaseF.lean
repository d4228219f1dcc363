/- The layer: trees, states, rules; plain functions. -/
import Derived.Test.YtgcjdkgddnnlpaaBaseE
import Derived.Shelf.Spec.SlicesGrow
set_option linter.unusedSimpArgs false
set_option linter.unusedVariables false
set_option linter.unnecessarySimpa false
namespace Go.Tw
def packetHd (p : GPacket) (n : Int) : Bool := inR n 1 4 && wofN p.from_ n && wofN p.to n && inR p.n 0 100000
def packetOk (p : GPacket) (n : Int) : Bool := packetHd p n && (if p.ack = true then decide (p.msg.kind = 0) && decide (p.msg.page = 0) && !p.msg.own && decide (p.msg.list.length = 0) else msgOk p.msg)
def worldHd (w : GWorld) : Bool := inR w.size 1 4 && decide ((w.nodes.length : Int) = w.size) && decide ((w.net.length : Int) ≤ 40)
def nodeAt (s : Int) (i : Nat) (x : GNode) : Bool := nodeOk x s && decide (x.id = (i : Int))
def nodesAt (w : GWorld) : Bool := (List.range w.nodes.length).all fun i => match w.nodes[i]? with
  | some x => nodeAt w.size i x
  | none => true
def worldOk (w : GWorld) : Bool := worldHd w && nodesAt w && w.net.all fun p => packetOk p w.size
def comN (q : List GMsg) (base got : Int) : Nat → List GMsg
  | 0 => []
  | k + 1 => match q[k]? with
    | some m => if got ≤ base + (k : Int) then comN q base got k ++ [m] else comN q base got k
    | none => comN q base got k
def zNode : GNode := ⟨0, [], [], [], []⟩
def zHome : GHome := ⟨[], 0, [], false, ⟨0, false⟩, 0, []⟩
def zFrame : GFrame := ⟨0, [], false⟩
def comingOf (w : GWorld) (a b : Nat) : List GMsg :=
  comN ((w.nodes.getD a zNode).out.getD b ⟨0, []⟩).queue ((w.nodes.getD a zNode).out.getD b ⟨0, []⟩).base ((w.nodes.getD b zNode).in_.getD a ⟨0⟩).got ((w.nodes.getD a zNode).out.getD b ⟨0, []⟩).queue.length
def lastL (p : GMsg → Bool) (l : List GMsg) : List Int := match l.reverse.find? p with
  | some m => m.list
  | none => []
def lastP (kind page : Int) (m : GMsg) : Bool := decide (m.kind = kind) && decide (m.page = page) && (m.own || decide (kind = 7))
def truthOf (w : GWorld) (p : Nat) : List Int :=
  let d := p % w.size.toNat
  let h := (w.nodes.getD d zNode).homes.getD p zHome
  if h.owner < 0 then h.list
  else
    let o := h.owner.toNat
    let f := (w.nodes.getD o zNode).frames.getD p zFrame
    if f.state = 2 then f.list
    else if 0 < (lastL (lastP 3 p) (comingOf w d o)).length then lastL (lastP 3 p) (comingOf w d o) else lastL (lastP 7 p) (comingOf w o d)
def truthR (w : GWorld) (page : Int) : List Int := if worldOk w = true ∧ 0 ≤ page ∧ page ≤ 5 then truthOf w page.toNat else []
def RevTo (xs ys : List GMsg) (i : Nat) : Prop := ys.length = xs.length ∧ ∀ k, (h : k < ys.length) → (h2 : k < xs.length) → ys[k] = if k < i ∨ xs.length - 1 - i < k then xs[xs.length - 1 - k]'(by omega) else xs[k]
theorem RevTo.start (xs : List GMsg) : RevTo xs xs 0 := ⟨rfl, fun k h h2 => by rw [if_neg (by omega)]⟩
theorem RevTo.step {xs ys : List GMsg} {i : Nat} (h : RevTo xs ys i) (hi : i < xs.length - 1 - i) (h1 : i < ys.length) (h2 : xs.length - 1 - i < ys.length) : RevTo xs ((ys.set i ys[xs.length - 1 - i]).set (xs.length - 1 - i) ys[i]) (i + 1) := by
  obtain ⟨hl, hk⟩ := h
  refine ⟨by simpa using hl, fun k q1 q2 => ?_⟩
  have e1 := hk i h1 (by omega)
  have e2 := hk (xs.length - 1 - i) h2 (by omega)
  rw [if_neg (by omega)] at e1 e2
  rw [List.getElem_set]
  by_cases c1 : xs.length - 1 - i = k
  · subst c1
    rw [if_pos rfl, if_pos (by omega), e1]
    congr 1
    omega
  · rw [if_neg c1, List.getElem_set]
    by_cases c2 : i = k
    · subst c2
      rw [if_pos rfl, if_pos (by omega), e2]
    · rw [if_neg c2, hk k (by simpa using q1) q2]
      by_cases c3 : k < i ∨ xs.length - 1 - i < k
      · rw [if_pos c3, if_pos (by omega)]
      · rw [if_neg c3, if_neg (by omega)]
theorem RevTo.fin {xs ys : List GMsg} {i : Nat} (h : RevTo xs ys i) (hi : ¬ i < xs.length - 1 - i) (hb : i ≤ xs.length) : ys = xs.reverse := by
  obtain ⟨hl, hk⟩ := h
  apply List.ext_getElem
  · simpa using hl
  · intro k q1 q2
    rw [hk k q1 (by omega), List.getElem_reverse]
    split
    · rfl
    · congr 1
      omega
def memN (w : GWorld) : Nat → Option (List Int)
  | 0 => some []
  | k + 1 => match memN w k with
    | some m => if (truthR w k).length = 4 then some (m ++ truthR w k) else none
    | none => none
def memory (w : GWorld) : List Int := (memN w 6).getD []
end Go.Tw

namespace Go.Tw
end Go.Tw

namespace Go.Tw
def hartNew (pc : Int) : GHart := ⟨[0, 0, 0, 0], addr pc, 0⟩
theorem pick_mem {xs : List Int} {x : Int} (h : 0 ≤ x ∧ (x < xs.length ∨ (xs.length : Int) ≤ 0 ∧ x = 0)) (hl : 0 < xs.length) : xs[x.toNat]?.getD 0 ∈ xs := by
  have : x.toNat < xs.length := by omega
  rw [List.getElem?_eq_getElem this]
  exact List.getElem_mem this
end Go.Tw

namespace Go.Tw
end Go.Tw

namespace Go.Tw
end Go.Tw

namespace Go.Tw
theorem getD_set_ne {m : List Int} {i j : Nat} {v : Int} (h : i ≠ j) : (m.set i v).getD j 0 = m.getD j 0 := by
  rw [List.getD_eq_getElem?_getD, List.getD_eq_getElem?_getD, List.getElem?_set_ne h]
end Go.Tw

namespace Go.Tw
end Go.Tw

namespace Go.Tw
end Go.Tw

namespace Go.Tw
def clockWithin (xs ys : List Int) : Bool := decide (xs.length = ys.length) && (List.range xs.length).all fun i => decide (xs.getD i 0 ≤ ys.getD i 0)
theorem clockWithin_iff (xs ys : List Int) : clockWithin xs ys = true ↔ xs.length = ys.length ∧ ∀ i, i < xs.length → xs.getD i 0 ≤ ys.getD i 0 := by
  unfold clockWithin
  simp [List.all_eq_true]
theorem clockWithin_no {xs ys : List Int} (h : xs.length ≠ ys.length) : clockWithin xs ys = false := by
  cases hc : clockWithin xs ys with
  | false => rfl
  | true => exact absurd ((clockWithin_iff _ _).1 hc).1 h
theorem clockWithin_at {xs ys : List Int} {i : Nat} (h1 : i < xs.length) (h2 : i < ys.length) (h : ys[i] < xs[i]) : clockWithin xs ys = false := by
  cases hc : clockWithin xs ys with
  | false => rfl
  | true =>
    have := ((clockWithin_iff _ _).1 hc).2 i h1
    rw [List.getD_eq_getElem?_getD, List.getD_eq_getElem?_getD, List.getElem?_eq_getElem h1, List.getElem?_eq_getElem h2] at this
    simp only [Option.getD_some] at this
    omega
theorem clockWithin_all {xs ys : List Int} (hl : xs.length = ys.length) (h : ∀ i, (h1 : i < xs.length) → (h2 : i < ys.length) → xs[i] ≤ ys[i]) : clockWithin xs ys = true := by
  refine (clockWithin_iff _ _).2 ⟨hl, fun i h1 => ?_⟩
  rw [List.getD_eq_getElem?_getD, List.getD_eq_getElem?_getD, List.getElem?_eq_getElem h1, List.getElem?_eq_getElem (hl ▸ h1)]
  exact h i h1 (hl ▸ h1)
def clockNew (n : Int) : List Int := if 1 ≤ n ∧ n ≤ 8 then List.replicate n.toNat 0 else []
end Go.Tw

namespace Go.Tw
end Go.Tw

namespace Go.Tw
def GBlock.few (b : GBlock) : Prop := b.list.length ≤ 5
def GFrame.few (f : GFrame) : Prop := f.list.length ≤ 5
theorem GBlock.few.small {b : GBlock} (h : b.few) : b.small := by unfold GBlock.few at h; unfold GBlock.small; omega
theorem GFrame.few.small {f : GFrame} (h : f.few) : f.small := by unfold GFrame.few at h; unfold GFrame.small; omega
end Go.Tw

namespace Go.Tw
def zSender : GSender := ⟨0, []⟩
def zWorld : GWorld := ⟨0, [], []⟩
def zFlock : GFlock := ⟨zWorld, []⟩
def homeNew (n : Int) : GHome := if 1 ≤ n ∧ n ≤ 4 then ⟨List.replicate 4 0, -1, List.replicate n.toNat false, false, ⟨0, false⟩, 0, []⟩ else zHome
def nodeNewOk (id n : Int) : Bool := inR n 1 4 && inR id 0 (n - 1)
def nodeNew (id n : Int) : GNode := if nodeNewOk id n = true then ⟨id, List.replicate 6 zFrame, List.replicate 6 (homeNew n), List.replicate n.toNat zSender, List.replicate n.toNat ⟨0⟩⟩ else zNode
def nodesN (n : Int) (i : Nat) : List GNode := (List.range i).map fun (k : Nat) => nodeNew k n
theorem nodesN_succ (n : Int) (i : Nat) : nodesN n (i + 1) = nodesN n i ++ [nodeNew i n] := by unfold nodesN; rw [List.range_succ, List.map_append]; rfl
theorem nodesN_len (n : Int) (i : Nat) : (nodesN n i).length = i := by unfold nodesN; simp
def worldNew (n : Int) : GWorld := if 1 ≤ n ∧ n ≤ 4 then ⟨n, nodesN n n.toNat, []⟩ else zWorld
def pageW (mem : List Int) (p : Nat) : List Int := (mem.drop (p * 4)).take 4
def putPage (n : Nat) (mem : List Int) (nodes : List GNode) (p : Nat) : List GNode :=
  match nodes[p % n]? with
  | some x => match x.homes[p]? with
    | some h => nodes.set (p % n) { x with homes := x.homes.set p { h with list := pageW mem p } }
    | none => nodes
  | none => nodes
def pagesN (n : Nat) (mem : List Int) (nodes : List GNode) : Nat → List GNode
  | 0 => nodes
  | p + 1 => putPage n mem (pagesN n mem nodes p) p
def coresN (starts : List Int) (i : Nat) : List GCore := (List.range i).map fun k => ⟨hartNew (starts.getD k 0), []⟩
theorem coresN_succ (starts : List Int) (i : Nat) : coresN starts (i + 1) = coresN starts i ++ [⟨hartNew (starts.getD i 0), []⟩] := by unfold coresN; rw [List.range_succ, List.map_append]; rfl
theorem coresN_len (starts : List Int) (i : Nat) : (coresN starts i).length = i := by unfold coresN; simp
def flockNewOk (n : Int) (mem : List Int) : Bool := inR n 1 4 && wordsOk mem 24
def flockNew (n : Int) (mem starts : List Int) : GFlock := if flockNewOk n mem = true then ⟨⟨n, pagesN n.toNat mem (nodesN n n.toNat) 6, []⟩, coresN starts n.toNat⟩ else zFlock
theorem putPage_len (n : Nat) (mem : List Int) (nodes : List GNode) (p : Nat) : (putPage n mem nodes p).length = nodes.length := by
  unfold putPage
  split
  · split <;> simp
  · rfl
theorem pagesN_len (n : Nat) (mem : List Int) (nodes : List GNode) : ∀ p, (pagesN n mem nodes p).length = nodes.length
  | 0 => rfl
  | p + 1 => by
    show (putPage n mem (pagesN n mem nodes p) p).length = _
    rw [putPage_len, pagesN_len n mem nodes p]
theorem putPage_homes {n : Nat} {mem : List Int} {nodes : List GNode} {p : Nat} (h : ∀ x ∈ nodes, x.homes.length = 6) : ∀ x ∈ putPage n mem nodes p, x.homes.length = 6 := by
  unfold putPage
  split
  · rename_i y hy
    split
    · intro x hx
      rcases List.mem_or_eq_of_mem_set hx with hx | rfl
      · exact h x hx
      · simpa using h y (List.mem_of_getElem? hy)
    · exact h
  · exact h
theorem pagesN_homes {n : Nat} {mem : List Int} {nodes : List GNode} (h : ∀ x ∈ nodes, x.homes.length = 6) : ∀ p, ∀ x ∈ pagesN n mem nodes p, x.homes.length = 6
  | 0 => h
  | p + 1 => putPage_homes (pagesN_homes h p)
theorem nodeNewOk_at {n : Int} {i : Nat} (h1 : 1 ≤ n ∧ n ≤ 4) (hi : (i : Int) < n) : nodeNewOk i n = true := by
  unfold nodeNewOk inR
  simp
  omega
theorem nodeNew_at {n : Int} {i : Nat} (h1 : 1 ≤ n ∧ n ≤ 4) (hi : (i : Int) < n) : nodeNew i n = ⟨i, List.replicate 6 zFrame, List.replicate 6 (homeNew n), List.replicate n.toNat zSender, List.replicate n.toNat ⟨0⟩⟩ := if_pos (nodeNewOk_at h1 hi)
theorem nodesN_homes {n : Int} (h1 : 1 ≤ n ∧ n ≤ 4) {i : Nat} (hi : (i : Int) ≤ n) : ∀ x ∈ nodesN n i, x.homes.length = 6 := by
  intro x hx
  unfold nodesN at hx
  obtain ⟨k, hk, rfl⟩ := List.mem_map.1 hx
  rw [nodeNew_at h1 (by have := List.mem_range.1 hk; omega)]
  simp
theorem putPage_at {n : Nat} {mem : List Int} {nodes : List GNode} {p : Nat} (h1 : p % n < nodes.length) (h2 : p < nodes[p % n].homes.length) :
    putPage n mem nodes p = nodes.set (p % n) { nodes[p % n] with homes := nodes[p % n].homes.set p { nodes[p % n].homes[p] with list := pageW mem p } } := by
  unfold putPage
  rw [List.getElem?_eq_getElem h1]
  simp only
  rw [List.getElem?_eq_getElem h2]
end Go.Tw

namespace Go.Tw
end Go.Tw

namespace Go.Tw
open Go.Proofs Go.Shelf
section
variable {P : Program} {ρ : Ren}
end
end Go.Tw

namespace Go.Tw
end Go.Tw
namespace Go.Tw
section
variable {P : Program} {w0 w w' : World} {Al : Blks} {N : Nat} {g : Gh} {σ σ' : St} {a : Act}
end
end Go.Tw
namespace Go.Tw
section
variable {P : Program} {w0 w w' : World} {Al : Blks} {N : Nat} {g : Gh} {σ σ' : St} {a : Act}
theorem RepLs.app : ∀ {ls ks : List L} {vs us : List Value}, RepLs w g σ ls vs → RepLs w g σ ks us → RepLs w g σ (ls ++ ks) (vs ++ us)
  | [], _, [], _, _, h' => h'
  | [], _, _ :: _, _, h, _ => h.elim
  | _ :: _, _, [], _, h, _ => h.elim
  | _ :: _, _, _ :: _, _, h, h' => ⟨h.1, RepLs.app h.2 h'⟩
end
end Go.Tw
namespace Go.Tw
section
variable {P : Program} {w0 w w' : World} {Al : Blks} {N : Nat} {g : Gh} {σ σ' : St} {a : Act}
end
end Go.Tw

namespace Go.Tw
section
variable {P : Program} {w0 w w' : World} {Al : Blks} {N : Nat} {g : Gh} {σ σ' : St} {a : Act}
end
end Go.Tw

namespace Go.Tw
def StepI (P : Program) (N : Nat) (k : Bool) (ops : List Oper) (i : Nat) (σ : St) (next : St → Prop) : Prop := ∃ o, ops[i]? = some o ∧ Step P N k ops o σ next
def RunI (P : Program) (N : Nat) (k : Bool) (ops : List Oper) (K : St → Prop) : Sch → St → Prop
  | .nil, σ => K σ
  | .op i r, σ => StepI P N k ops i σ (RunI P N k ops K r)
  | .fork i a j b, σ => StepI P N k ops i σ (RunI P N k ops K a) ∧ StepI P N k ops j σ (RunI P N k ops K b)
  | .fork3 i a j b m c, σ => StepI P N k ops i σ (RunI P N k ops K a) ∧ StepI P N k ops j σ (RunI P N k ops K b) ∧ StepI P N k ops m σ (RunI P N k ops K c)
  | .fork4 i a j b m c n d, σ => StepI P N k ops i σ (RunI P N k ops K a) ∧ StepI P N k ops j σ (RunI P N k ops K b) ∧ StepI P N k ops m σ (RunI P N k ops K c) ∧ StepI P N k ops n σ (RunI P N k ops K d)
  | .sub r, σ => ∃ σ', Sub σ σ' ∧ RunI P N k ops K r σ'
section
variable {P : Program} {N : Nat} {k : Bool} {ops : List Oper} {K : St → Prop} {σ : St}
theorem StepI_iff {i : Nat} {o : Oper} {n : St → Prop} (h : ops[i]? = some o) : StepI P N k ops i σ n ↔ Step P N k ops o σ n :=
  ⟨fun ⟨_, e, q⟩ => by rw [h] at e; cases e; exact q, fun q => ⟨o, h, q⟩⟩
theorem RunI_to : ∀ (s : Sch) {os : SchO} (_ : s.ops ops = some os) (σ : St), RunI P N k ops K s σ → RunS P N k ops K os σ
  | .nil, os, h, σ, R => by simp only [Sch.ops, Option.some.injEq] at h; subst h; exact R
  | .op i r, os, h, σ, R => by
    simp only [Sch.ops] at h
    split at h
    · rename_i o r' e1 e2
      cases h
      exact Step_mono (RunI_to r e2) ((StepI_iff e1).1 R)
    · cases h
  | .fork i a j b, os, h, σ, R => by
    simp only [Sch.ops] at h
    split at h
    · rename_i o a' p b' e1 e2 e3 e4
      cases h
      exact ⟨Step_mono (RunI_to a e2) ((StepI_iff e1).1 R.1), Step_mono (RunI_to b e4) ((StepI_iff e3).1 R.2)⟩
    · cases h
  | .fork3 i a j b m c, os, h, σ, R => by
    simp only [Sch.ops] at h
    split at h
    · rename_i o a' p b' q c' e1 e2 e3 e4 e5 e6
      cases h
      exact ⟨Step_mono (RunI_to a e2) ((StepI_iff e1).1 R.1), Step_mono (RunI_to b e4) ((StepI_iff e3).1 R.2.1), Step_mono (RunI_to c e6) ((StepI_iff e5).1 R.2.2)⟩
    · cases h
  | .fork4 i a j b m c n d, os, h, σ, R => by
    simp only [Sch.ops] at h
    split at h
    · rename_i o a' p b' q c' r d' e1 e2 e3 e4 e5 e6 e7 e8
      cases h
      exact ⟨Step_mono (RunI_to a e2) ((StepI_iff e1).1 R.1), Step_mono (RunI_to b e4) ((StepI_iff e3).1 R.2.1), Step_mono (RunI_to c e6) ((StepI_iff e5).1 R.2.2.1), Step_mono (RunI_to d e8) ((StepI_iff e7).1 R.2.2.2)⟩
    · cases h
  | .sub r, os, h, σ, R => by
    simp only [Sch.ops] at h
    split at h
    · rename_i r' e1
      cases h
      obtain ⟨σ', h1, h2⟩ := R
      exact ⟨σ', h1, RunI_to r e1 σ' h2⟩
    · cases h
theorem Step_bare {o : Oper} {n : St → Prop} (hg : o.guard = none) (h : Step P N k [] o σ n) : Step P N k ops o σ n := by
  unfold Step at *
  rw [hg] at *
  exact h
theorem StepI_go {i : Nat} {s : Sch} {o : Oper} (ho : ops[i]? = some o) (hg : o.guard = none) (h : ∀ K' : St → Prop, (∀ σ, RunI P N k ops K s σ → K' σ) → Step P N k [] o σ K') : StepI P N k ops i σ (RunI P N k ops K s) :=
  ⟨o, ho, Step_bare hg (h _ fun _ q => q)⟩
theorem RunI_f1 {i : Nat} {r : Sch} (h : StepI P N k ops i σ (RunI P N k ops K r)) : RunI P N k ops K (.op i r) σ := h
theorem RunI_f2 {i j : Nat} {a b : Sch} (h1 : StepI P N k ops i σ (RunI P N k ops K a)) (h2 : StepI P N k ops j σ (RunI P N k ops K b)) : RunI P N k ops K (.fork i a j b) σ := ⟨h1, h2⟩
theorem RunI_f3 {i j m : Nat} {a b c : Sch} (h1 : StepI P N k ops i σ (RunI P N k ops K a)) (h2 : StepI P N k ops j σ (RunI P N k ops K b)) (h3 : StepI P N k ops m σ (RunI P N k ops K c)) : RunI P N k ops K (.fork3 i a j b m c) σ := ⟨h1, h2, h3⟩
theorem RunI_f4 {i j m n : Nat} {a b c d : Sch} (h1 : StepI P N k ops i σ (RunI P N k ops K a)) (h2 : StepI P N k ops j σ (RunI P N k ops K b)) (h3 : StepI P N k ops m σ (RunI P N k ops K c)) (h4 : StepI P N k ops n σ (RunI P N k ops K d)) : RunI P N k ops K (.fork4 i a j b m c n d) σ := ⟨h1, h2, h3, h4⟩
theorem RunI_end (h : K σ) : RunI P N k ops K .nil σ := h
end
theorem W_drawI {P : Program} {N : Nat} {σ : St} (kc : Bool) {id : Nat} {l : List Oper} {K : Exit → St → Prop} (s : Sch) (hm : P.follows .mixedOrders = true)
    (hc : ((s.len == l.length && Region.noSelect l.toArray && checkS kc l.toArray s (Array.replicate l.length false)) && (s.ops l).isSome) = true) (h : RunI P N kc l (K .normal) s σ) : W P N (.region id l.toArray true) K σ := by
  rw [Bool.and_eq_true] at hc
  obtain ⟨os, e⟩ := Option.isSome_iff_exists.1 hc.2
  exact W_drawS kc s hm hc.1 e (RunI_to s e σ h)
end Go.Tw

namespace Go.Tw
theorem sum_le_mul {α : Type} {f : α → Nat} {c : Nat} : ∀ xs : List α, (∀ x ∈ xs, f x ≤ c) → (xs.map f).sum ≤ xs.length * c
  | [], _ => by simp
  | x :: xs, h => by
    have h1 := h x (by simp)
    have h2 := sum_le_mul (f := f) (c := c) xs fun y hy => h y (by simp [hy])
    simp only [List.map_cons, List.sum_cons, List.length_cons, Nat.add_mul, Nat.one_mul]
    omega
def GHome.tiny (h : GHome) : Prop := h.list.length ≤ 4 ∧ h.readers.length ≤ 4 ∧ h.queue.length = 0
def GNode.tiny (x : GNode) : Prop := x.frames.length ≤ 6 ∧ (∀ f ∈ x.frames, f.list.length = 0) ∧ x.homes.length ≤ 6 ∧ (∀ h ∈ x.homes, h.tiny) ∧ x.out.length ≤ 4 ∧ (∀ s ∈ x.out, s.queue.length = 0) ∧ x.in_.length ≤ 4
theorem GNode.tiny_tot {x : GNode} (h : x.tiny) : x.tot ≤ 68 := by
  obtain ⟨h1, h2, h3, h4, h5, h6, h7⟩ := h
  have a := sum_le_mul (f := fun a : GFrame => a.tot) (c := 0) x.frames fun f hf => by have := h2 f hf; show f.list.length ≤ 0; omega
  have b := sum_le_mul (f := fun a : GHome => a.tot) (c := 8) x.homes fun f hf => by obtain ⟨q1, q2, q3⟩ := h4 f hf; show f.list.length + f.readers.length + f.queue.length ≤ 8; omega
  have c := sum_le_mul (f := fun a : GSender => a.tot) (c := 0) x.out fun f hf => by
    have := h6 f hf
    have e : f.queue = [] := List.length_eq_zero_iff.1 this
    show f.queue.length + (f.queue.map fun a => a.tot).sum ≤ 0
    rw [e]; simp
  unfold GNode.tot
  omega
theorem nodeNew_tiny {n : Int} {i : Nat} (h1 : 1 ≤ n ∧ n ≤ 4) (hi : (i : Int) < n) : (nodeNew i n).tiny := by
  rw [nodeNew_at h1 hi]
  refine ⟨by simp, fun f hf => ?_, by simp, fun h hh => ?_, by simp; omega, fun s hs => ?_, by simp; omega⟩
  · rw [(List.mem_replicate.1 hf).2]; rfl
  · rw [(List.mem_replicate.1 hh).2]
    unfold homeNew
    rw [if_pos h1]
    refine ⟨by simp, by simp; omega, rfl⟩
  · rw [(List.mem_replicate.1 hs).2]; rfl
theorem putPage_tiny {n : Nat} {mem : List Int} {nodes : List GNode} {p : Nat} (h : ∀ x ∈ nodes, x.tiny) : ∀ x ∈ putPage n mem nodes p, x.tiny := by
  unfold putPage
  split
  · rename_i x hx
    split
    · rename_i hm hh
      intro y hy
      rcases List.mem_or_eq_of_mem_set hy with hy | rfl
      · exact h y hy
      · obtain ⟨h1, h2, h3, h4, h5, h6, h7⟩ := h x (List.mem_of_getElem? hx)
        refine ⟨h1, h2, by simpa using h3, fun z hz => ?_, h5, h6, h7⟩
        rcases List.mem_or_eq_of_mem_set hz with hz | rfl
        · exact h4 z hz
        · obtain ⟨q1, q2, q3⟩ := h4 hm (List.mem_of_getElem? hh)
          exact ⟨by show (pageW mem p).length ≤ 4; unfold pageW; simp; omega, q2, q3⟩
    · exact h
  · exact h
theorem pagesN_tiny {n : Nat} {mem : List Int} {nodes : List GNode} (h : ∀ x ∈ nodes, x.tiny) : ∀ p, ∀ x ∈ pagesN n mem nodes p, x.tiny
  | 0 => h
  | p + 1 => putPage_tiny (pagesN_tiny h p)
theorem flockNew_tot (n : Int) (mem starts : List Int) : (flockNew n mem starts).tot ≤ 400 := by
  unfold flockNew
  split
  · rename_i hk
    have hn : 1 ≤ n ∧ n ≤ 4 := by unfold flockNewOk inR at hk; simp at hk; omega
    have hl : (pagesN n.toNat mem (nodesN n n.toNat) 6).length = n.toNat := by rw [pagesN_len, nodesN_len]
    have hc : (coresN starts n.toNat).length = n.toNat := coresN_len _ _
    have ht : ∀ x ∈ pagesN n.toNat mem (nodesN n n.toNat) 6, x.tiny := by
      refine pagesN_tiny (fun x hx => ?_) 6
      unfold nodesN at hx
      obtain ⟨k, hk, rfl⟩ := List.mem_map.1 hx
      exact nodeNew_tiny hn (by have := List.mem_range.1 hk; omega)
    have a := sum_le_mul (f := fun a : GNode => a.tot) (c := 68) (pagesN n.toNat mem (nodesN n n.toNat) 6) fun x hx => GNode.tiny_tot (ht x hx)
    have b := sum_le_mul (f := fun a : GCore => a.tot) (c := 4) (coresN starts n.toNat) fun x hx => by
      unfold coresN at hx
      obtain ⟨k, hk, rfl⟩ := List.mem_map.1 hx
      show (hartNew _).regs.length + 0 + 0 ≤ 4
      unfold hartNew
      simp
    rw [hl] at a
    rw [hc] at b
    have e : n.toNat ≤ 4 := by omega
    show (pagesN n.toNat mem (nodesN n n.toNat) 6).length + ((pagesN n.toNat mem (nodesN n n.toNat) 6).map fun a => a.tot).sum + 0 + 0 + (coresN starts n.toNat).length + ((coresN starts n.toNat).map fun a => a.tot).sum ≤ 400
    rw [hl, hc]
    omega
  · decide
end Go.Tw

