/- The layer: trees, states, rules; plain functions. -/
import Derived.Test.YtgcjdkgddnnlpaaBaseE
import Derived.Shelf.Spec.SlicesGrow
set_option linter.unusedSimpArgs false
set_option linter.unusedVariables false
set_option linter.unnecessarySimpa false
namespace Go.Tw
def packetHd (p : GPacket) (n : Int) : Bool := inR n 1 4 && wofN p.from_ n && wofN p.to n && inR p.n 0 100000
def packetOk (p : GPacket) (n : Int) : Bool := packetHd p n && (if p.ack = true then decide (p.msg.kind = 0) && decide (p.msg.page = 0) && !p.msg.own && decide (p.msg.list.length = 0) else msgOk p.msg)
def worldHd (w : GWorld) : Bool := inR w.size 1 4 && decide ((w.nodes.length : Int) = w.size) && decide ((w.net.length : Int) ≤ 40)
def nodeAt (s : Int) (i : Nat) (x : GNode) : Bool := nodeOk x s && decide (x.id = (i : Int))
def nodesAt (w : GWorld) : Bool := (List.range w.nodes.length).all fun i => match w.nodes[i]? with
  | some x => nodeAt w.size i x
  | none => true
def worldOk (w : GWorld) : Bool := worldHd w && nodesAt w && w.net.all fun p => packetOk p w.size
def comN (q : List GMsg) (base got : Int) : Nat → List GMsg
  | 0 => []
  | k + 1 => match q[k]? with
    | some m => if got ≤ base + (k : Int) then comN q base got k ++ [m] else comN q base got k
    | none => comN q base got k
def zNode : GNode := ⟨0, [], [], [], []⟩
def zHome : GHome := ⟨[], 0, [], false, ⟨0, false⟩, 0, []⟩
def zFrame : GFrame := ⟨0, [], false⟩
def comingOf (w : GWorld) (a b : Nat) : List GMsg :=
  comN ((w.nodes.getD a zNode).out.getD b ⟨0, []⟩).queue ((w.nodes.getD a zNode).out.getD b ⟨0, []⟩).base ((w.nodes.getD b zNode).in_.getD a ⟨0⟩).got ((w.nodes.getD a zNode).out.getD b ⟨0, []⟩).queue.length
def lastL (p : GMsg → Bool) (l : List GMsg) : List Int := match l.reverse.find? p with
  | some m => m.list
  | none => []
def lastP (kind page : Int) (m : GMsg) : Bool := decide (m.kind = kind) && decide (m.page = page) && (m.own || decide (kind = 7))
def truthOf (w : GWorld) (p : Nat) : List Int :=
  let d := p % w.size.toNat
  let h := (w.nodes.getD d zNode).homes.getD p zHome
  if h.owner < 0 then h.list
  else
    let o := h.owner.toNat
    let f := (w.nodes.getD o zNode).frames.getD p zFrame
    if f.state = 2 then f.list
    else if 0 < (lastL (lastP 3 p) (comingOf w d o)).length then lastL (lastP 3 p) (comingOf w d o) else lastL (lastP 7 p) (comingOf w o d)
def truthR (w : GWorld) (page : Int) : List Int := if worldOk w = true ∧ 0 ≤ page ∧ page ≤ 5 then truthOf w page.toNat else []
def RevTo (xs ys : List GMsg) (i : Nat) : Prop := ys.length = xs.length ∧ ∀ k, (h : k < ys.length) → (h2 : k < xs.length) → ys[k] = if k < i ∨ xs.length - 1 - i < k then xs[xs.length - 1 - k]'(by omega) else xs[k]
theorem RevTo.start (xs : List GMsg) : RevTo xs xs 0 := ⟨rfl, fun k h h2 => by rw [if_neg (by omega)]⟩
theorem RevTo.step {xs ys : List GMsg} {i : Nat} (h : RevTo xs ys i) (hi : i < xs.length - 1 - i) (h1 : i < ys.length) (h2 : xs.length - 1 - i < ys.length) : RevTo xs ((ys.set i ys[xs.length - 1 - i]).set (xs.length - 1 - i) ys[i]) (i + 1) := by
  obtain ⟨hl, hk⟩ := h
  refine ⟨by simpa using hl, fun k q1 q2 => ?_⟩
  have e1 := hk i h1 (by omega)
  have e2 := hk (xs.length - 1 - i) h2 (by omega)
  rw [if_neg (by omega)] at e1 e2
  rw [List.getElem_set]
  by_cases c1 : xs.length - 1 - i = k
  · subst c1
    rw [if_pos rfl, if_pos (by omega), e1]
    congr 1
    omega
  · rw [if_neg c1, List.getElem_set]
    by_cases c2 : i = k
    · subst c2
      rw [if_pos rfl, if_pos (by omega), e2]
    · rw [if_neg c2, hk k (by simpa using q1) q2]
      by_cases c3 : k < i ∨ xs.length - 1 - i < k
      · rw [if_pos c3, if_pos (by omega)]
      · rw [if_neg c3, if_neg (by omega)]
theorem RevTo.fin {xs ys : List GMsg} {i : Nat} (h : RevTo xs ys i) (hi : ¬ i < xs.length - 1 - i) (hb : i ≤ xs.length) : ys = xs.reverse := by
  obtain ⟨hl, hk⟩ := h
  apply List.ext_getElem
  · simpa using hl
  · intro k q1 q2
    rw [hk k q1 (by omega), List.getElem_reverse]
    split
    · rfl
    · congr 1
      omega
def memN (w : GWorld) : Nat → Option (List Int)
  | 0 => some []
  | k + 1 => match memN w k with
    | some m => if (truthR w k).length = 4 then some (m ++ truthR w k) else none
    | none => none
def memory (w : GWorld) : List Int := (memN w 6).getD []
end Go.Tw

namespace Go.Tw
end Go.Tw

namespace Go.Tw
def hartNew (pc : Int) : GHart := ⟨[0, 0, 0, 0], addr pc, 0⟩
theorem pick_mem {xs : List Int} {x : Int} (h : 0 ≤ x ∧ (x < xs.length ∨ (xs.length : Int) ≤ 0 ∧ x = 0)) (hl : 0 < xs.length) : xs[x.toNat]?.getD 0 ∈ xs := by
  have : x.toNat < xs.length := by omega
  rw [List.getElem?_eq_getElem this]
  exact List.getElem_mem this
end Go.Tw

namespace Go.Tw
end Go.Tw

namespace Go.Tw
end Go.Tw

namespace Go.Tw
theorem getD_set_ne {m : List Int} {i j : Nat} {v : Int} (h : i ≠ j) : (m.set i v).getD j 0 = m.getD j 0 := by
  rw [List.getD_eq_getElem?_getD, List.getD_eq_getElem?_getD, List.getElem?_set_ne h]
end Go.Tw

namespace Go.Tw
end Go.Tw

namespace Go.Tw
end Go.Tw

namespace Go.Tw
def clockWithin (xs ys : List Int) : Bool := decide (xs.length = ys.length) && (List.range xs.length).all fun i => decide (xs.getD i 0 ≤ ys.getD i 0)
theorem clockWithin_iff (xs ys : List Int) : clockWithin xs ys = true ↔ xs.length = ys.length ∧ ∀ i, i < xs.length → xs.getD i 0 ≤ ys.getD i 0 := by
  unfold clockWithin
  simp [List.all_eq_true]
theorem clockWithin_no {xs ys : List Int} (h : xs.length ≠ ys.length) : clockWithin xs ys = false := by
  cases hc : clockWithin xs ys with
  | false => rfl
  | true => exact absurd ((clockWithin_iff _ _).1 hc).1 h
theorem clockWithin_at {xs ys : List Int} {i : Nat} (h1 : i < xs.length) (h2 : i < ys.length) (h : ys[i] < xs[i]) : clockWithin xs ys = false := by
  cases hc : clockWithin xs ys with
  | false => rfl
  | true =>
    have := ((clockWithin_iff _ _).1 hc).2 i h1
    rw [List.getD_eq_getElem?_getD, List.getD_eq_getElem?_getD, List.getElem?_eq_getElem h1, List.getElem?_eq_getElem h2] at this
    simp only [Option.getD_some] at this
    omega
theorem clockWithin_all {xs ys : List Int} (hl : xs.length = ys.length) (h : ∀ i, (h1 : i < xs.length) → (h2 : i < ys.length) → xs[i] ≤ ys[i]) : clockWithin xs ys = true := by
  refine (clockWithin_iff _ _).2 ⟨hl, fun i h1 => ?_⟩
  rw [List.getD_eq_getElem?_getD, List.getD_eq_getElem?_getD, List.getElem?_eq_getElem h1, List.getElem?_eq_getElem (hl ▸ h1)]
  exact h i h1 (hl ▸ h1)
def clockNew (n : Int) : List Int := if 1 ≤ n ∧ n ≤ 8 then List.replicate n.toNat 0 else []
end Go.Tw

namespace Go.Tw
def zEv : GEvent := ⟨0, 0, 0, 0, 0⟩
def isSwp (e : GEvent) : Bool := decide (0 ≤ e.got) && decide (0 ≤ e.put)
def joinB (list : List GEvent) (e : GEvent) (k : Nat) : Bool := isSwp e && isSwp (list.getD k zEv) && decide ((list.getD k zEv).at_ = e.at_)
def joinN (list : List GEvent) (out : List (List Int)) (e : GEvent) (c : List Int) : Nat → List Int
  | 0 => c
  | k + 1 => if joinB list e k = true then clockJoin (joinN list out e c k) (out.getD k []) else joinN list out e c k
def bump (c : List Int) (w : Nat) : List Int := c.set w (IntKind.wrap .i64 (c.getD w 0 + 1))
structure Ck where
  now : List (List Int)
  out : List (List Int)
def ckC (list : List GEvent) (s : Ck) (i : Nat) : List Int := bump (joinN list s.out (list.getD i zEv) (s.now.getD (list.getD i zEv).who.toNat []) i) (list.getD i zEv).who.toNat
def ckStep (list : List GEvent) (s : Ck) (i : Nat) : Ck := ⟨s.now.set (list.getD i zEv).who.toNat (ckC list s i), s.out ++ [ckC list s i]⟩
def ckN (n : Int) (list : List GEvent) : Nat → Ck
  | 0 => ⟨List.replicate n.toNat (clockNew n), []⟩
  | i + 1 => ckStep list (ckN n list i) i
def whosOk (n : Int) (list : List GEvent) : Bool := inR n 1 8 && list.all fun e => wofN e.who n
def clocks (n : Int) (list : List GEvent) : List (List Int) := if whosOk n list = true then (ckN n list list.length).out else []
def swps (list : List GEvent) : Nat → List Nat
  | 0 => []
  | k + 1 => if isSwp (list.getD k zEv) = true then swps list k ++ [k] else swps list k
theorem swps_lt (list : List GEvent) : ∀ {i k : Nat}, k ∈ swps list i → k < i
  | 0, _, h => by simp [swps] at h
  | i + 1, k, h => by
    unfold swps at h
    split at h
    · rcases List.mem_append.1 h with h | h
      · have := swps_lt list h; omega
      · have : k = i := by simpa using h
        omega
    · have := swps_lt list h; omega
theorem swps_len (list : List GEvent) : ∀ i, (swps list i).length ≤ i
  | 0 => by simp [swps]
  | i + 1 => by
    have := swps_len list i
    unfold swps
    split
    · simp; omega
    · omega
def joinL (list : List GEvent) (out : List (List Int)) (e : GEvent) (c : List Int) : List Nat → List Int
  | [] => c
  | k :: ks => joinL list out e (if (list.getD k zEv).at_ = e.at_ then clockJoin c (out.getD k []) else c) ks
theorem joinL_snoc (list : List GEvent) (out : List (List Int)) (e : GEvent) : ∀ (ks : List Nat) (c : List Int) (k : Nat), joinL list out e c (ks ++ [k]) = if (list.getD k zEv).at_ = e.at_ then clockJoin (joinL list out e c ks) (out.getD k []) else joinL list out e c ks
  | [], c, k => rfl
  | _ :: ks, c, k => by simp only [List.cons_append, joinL]; exact joinL_snoc list out e ks _ k
theorem joinL_take {list : List GEvent} {out : List (List Int)} {e : GEvent} {c : List Int} {ks : List Nat} {k : Nat} (h : k < ks.length) :
    joinL list out e c (ks.take (k + 1)) = if (list.getD ks[k] zEv).at_ = e.at_ then clockJoin (joinL list out e c (ks.take k)) (out.getD ks[k] []) else joinL list out e c (ks.take k) := by
  rw [← List.take_append_getElem h, joinL_snoc]
theorem joinN_swps {list : List GEvent} {out : List (List Int)} {e : GEvent} (c : List Int) (h : isSwp e = true) : ∀ i, joinN list out e c i = joinL list out e c (swps list i)
  | 0 => rfl
  | i + 1 => by
    unfold joinN swps joinB
    rw [h, joinN_swps c h i]
    by_cases hs : isSwp (list.getD i zEv) = true
    · rw [if_pos hs, hs, joinL_snoc]; simp
    · rw [if_neg hs]
      have hs : isSwp (list.getD i zEv) = false := by simpa using hs
      rw [hs]; simp
theorem joinN_none {list : List GEvent} {out : List (List Int)} {e : GEvent} (c : List Int) (h : isSwp e = false) : ∀ i, joinN list out e c i = c
  | 0 => rfl
  | i + 1 => by
    unfold joinN joinB
    rw [h, joinN_none c h i]
    simp
theorem joinN_len {list : List GEvent} {out : List (List Int)} {e : GEvent} (c : List Int) : ∀ i, (joinN list out e c i).length = c.length
  | 0 => rfl
  | i + 1 => by
    unfold joinN
    have ih := joinN_len (list := list) (out := out) (e := e) c i
    split
    · unfold clockJoin; split
      · simp [ih]
      · exact ih
    · exact ih
theorem joinL_len {list : List GEvent} {out : List (List Int)} {e : GEvent} : ∀ (ks : List Nat) (c : List Int), (joinL list out e c ks).length = c.length
  | [], c => rfl
  | k :: ks, c => by
    simp only [joinL]
    rw [joinL_len ks]
    split
    · unfold clockJoin; split
      · simp
      · rfl
    · rfl
theorem bump_len (c : List Int) (w : Nat) : (bump c w).length = c.length := by unfold bump; simp
def CkOk (n : Int) (i : Nat) (s : Ck) : Prop := s.now.length = n.toNat ∧ (∀ c ∈ s.now, c.length = n.toNat) ∧ s.out.length = i ∧ ∀ c ∈ s.out, c.length = n.toNat
theorem whosOk_iff {n : Int} {list : List GEvent} : whosOk n list = true ↔ (1 ≤ n ∧ n ≤ 8) ∧ ∀ e ∈ list, wofN e.who n = true := by
  unfold whosOk inR; simp
theorem wofN_lt {n k : Int} (hn : 1 ≤ n ∧ n ≤ 8) (h : wofN k n = true) : 0 ≤ k ∧ k < n := by
  unfold wofN inR at h
  rw [wrap_ok (by omega) (by omega)] at h
  simp at h
  omega
theorem ckC_len {n : Int} {list : List GEvent} {s : Ck} {i : Nat} (hs : CkOk n i s) (hw : 0 ≤ (list.getD i zEv).who ∧ (list.getD i zEv).who < n) : (ckC list s i).length = n.toNat := by
  unfold ckC
  rw [bump_len, joinN_len]
  have hl : (list.getD i zEv).who.toNat < s.now.length := by rw [hs.1]; omega
  rw [List.getD_eq_getElem?_getD, List.getElem?_eq_getElem hl, Option.getD_some]
  exact hs.2.1 _ (List.getElem_mem hl)
theorem CkOk.step {n : Int} {list : List GEvent} {s : Ck} {i : Nat} (hs : CkOk n i s) (hw : 0 ≤ (list.getD i zEv).who ∧ (list.getD i zEv).who < n) : CkOk n (i + 1) (ckStep list s i) := by
  have hc := ckC_len hs hw
  obtain ⟨h1, h2, h3, h4⟩ := hs
  refine ⟨by simpa [ckStep] using h1, fun c hm => ?_, by simp [ckStep, h3], fun c hm => ?_⟩
  · rcases List.mem_or_eq_of_mem_set hm with hm | rfl
    · exact h2 c hm
    · exact hc
  · rcases List.mem_append.1 hm with hm | hm
    · exact h4 c hm
    · rw [show c = _ by simpa using hm]; exact hc
theorem ckN_ok {n : Int} {list : List GEvent} (hk : whosOk n list = true) : ∀ i, i ≤ list.length → CkOk n i (ckN n list i)
  | 0, _ => by
    obtain ⟨hn, _⟩ := whosOk_iff.1 hk
    refine ⟨by simp [ckN], fun c hc => ?_, rfl, by simp [ckN]⟩
    rw [(List.mem_replicate.1 hc).2]
    unfold clockNew
    rw [if_pos hn]
    simp
  | i + 1, hi => by
    obtain ⟨hn, hw⟩ := whosOk_iff.1 hk
    have hl : i < list.length := by omega
    refine (ckN_ok hk i (by omega)).step (wofN_lt hn ?_)
    rw [List.getD_eq_getElem?_getD, List.getElem?_eq_getElem hl, Option.getD_some]
    exact hw _ (List.getElem_mem hl)
theorem clocks_len (n : Int) (list : List GEvent) : (clocks n list).length ≤ list.length := by
  unfold clocks
  split
  · rename_i h
    have := (ckN_ok h list.length (Nat.le_refl _)).2.2.1
    omega
  · simp
theorem clocks_each (n : Int) (list : List GEvent) : ∀ c ∈ clocks n list, c.length ≤ 8 := by
  unfold clocks
  split
  · rename_i h
    obtain ⟨hn, _⟩ := whosOk_iff.1 h
    intro c hc
    have := (ckN_ok h list.length (Nat.le_refl _)).2.2.2 c hc
    omega
  · simp
end Go.Tw
namespace Go.Tw
def lastI (list : List GEvent) (i : Nat) : List Int := (swps list i).map fun k : Nat => (k : Int)
theorem lastI_zero (list : List GEvent) : lastI list 0 = [] := rfl
theorem lastI_len (list : List GEvent) (i : Nat) : (lastI list i).length = (swps list i).length := by unfold lastI; simp
theorem swps_succ (list : List GEvent) (k : Nat) : swps list (k + 1) = if isSwp (list.getD k zEv) = true then swps list k ++ [k] else swps list k := rfl
theorem lastI_yes {list : List GEvent} {i : Nat} (h : i < list.length) (hs : isSwp list[i] = true) : lastI list (i + 1) = lastI list i ++ [(i : Int)] := by
  unfold lastI
  rw [swps_succ, if_pos (by simpa [h] using hs)]
  simp
theorem lastI_no {list : List GEvent} {i : Nat} (h : i < list.length) (hs : isSwp list[i] = false) : lastI list (i + 1) = lastI list i := by
  unfold lastI
  rw [swps_succ, if_neg (by simpa [h] using hs)]
theorem lastI_at {list : List GEvent} {i q : Nat} (h : q < (lastI list i).length) : ∃ k : Nat, (lastI list i)[q] = (k : Int) ∧ k < i ∧ (swps list i)[q]? = some k := by
  have h2 : q < (swps list i).length := by rw [lastI_len] at h; exact h
  refine ⟨(swps list i)[q], by simp [lastI], swps_lt list (List.getElem_mem h2), List.getElem?_eq_getElem h2⟩
theorem joinL_step {list : List GEvent} {out : List (List Int)} {e : GEvent} {c : List Int} {ks : List Nat} {q k : Nat} (h : ks[q]? = some k) (hk : k < list.length) (ho : k < out.length) :
    joinL list out e c (ks.take (q + 1)) = if list[k].at_ = e.at_ then clockJoin (joinL list out e c (ks.take q)) out[k] else joinL list out e c (ks.take q) := by
  obtain ⟨hq, rfl⟩ := List.getElem?_eq_some_iff.1 h
  rw [joinL_take hq]
  simp [hk, ho]
theorem joinN_step {list : List GEvent} {out : List (List Int)} {e : GEvent} {c : List Int} {k : Nat} (hk : k < list.length) (ho : k < out.length) :
    joinN list out e c (k + 1) = if isSwp e = true ∧ isSwp list[k] = true ∧ list[k].at_ = e.at_ then clockJoin (joinN list out e c k) out[k] else joinN list out e c k := by
  conv => lhs; unfold joinN
  unfold joinB
  simp [hk, ho, and_assoc]
theorem ckStep_at {list : List GEvent} {s : Ck} {i w : Nat} {c : List Int} (h : i < list.length) (hw : list[i].who = (w : Int)) (hl : w < s.now.length) (hc : joinN list s.out list[i] s.now[w] i = c) (hwc : w < c.length) :
    ckStep list s i = ⟨s.now.set w (c.set w (IntKind.wrap .i64 (c[w] + 1))), s.out ++ [c.set w (IntKind.wrap .i64 (c[w] + 1))]⟩ := by
  have he : list.getD i zEv = list[i] := by simp [h]
  have hcc : ckC list s i = c.set w (IntKind.wrap .i64 (c[w] + 1)) := by
    unfold ckC
    rw [he, hw, Int.toNat_natCast]
    have : s.now.getD w [] = s.now[w] := by simp [hl]
    rw [this, hc]
    unfold bump
    simp [hwc]
  unfold ckStep
  rw [hcc, he, hw, Int.toNat_natCast]
end Go.Tw
namespace Go.Tw
def nowI (n : Int) (i : Nat) : List (List Int) := List.replicate i (clockNew n) ++ List.replicate (n.toNat - i) []
theorem nowI_zero (n : Int) : nowI n 0 = List.replicate n.toNat [] := by unfold nowI; simp
theorem nowI_full (n : Int) : nowI n n.toNat = List.replicate n.toNat (clockNew n) := by unfold nowI; simp
theorem nowI_len {n : Int} {i : Nat} (h : i ≤ n.toNat) : (nowI n i).length = n.toNat := by unfold nowI; simp; omega
theorem nowI_set {n : Int} {i : Nat} (h : i < n.toNat) : (nowI n i).set i (clockNew n) = nowI n (i + 1) := by
  unfold nowI
  rw [List.set_append_right _ _ (by simp), List.length_replicate, Nat.sub_self]
  obtain ⟨m, hm⟩ : ∃ m, n.toNat - i = m + 1 := ⟨n.toNat - i - 1, by omega⟩
  rw [hm, show n.toNat - (i + 1) = m by omega, List.replicate_succ, List.set_cons_zero, List.replicate_succ', List.append_assoc]
  rfl
end Go.Tw
namespace Go.Tw
def knowsB (c : List (List Int)) (i k : Int) : Bool := decide (0 ≤ i ∧ i < k ∧ k < c.length) && clockWithin (c.getD i.toNat []) (c.getD k.toNat [])
theorem knowsB_no {c : List (List Int)} {i k : Int} (h : ¬ (0 ≤ i ∧ i < k ∧ k < c.length)) : knowsB c i k = false := by unfold knowsB; simp [h]
theorem knowsB_at {c : List (List Int)} {i k : Nat} (h : i < k) (h1 : i < c.length) (h2 : k < c.length) : knowsB c i k = clockWithin c[i] c[k] := by
  unfold knowsB
  have h3 : (0 : Int) ≤ i ∧ (i : Int) < k ∧ (k : Int) < c.length := by omega
  simp [h1, h2, h]
end Go.Tw
namespace Go.Tw
theorem knows_splitS (c : List (List Int)) (i k : Int) (hl : c.length ≤ 1048576) : (¬ 0 < k ∧ knowsB c i k = false) ∨ (0 < k ∧ ¬ k < (c.length : Int) ∧ knowsB c i k = false) ∨ (0 < k ∧ k < (c.length : Int) ∧ inR i 0 (IntKind.wrap .i64 (k - 1)) = false ∧ knowsB c i k = false) ∨
    ∃ a b : Nat, i = a ∧ k = b ∧ a < b ∧ a < c.length ∧ b < c.length ∧ (0 : Int) < b ∧ (b : Int) < (c.length : Int) ∧ inR (a : Int) 0 (IntKind.wrap .i64 ((b : Int) - 1)) = true := by
  by_cases h1 : 0 < k
  · by_cases h2 : k < (c.length : Int)
    · have hw : IntKind.wrap .i64 (k - 1) = k - 1 := wrap_ok (by omega) (by omega)
      by_cases h3 : 0 ≤ i ∧ i ≤ k - 1
      · refine Or.inr (Or.inr (Or.inr ⟨i.toNat, k.toNat, by omega, by omega, by omega, by omega, by omega, by omega, by omega, ?_⟩))
        rw [show ((i.toNat : Nat) : Int) = i by omega, show ((k.toNat : Nat) : Int) = k by omega, hw]
        unfold inR; simp; omega
      · refine Or.inr (Or.inr (Or.inl ⟨h1, h2, ?_, knowsB_no (by omega)⟩))
        rw [hw]; unfold inR; simp; omega
    · exact Or.inr (Or.inl ⟨h1, h2, knowsB_no (by omega)⟩)
  · exact Or.inl ⟨h1, knowsB_no (by omega)⟩
theorem knows_splitI (c : List (List Int)) (i k : Int) (hl : c.length ≤ 1048576) : (¬ i < k ∧ knowsB c i k = false) ∨ (i < k ∧ inR i 0 (IntKind.wrap .i64 ((c.length : Int) - 1)) = false ∧ knowsB c i k = false) ∨ (i < k ∧ inR i 0 (IntKind.wrap .i64 ((c.length : Int) - 1)) = true ∧ inR k 0 (IntKind.wrap .i64 ((c.length : Int) - 1)) = false ∧ knowsB c i k = false) ∨
    ∃ a b : Nat, i = a ∧ k = b ∧ a < b ∧ a < c.length ∧ b < c.length ∧ inR (a : Int) 0 (IntKind.wrap .i64 ((c.length : Int) - 1)) = true ∧ inR (b : Int) 0 (IntKind.wrap .i64 ((c.length : Int) - 1)) = true := by
  have hw : IntKind.wrap .i64 ((c.length : Int) - 1) = (c.length : Int) - 1 := wrap_ok (by omega) (by omega)
  rw [hw]
  by_cases h1 : i < k
  · by_cases h2 : 0 ≤ i ∧ i ≤ (c.length : Int) - 1
    · have e2 : inR i 0 ((c.length : Int) - 1) = true := by unfold inR; simp; omega
      by_cases h3 : 0 ≤ k ∧ k ≤ (c.length : Int) - 1
      · have e3 : inR k 0 ((c.length : Int) - 1) = true := by unfold inR; simp; omega
        refine Or.inr (Or.inr (Or.inr ⟨i.toNat, k.toNat, by omega, by omega, by omega, by omega, by omega, ?_, ?_⟩))
        · rw [show ((i.toNat : Nat) : Int) = i by omega]; exact e2
        · rw [show ((k.toNat : Nat) : Int) = k by omega]; exact e3
      · exact Or.inr (Or.inr (Or.inl ⟨h1, e2, by unfold inR; simp; omega, knowsB_no (by omega)⟩))
    · exact Or.inr (Or.inl ⟨h1, by unfold inR; simp; omega, knowsB_no (by omega)⟩)
  · exact Or.inl ⟨h1, knowsB_no (by omega)⟩
end Go.Tw

namespace Go.Tw
end Go.Tw

namespace Go.Tw
open Go.Proofs Go.Shelf
section
variable {P : Program} {ρ : Ren}
end
end Go.Tw

namespace Go.Tw
end Go.Tw
namespace Go.Tw
section
variable {P : Program} {w0 w w' : World} {Al : Blks} {N : Nat} {g : Gh} {σ σ' : St} {a : Act}
end
end Go.Tw
namespace Go.Tw
section
variable {P : Program} {w0 w w' : World} {Al : Blks} {N : Nat} {g : Gh} {σ σ' : St} {a : Act}
theorem RepLs.app : ∀ {ls ks : List L} {vs us : List Value}, RepLs w g σ ls vs → RepLs w g σ ks us → RepLs w g σ (ls ++ ks) (vs ++ us)
  | [], _, [], _, _, h' => h'
  | [], _, _ :: _, _, h, _ => h.elim
  | _ :: _, _, [], _, h, _ => h.elim
  | _ :: _, _, _ :: _, _, h, h' => ⟨h.1, RepLs.app h.2 h'⟩
end
end Go.Tw
namespace Go.Tw
section
variable {P : Program} {w0 w w' : World} {Al : Blks} {N : Nat} {g : Gh} {σ σ' : St} {a : Act}
end
end Go.Tw

namespace Go.Tw
section
variable {P : Program} {w0 w w' : World} {Al : Blks} {N : Nat} {g : Gh} {σ σ' : St} {a : Act}
end
end Go.Tw

namespace Go.Tw
def StepI (P : Program) (N : Nat) (k : Bool) (ops : List Oper) (i : Nat) (σ : St) (next : St → Prop) : Prop := ∃ o, ops[i]? = some o ∧ Step P N k ops o σ next
def RunI (P : Program) (N : Nat) (k : Bool) (ops : List Oper) (K : St → Prop) : Sch → St → Prop
  | .nil, σ => K σ
  | .op i r, σ => StepI P N k ops i σ (RunI P N k ops K r)
  | .fork i a j b, σ => StepI P N k ops i σ (RunI P N k ops K a) ∧ StepI P N k ops j σ (RunI P N k ops K b)
  | .fork3 i a j b m c, σ => StepI P N k ops i σ (RunI P N k ops K a) ∧ StepI P N k ops j σ (RunI P N k ops K b) ∧ StepI P N k ops m σ (RunI P N k ops K c)
  | .fork4 i a j b m c n d, σ => StepI P N k ops i σ (RunI P N k ops K a) ∧ StepI P N k ops j σ (RunI P N k ops K b) ∧ StepI P N k ops m σ (RunI P N k ops K c) ∧ StepI P N k ops n σ (RunI P N k ops K d)
  | .sub r, σ => ∃ σ', Sub σ σ' ∧ RunI P N k ops K r σ'
section
variable {P : Program} {N : Nat} {k : Bool} {ops : List Oper} {K : St → Prop} {σ : St}
theorem StepI_iff {i : Nat} {o : Oper} {n : St → Prop} (h : ops[i]? = some o) : StepI P N k ops i σ n ↔ Step P N k ops o σ n :=
  ⟨fun ⟨_, e, q⟩ => by rw [h] at e; cases e; exact q, fun q => ⟨o, h, q⟩⟩
theorem RunI_to : ∀ (s : Sch) {os : SchO} (_ : s.ops ops = some os) (σ : St), RunI P N k ops K s σ → RunS P N k ops K os σ
  | .nil, os, h, σ, R => by simp only [Sch.ops, Option.some.injEq] at h; subst h; exact R
  | .op i r, os, h, σ, R => by
    simp only [Sch.ops] at h
    split at h
    · rename_i o r' e1 e2
      cases h
      exact Step_mono (RunI_to r e2) ((StepI_iff e1).1 R)
    · cases h
  | .fork i a j b, os, h, σ, R => by
    simp only [Sch.ops] at h
    split at h
    · rename_i o a' p b' e1 e2 e3 e4
      cases h
      exact ⟨Step_mono (RunI_to a e2) ((StepI_iff e1).1 R.1), Step_mono (RunI_to b e4) ((StepI_iff e3).1 R.2)⟩
    · cases h
  | .fork3 i a j b m c, os, h, σ, R => by
    simp only [Sch.ops] at h
    split at h
    · rename_i o a' p b' q c' e1 e2 e3 e4 e5 e6
      cases h
      exact ⟨Step_mono (RunI_to a e2) ((StepI_iff e1).1 R.1), Step_mono (RunI_to b e4) ((StepI_iff e3).1 R.2.1), Step_mono (RunI_to c e6) ((StepI_iff e5).1 R.2.2)⟩
    · cases h
  | .fork4 i a j b m c n d, os, h, σ, R => by
    simp only [Sch.ops] at h
    split at h
    · rename_i o a' p b' q c' r d' e1 e2 e3 e4 e5 e6 e7 e8
      cases h
      exact ⟨Step_mono (RunI_to a e2) ((StepI_iff e1).1 R.1), Step_mono (RunI_to b e4) ((StepI_iff e3).1 R.2.1), Step_mono (RunI_to c e6) ((StepI_iff e5).1 R.2.2.1), Step_mono (RunI_to d e8) ((StepI_iff e7).1 R.2.2.2)⟩
    · cases h
  | .sub r, os, h, σ, R => by
    simp only [Sch.ops] at h
    split at h
    · rename_i r' e1
      cases h
      obtain ⟨σ', h1, h2⟩ := R
      exact ⟨σ', h1, RunI_to r e1 σ' h2⟩
    · cases h
theorem Step_bare {o : Oper} {n : St → Prop} (hg : o.guard = none) (h : Step P N k [] o σ n) : Step P N k ops o σ n := by
  unfold Step at *
  rw [hg] at *
  exact h
theorem StepI_go {i : Nat} {s : Sch} {o : Oper} (ho : ops[i]? = some o) (hg : o.guard = none) (h : ∀ K' : St → Prop, (∀ σ, RunI P N k ops K s σ → K' σ) → Step P N k [] o σ K') : StepI P N k ops i σ (RunI P N k ops K s) :=
  ⟨o, ho, Step_bare hg (h _ fun _ q => q)⟩
theorem RunI_f1 {i : Nat} {r : Sch} (h : StepI P N k ops i σ (RunI P N k ops K r)) : RunI P N k ops K (.op i r) σ := h
theorem RunI_f2 {i j : Nat} {a b : Sch} (h1 : StepI P N k ops i σ (RunI P N k ops K a)) (h2 : StepI P N k ops j σ (RunI P N k ops K b)) : RunI P N k ops K (.fork i a j b) σ := ⟨h1, h2⟩
theorem RunI_f3 {i j m : Nat} {a b c : Sch} (h1 : StepI P N k ops i σ (RunI P N k ops K a)) (h2 : StepI P N k ops j σ (RunI P N k ops K b)) (h3 : StepI P N k ops m σ (RunI P N k ops K c)) : RunI P N k ops K (.fork3 i a j b m c) σ := ⟨h1, h2, h3⟩
theorem RunI_f4 {i j m n : Nat} {a b c d : Sch} (h1 : StepI P N k ops i σ (RunI P N k ops K a)) (h2 : StepI P N k ops j σ (RunI P N k ops K b)) (h3 : StepI P N k ops m σ (RunI P N k ops K c)) (h4 : StepI P N k ops n σ (RunI P N k ops K d)) : RunI P N k ops K (.fork4 i a j b m c n d) σ := ⟨h1, h2, h3, h4⟩
theorem RunI_end (h : K σ) : RunI P N k ops K .nil σ := h
end
theorem W_drawI {P : Program} {N : Nat} {σ : St} (kc : Bool) {id : Nat} {l : List Oper} {K : Exit → St → Prop} (s : Sch) (hm : P.follows .mixedOrders = true)
    (hc : ((s.len == l.length && Region.noSelect l.toArray && checkS kc l.toArray s (Array.replicate l.length false)) && (s.ops l).isSome) = true) (h : RunI P N kc l (K .normal) s σ) : W P N (.region id l.toArray true) K σ := by
  rw [Bool.and_eq_true] at hc
  obtain ⟨os, e⟩ := Option.isSome_iff_exists.1 hc.2
  exact W_drawS kc s hm hc.1 e (RunI_to s e σ h)
end Go.Tw

namespace Go.Tw
section
variable {P : Program} {w0 w w' : World} {Al : Blks} {N : Nat} {g : Gh} {σ σ' : St} {a : Act}
def St.topify (σ : St) (r : Nat) (row : Row) : St := { σ with row := (r, { row with pm := .top }) :: del [r] σ.row }
theorem Rep.topped {v : Value} {z : Nat} {es : Els} {F : Blks} (h : Rep w true v (.sl z es) F) : ∃ K : Blks, (∀ b, K b → F b) ∧ RepTop w v z es K fun b => F b ∧ ¬ K b := by
  cases h with
  | nils => exact ⟨fun _ => False, fun _ h => h.elim, Or.inl ⟨rfl, _, rfl⟩⟩
  | bare => exact ⟨fun _ => False, fun _ h => h.elim, Or.inl ⟨rfl, _, rfl⟩⟩
  | sl f hl hF hsub hd hdd hr =>
    rename_i ad cap cs
    refine ⟨fun b => b = ad.block, fun b e => e ▸ hF, Or.inr ⟨ad, cap, cs, rfl, hl, rfl, fun i j x c hx hc => (hr i j x c hx hc).lent.mono fun b hb => ⟨hsub i j b hb, fun e => ?_⟩⟩⟩
    exact hd rfl i j (e ▸ hb)
theorem Sub.topify {r : Nat} {row : Row} (hrow : get σ.row r = some row) (hpm : row.pm = .own) : Sub σ (σ.topify r row) := by
  intro w0 Al N a w g R
  have m := R.mem
  obtain ⟨K, hK1, hK2⟩ := (m.own r row hrow hpm).topped
  let g' : Gh := ⟨g.bx, g.rw, fun x => if x = r then K else g.fp x⟩
  have hown : ∀ b, K b → Owned g σ b := fun b hb => Or.inr ⟨r, row, hrow, by simp [hpm], hK1 b hb⟩
  have rowE : ∀ x, get (σ.topify r row).row x = if x = r then some { row with pm := .top } else get σ.row x := by
    intro x
    simp only [St.topify, get]
    split
    · rfl
    · rename_i hk
      rw [get_del, if_neg (by simpa using hk)]
  have hnew : ∀ k row1, get [(r, ({ row with pm := .top } : Row))] k = some row1 → k = r ∧ row1 = { row with pm := .top } := by
    intro k row1 h
    simp only [get] at h
    split at h
    · rename_i e; simp only [Option.some.injEq] at h; exact ⟨e, h.symm⟩
    · cases h
  have ownS : ∀ b, Owned g' (σ.topify r row) b → ¬ (g.fp r b ∧ ¬ K b) := by
    rintro b (⟨k, ls, h1, h2⟩ | ⟨r2, row2, h1, h2, h3⟩) ⟨hf, hn⟩
    · subst h2
      exact m.br k ls r row h1 hrow (by simp [hpm]) hf
    · by_cases e : r2 = r
      · subst e
        simp only [g', if_true] at h3
        exact hn h3
      · rw [rowE, if_neg e] at h1
        simp only [g', if_neg e] at h3
        exact e (m.rr r2 r row2 row b h1 hrow h2 (by simp [hpm]) h3 hf)
  refine ⟨g', R.turn (σ1 := σ.topify r row) (w' := w) (g' := g') (DR := [r]) (DB := []) (nr := [(r, { row with pm := .top })]) (nb := []) (kill := fun _ => false)
    ⟨rfl, by simp [St.topify, del_nil, killB_no], fun b hb hp => rfl, Nat.le_refl _, fun x hx hs => ?_, fun _ _ _ => rfl, ?_, ?_, ?_, ?_, ?_, ?_, ?_, ?_, ?_, ?_, ?_, ?_, ?_⟩ ⟨by rw [killE_no]; rfl, (killS_no _).symm⟩ rfl rfl rfl⟩
  · have : x ≠ r := by simpa using hx
    simp only [g', if_neg this, and_self]
  · intro k row1 h; exact Or.inl (by simp [(hnew k row1 h).1])
  · intro k ls h; simp [get] at h
  · intro k row1 h hp; obtain ⟨_, rfl⟩ := hnew k row1 h; cases hp
  · intro k row1 h hp
    obtain ⟨rfl, rfl⟩ := hnew k row1 h
    simp only [g', if_true]
    rcases hK2 with ⟨e, oa, hv⟩ | ⟨ad, cap, cs, hv, hl, hF, hc⟩
    · exact Or.inl ⟨e, oa, hv⟩
    · exact Or.inr ⟨ad, cap, cs, hv, hl, hF, fun i j x c hx hcc => (hc i j x c hx hcc).mono fun b hb ho => ownS b ho hb⟩
  · intro k row1 h hp; obtain ⟨_, rfl⟩ := hnew k row1 h; cases hp
  · intro k row1 b h _ hb
    obtain ⟨rfl, rfl⟩ := hnew k row1 h
    simp only [g', if_true] at hb
    exact ⟨Or.inl (Or.inl ⟨k, row, by simp, hrow, by simp [hpm], hK1 b hb⟩), m.lt b (hown b hb)⟩
  · intro k ls h; simp [get] at h
  · intro r1 r2 row1 row2 b h h' _ _ _ _; rw [(hnew r1 row1 h).1, (hnew r2 row2 h').1]
  · intro k ls r row h; simp [get] at h
  · intro k k' l l' h; simp [get] at h
  · intro k ls h; simp [get] at h
  · intro l _ x p _ _ hx row1 h
    have : x = r := by simpa using hx
    subst this
    rw [hrow] at h
    cases h
    refine ⟨{ row with pm := .top }, by rw [rowE, if_pos rfl], rfl, fun z es u h1 h2 => ⟨es, h1, rfl, h2⟩⟩
  · intro l _ b _ _ h; simp at h
end
attribute [go_sem] St.topify
end Go.Tw

namespace Go.Tw
end Go.Tw

namespace Go.Tw
def GBlock.few (b : GBlock) : Prop := b.list.length ≤ 5
def GFrame.few (f : GFrame) : Prop := f.list.length ≤ 5
theorem GBlock.few.small {b : GBlock} (h : b.few) : b.small := by unfold GBlock.few at h; unfold GBlock.small; omega
theorem GFrame.few.small {f : GFrame} (h : f.few) : f.small := by unfold GFrame.few at h; unfold GFrame.small; omega
end Go.Tw

