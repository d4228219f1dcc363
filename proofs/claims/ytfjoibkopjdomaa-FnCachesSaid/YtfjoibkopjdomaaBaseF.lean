/- The layer: trees, states, rules; plain functions. -/
import Derived.Test.YtfjoibkopjdomaaBaseE
set_option linter.unusedSimpArgs false
set_option linter.unusedVariables false
set_option linter.unnecessarySimpa false
/- Plain functions: worlds that are right; what is coming; the words of a page. -/
namespace Go.Tw
def packetHd (p : GPacket) (n : Int) : Bool := inR n 1 4 && wofN p.from_ n && wofN p.to n && inR p.n 0 100000
def packetOk (p : GPacket) (n : Int) : Bool := packetHd p n && (if p.ack = true then decide (p.msg.kind = 0) && decide (p.msg.page = 0) && !p.msg.own && decide (p.msg.list.length = 0) else msgOk p.msg)
theorem packetOk_hd {p : GPacket} {n : Int} (h : packetHd p n = false) : packetOk p n = false := by unfold packetOk; rw [h]; rfl
theorem packetOk_ack {p : GPacket} {n : Int} (h : packetHd p n = true) (ha : p.ack = true) : packetOk p n = (decide (p.msg.kind = 0) && decide (p.msg.page = 0) && !p.msg.own && decide (p.msg.list.length = 0)) := by unfold packetOk; rw [h, if_pos ha]; rfl
theorem packetOk_msg {p : GPacket} {n : Int} (h : packetHd p n = true) (ha : p.ack = false) : packetOk p n = msgOk p.msg := by unfold packetOk; rw [h, if_neg (by simp [ha])]; rfl
def worldHd (w : GWorld) : Bool := inR w.size 1 4 && decide ((w.nodes.length : Int) = w.size) && decide ((w.net.length : Int) ≤ 40)
def nodeAt (s : Int) (i : Nat) (x : GNode) : Bool := nodeOk x s && decide (x.id = (i : Int))
def nodesAt (w : GWorld) : Bool := (List.range w.nodes.length).all fun i => match w.nodes[i]? with
  | some x => nodeAt w.size i x
  | none => true
def worldOk (w : GWorld) : Bool := worldHd w && nodesAt w && w.net.all fun p => packetOk p w.size
theorem worldHd_facts {w : GWorld} (h : worldHd w = true) : (1 ≤ w.size ∧ w.size ≤ 4) ∧ (w.nodes.length : Int) = w.size ∧ w.net.length ≤ 40 := by
  unfold worldHd at h
  simp only [Bool.and_eq_true, decide_eq_true_eq] at h
  exact ⟨(inR_iff _ _ _).1 h.1.1, h.1.2, by omega⟩
theorem worldOk_hd {w : GWorld} (h : worldHd w = false) : worldOk w = false := by unfold worldOk; rw [h]; rfl
theorem nodesAt_bad {w : GWorld} {i : Nat} (h : i < w.nodes.length) (hb : nodeAt w.size i w.nodes[i] = false) : nodesAt w = false := by
  unfold nodesAt
  rw [List.all_eq_false]
  exact ⟨i, by simpa using h, by simp [h, hb]⟩
theorem nodesAt_good {w : GWorld} (h : ∀ j, (hj : j < w.nodes.length) → nodeAt w.size j w.nodes[j] = true) : nodesAt w = true := by
  unfold nodesAt
  rw [List.all_eq_true]
  intro j hj
  have hj : j < w.nodes.length := by simpa using hj
  simp [hj, h j hj]
theorem nodesAt_at {w : GWorld} (h : nodesAt w = true) {i : Nat} (hi : i < w.nodes.length) : nodeAt w.size i w.nodes[i] = true := by
  unfold nodesAt at h
  rw [List.all_eq_true] at h
  have := h i (by simpa using hi)
  simpa [hi] using this
theorem worldOk_bad {w : GWorld} {i : Nat} (h : i < w.nodes.length) (hb : nodeAt w.size i w.nodes[i] = false) : worldOk w = false := by unfold worldOk; rw [nodesAt_bad h hb]; simp
theorem worldOk_badp {w : GWorld} {i : Nat} (h : i < w.net.length) (hb : packetOk w.net[i] w.size = false) : worldOk w = false := by
  unfold worldOk
  rw [all_no h hb]
  simp
theorem worldOk_rest {w : GWorld} (h : worldHd w = true) (hn : nodesAt w = true) : worldOk w = w.net.all fun p => packetOk p w.size := by unfold worldOk; rw [h, hn]; rfl
theorem worldOk_good {w : GWorld} (h : worldHd w = true) (hn : nodesAt w = true) (hp : ∀ j, (hj : j < w.net.length) → packetOk w.net[j] w.size = true) : worldOk w = true := by
  rw [worldOk_rest h hn, List.all_eq_true]
  intro x hx
  obtain ⟨j, hj, rfl⟩ := List.getElem_of_mem hx
  exact hp j hj
theorem worldOk_facts {w : GWorld} (h : worldOk w = true) : worldHd w = true ∧ nodesAt w = true := by
  unfold worldOk at h
  simp only [Bool.and_eq_true] at h
  exact ⟨h.1.1, h.1.2⟩
theorem all_at {α : Type} {xs : List α} {p : α → Bool} (h : xs.all p = true) {i : Nat} (hi : i < xs.length) : p xs[i] = true := by
  rw [List.all_eq_true] at h
  exact h _ (List.getElem_mem hi)
/-- What is known of a node that is right. -/
theorem nodeOk_facts {x : GNode} {n : Int} (h : nodeOk x n = true) : x.frames.length = 6 ∧ x.homes.length = 6 ∧ (x.out.length : Int) = n ∧ (x.in_.length : Int) = n ∧
    (∀ i, (hi : i < x.frames.length) → frameOk x.frames[i] = true) ∧ (∀ i, (hi : i < x.homes.length) → homeOk x.homes[i] n = true) ∧ (∀ i, (hi : i < x.out.length) → senderOk x.out[i] = true) ∧ (∀ i, (hi : i < x.in_.length) → gotOk x.in_[i] = true) := by
  unfold nodeOk at h
  simp only [Bool.and_eq_true] at h
  obtain ⟨⟨⟨⟨h0, h1⟩, h2⟩, h3⟩, h4⟩ := h
  unfold nodeHd at h0
  simp only [Bool.and_eq_true, decide_eq_true_eq] at h0
  exact ⟨by omega, by omega, by omega, by omega, fun i hi => all_at h1 hi, fun i hi => all_at h2 hi, fun i hi => all_at h3 hi, fun i hi => all_at h4 hi⟩
theorem senderOk_facts {s : GSender} (h : senderOk s = true) : (0 ≤ s.base ∧ s.base ≤ 100000) ∧ s.queue.length ≤ 30 ∧ ∀ i, (hi : i < s.queue.length) → msgOk s.queue[i] = true := by
  unfold senderOk sendHd at h
  simp only [Bool.and_eq_true, decide_eq_true_eq] at h
  obtain ⟨⟨⟨h1, h2⟩, h3⟩, h4⟩ := h
  exact ⟨(inR_iff _ _ _).1 h1, by omega, fun i hi => all_at h4 hi⟩
theorem homeOk_facts {h : GHome} {n : Int} (q : homeOk h n = true) : (1 ≤ n ∧ n ≤ 4) ∧ h.list.length = 4 ∧ (-1 ≤ h.owner ∧ h.owner < n) ∧ (h.readers.length : Int) = n ∧ (0 ≤ h.now.who ∧ h.now.who < n) ∧ (0 ≤ h.acks ∧ h.acks ≤ n) ∧ h.queue.length ≤ 12 ∧ ∀ i, (hi : i < h.queue.length) → (0 ≤ h.queue[i].who ∧ h.queue[i].who < n) := by
  unfold homeOk homeHd wofN at q
  simp only [Bool.and_eq_true, decide_eq_true_eq, inR_iff] at q
  obtain ⟨⟨⟨⟨⟨⟨⟨q1, q2⟩, q3⟩, q4⟩, q5⟩, q6⟩, q7⟩, q8⟩ := q
  have hw : IntKind.wrap .i64 (n - 1) = n - 1 := wrap_ok (by omega) (by omega)
  rw [hw] at q3 q5
  have hl := wordsOk_len q2
  refine ⟨q1, by omega, by omega, by omega, by omega, by omega, by omega, fun i hi => ?_⟩
  have := all_at q8 hi
  simp only [inR_iff, hw] at this
  omega
theorem msgOk_list {m : GMsg} (h : msgOk m = true) (hk : m.kind = 3 ∨ m.kind = 7) : m.list.length = 4 := by
  unfold msgOk at h
  rw [Bool.and_eq_true, if_pos hk] at h
  have := wordsOk_len h.2
  omega
def comN (q : List GMsg) (base got : Int) : Nat → List GMsg
  | 0 => []
  | k + 1 => match q[k]? with
    | some m => if got ≤ base + (k : Int) then comN q base got k ++ [m] else comN q base got k
    | none => comN q base got k
theorem comN_yes {q : List GMsg} {base got : Int} {k : Nat} (h : k < q.length) (hg : got ≤ base + (k : Int)) : comN q base got (k + 1) = comN q base got k ++ [q[k]] := by simp [comN, h, hg]
theorem comN_no {q : List GMsg} {base got : Int} {k : Nat} (h : k < q.length) (hg : ¬ got ≤ base + (k : Int)) : comN q base got (k + 1) = comN q base got k := by simp [comN, h, hg]
theorem comN_len (q : List GMsg) (base got : Int) : ∀ k, (comN q base got k).length ≤ k
  | 0 => Nat.le_refl _
  | k + 1 => by
    have := comN_len q base got k
    unfold comN
    split
    · split
      · simp; omega
      · omega
    · omega
theorem comN_mem {q : List GMsg} {base got : Int} {m : GMsg} : ∀ {k}, m ∈ comN q base got k → m ∈ q
  | 0, h => by simp [comN] at h
  | k + 1, h => by
    unfold comN at h
    split at h
    · rename_i x hx
      split at h
      · rcases List.mem_append.1 h with h | h
        · exact comN_mem h
        · rw [List.mem_singleton] at h
          subst h
          exact List.mem_of_getElem? hx
      · exact comN_mem h
    · exact comN_mem h
def zNode : GNode := ⟨0, [], [], [], []⟩
def zHome : GHome := ⟨[], 0, [], false, ⟨0, false⟩, 0, []⟩
def zFrame : GFrame := ⟨0, [], false⟩
def comingOf (w : GWorld) (a b : Nat) : List GMsg :=
  comN ((w.nodes.getD a zNode).out.getD b ⟨0, []⟩).queue ((w.nodes.getD a zNode).out.getD b ⟨0, []⟩).base ((w.nodes.getD b zNode).in_.getD a ⟨0⟩).got ((w.nodes.getD a zNode).out.getD b ⟨0, []⟩).queue.length
theorem comingOf_at {w : GWorld} {a b : Nat} {x y : GNode} {s : GSender} {r : GReceiver} (ha : w.nodes[a]? = some x) (hb : w.nodes[b]? = some y) (hs : x.out[b]? = some s) (hr : y.in_[a]? = some r) : comingOf w a b = comN s.queue s.base r.got s.queue.length := by
  unfold comingOf
  simp only [List.getD_eq_getElem?_getD, ha, hb, hs, hr, Option.getD_some]
def lastL (p : GMsg → Bool) (l : List GMsg) : List Int := match l.reverse.find? p with
  | some m => m.list
  | none => []
theorem lastL_nil (p : GMsg → Bool) : lastL p [] = [] := rfl
theorem lastL_yes {p : GMsg → Bool} {l : List GMsg} {i : Nat} (h : i < l.length) (hp : p l[i] = true) : lastL p (l.take (i + 1)) = l[i].list := by
  unfold lastL
  rw [← List.take_append_getElem h, List.reverse_append, List.reverse_singleton, List.singleton_append, List.find?_cons, hp]
theorem lastL_no {p : GMsg → Bool} {l : List GMsg} {i : Nat} (h : i < l.length) (hp : p l[i] = false) : lastL p (l.take (i + 1)) = lastL p (l.take i) := by
  unfold lastL
  rw [← List.take_append_getElem h, List.reverse_append, List.reverse_singleton, List.singleton_append, List.find?_cons, hp]
theorem lastL_found {p : GMsg → Bool} {l ys : List GMsg} (hy : ys = l.reverse) {i : Nat} (h : i < ys.length) (hall : ∀ j, (hj : j < ys.length) → j < i → p ys[j] = false) (hp : p ys[i] = true) : lastL p l = ys[i].list := by
  subst hy
  have : l.reverse.find? p = some l.reverse[i] := by
    rw [List.find?_eq_some_iff_getElem]
    exact ⟨hp, i, h, rfl, fun j hj => by rw [hall j (by omega) hj]; rfl⟩
  unfold lastL
  rw [this]
theorem lastL_none {p : GMsg → Bool} {l ys : List GMsg} (hy : ys = l.reverse) (hall : ∀ j, (hj : j < ys.length) → p ys[j] = false) : lastL p l = [] := by
  subst hy
  have : l.reverse.find? p = none := by
    rw [List.find?_eq_none]
    intro x hx
    obtain ⟨j, hj, rfl⟩ := List.getElem_of_mem hx
    rw [hall j hj]
    exact Bool.false_ne_true
  unfold lastL
  rw [this]
def lastP (kind page : Int) (m : GMsg) : Bool := decide (m.kind = kind) && decide (m.page = page) && (m.own || decide (kind = 7))
theorem lastL_len {p : GMsg → Bool} {l : List GMsg} {n : Nat} (h : ∀ m ∈ l, m.list.length ≤ n) : (lastL p l).length ≤ n := by
  unfold lastL
  split
  · rename_i m hm
    exact h m (by simpa using List.mem_of_find?_eq_some hm)
  · simp
def truthOf (w : GWorld) (p : Nat) : List Int :=
  let d := p % w.size.toNat
  let h := (w.nodes.getD d zNode).homes.getD p zHome
  if h.owner < 0 then h.list
  else
    let o := h.owner.toNat
    let f := (w.nodes.getD o zNode).frames.getD p zFrame
    if f.state = 2 then f.list
    else if 0 < (lastL (lastP 3 p) (comingOf w d o)).length then lastL (lastP 3 p) (comingOf w d o) else lastL (lastP 7 p) (comingOf w o d)
theorem truthOf_home {w : GWorld} {p d : Nat} {x : GNode} {h : GHome} (hd : d = p % w.size.toNat) (hx : w.nodes[d]? = some x) (hh : x.homes[p]? = some h) (ho : h.owner < 0) : truthOf w p = h.list := by
  unfold truthOf
  simp only [← hd, List.getD_eq_getElem?_getD, hx, hh, Option.getD_some, if_pos ho]
theorem truthOf_frame {w : GWorld} {p d o : Nat} {x y : GNode} {h : GHome} {f : GFrame} (hd : d = p % w.size.toNat) (hx : w.nodes[d]? = some x) (hh : x.homes[p]? = some h) (ho : h.owner = (o : Int)) (hy : w.nodes[o]? = some y) (hf : y.frames[p]? = some f) (h2 : f.state = 2) : truthOf w p = f.list := by
  have hn : ¬ h.owner < 0 := by omega
  have ht : h.owner.toNat = o := by omega
  unfold truthOf
  simp only [← hd, List.getD_eq_getElem?_getD, hx, hh, Option.getD_some, if_neg hn, ht, hy, hf, if_pos h2]
theorem truthOf_data {w : GWorld} {p d o : Nat} {x y : GNode} {h : GHome} {f : GFrame} (hd : d = p % w.size.toNat) (hx : w.nodes[d]? = some x) (hh : x.homes[p]? = some h) (ho : h.owner = (o : Int)) (hy : w.nodes[o]? = some y) (hf : y.frames[p]? = some f) (h2 : ¬ f.state = 2)
    (hl : 0 < (lastL (lastP 3 p) (comingOf w d o)).length) : truthOf w p = lastL (lastP 3 p) (comingOf w d o) := by
  have hn : ¬ h.owner < 0 := by omega
  have ht : h.owner.toNat = o := by omega
  unfold truthOf
  simp only [← hd, List.getD_eq_getElem?_getD, hx, hh, Option.getD_some, if_neg hn, ht, hy, hf, if_neg h2, if_pos hl]
theorem truthOf_back {w : GWorld} {p d o : Nat} {x y : GNode} {h : GHome} {f : GFrame} (hd : d = p % w.size.toNat) (hx : w.nodes[d]? = some x) (hh : x.homes[p]? = some h) (ho : h.owner = (o : Int)) (hy : w.nodes[o]? = some y) (hf : y.frames[p]? = some f) (h2 : ¬ f.state = 2)
    (hl : ¬ 0 < (lastL (lastP 3 p) (comingOf w d o)).length) : truthOf w p = lastL (lastP 7 p) (comingOf w o d) := by
  have hn : ¬ h.owner < 0 := by omega
  have ht : h.owner.toNat = o := by omega
  unfold truthOf
  simp only [← hd, List.getD_eq_getElem?_getD, hx, hh, Option.getD_some, if_neg hn, ht, hy, hf, if_neg h2, if_neg hl]
def truthR (w : GWorld) (page : Int) : List Int := if worldOk w = true ∧ 0 ≤ page ∧ page ≤ 5 then truthOf w page.toNat else []
theorem truthR_no {w : GWorld} {page : Int} (h : ¬ (worldOk w = true ∧ 0 ≤ page ∧ page ≤ 5)) : truthR w page = [] := if_neg h
theorem truthR_yes {w : GWorld} {page : Int} (h : worldOk w = true ∧ 0 ≤ page ∧ page ≤ 5) : truthR w page = truthOf w page.toNat := if_pos h
/-- A list turned round, so far. -/
def RevTo (xs ys : List GMsg) (i : Nat) : Prop := ys.length = xs.length ∧ ∀ k, (h : k < ys.length) → (h2 : k < xs.length) → ys[k] = if k < i ∨ xs.length - 1 - i < k then xs[xs.length - 1 - k]'(by omega) else xs[k]
theorem RevTo.start (xs : List GMsg) : RevTo xs xs 0 := ⟨rfl, fun k h h2 => by rw [if_neg (by omega)]⟩
theorem RevTo.step {xs ys : List GMsg} {i : Nat} (h : RevTo xs ys i) (hi : i < xs.length - 1 - i) (h1 : i < ys.length) (h2 : xs.length - 1 - i < ys.length) : RevTo xs ((ys.set i ys[xs.length - 1 - i]).set (xs.length - 1 - i) ys[i]) (i + 1) := by
  obtain ⟨hl, hk⟩ := h
  refine ⟨by simpa using hl, fun k q1 q2 => ?_⟩
  have e1 := hk i h1 (by omega)
  have e2 := hk (xs.length - 1 - i) h2 (by omega)
  rw [if_neg (by omega)] at e1 e2
  rw [List.getElem_set]
  by_cases c1 : xs.length - 1 - i = k
  · subst c1
    rw [if_pos rfl, if_pos (by omega), e1]
    congr 1
    omega
  · rw [if_neg c1, List.getElem_set]
    by_cases c2 : i = k
    · subst c2
      rw [if_pos rfl, if_pos (by omega), e2]
    · rw [if_neg c2, hk k (by simpa using q1) q2]
      by_cases c3 : k < i ∨ xs.length - 1 - i < k
      · rw [if_pos c3, if_pos (by omega)]
      · rw [if_neg c3, if_neg (by omega)]
theorem RevTo.fin {xs ys : List GMsg} {i : Nat} (h : RevTo xs ys i) (hi : ¬ i < xs.length - 1 - i) (hb : i ≤ xs.length) : ys = xs.reverse := by
  obtain ⟨hl, hk⟩ := h
  apply List.ext_getElem
  · simpa using hl
  · intro k q1 q2
    rw [hk k q1 (by omega), List.getElem_reverse]
    split
    · rfl
    · congr 1
      omega
theorem set3 {α : Type} (l : List α) (i j : Nat) (a c d : α) : ((l.set j a).set i c).set j d = (l.set i c).set j d := by
  apply List.ext_getElem
  · simp
  · intro k h1 h2
    simp only [List.getElem_set]
    split
    · rfl
    · rfl
theorem msgOk_len {m : GMsg} (h : msgOk m = true) : m.list.length ≤ 4 := by
  unfold msgOk at h
  rw [Bool.and_eq_true] at h
  have := wordsOk_len h.2
  split at this <;> omega
/-- Nodes of a world that is right. -/
theorem world_node {w : GWorld} (h : worldOk w = true) {i : Nat} (hi : i < w.nodes.length) : nodeOk w.nodes[i] w.size = true ∧ w.nodes[i].id = i := by
  have := nodesAt_at (worldOk_facts h).2 hi
  unfold nodeAt at this
  simpa using this
theorem comingOf_ok {w : GWorld} (h : worldOk w = true) {a b : Nat} (ha : a < w.nodes.length) (hb : b < w.nodes.length) : ∀ m ∈ comingOf w a b, msgOk m = true := by
  obtain ⟨hd, hn⟩ := worldOk_facts h
  obtain ⟨-, n3, -⟩ := worldHd_facts hd
  obtain ⟨-, -, xo, -, -, -, xs, -⟩ := nodeOk_facts (world_node h ha).1
  obtain ⟨-, -, -, yi, -, -, -, -⟩ := nodeOk_facts (world_node h hb).1
  have hbo : b < w.nodes[a].out.length := by omega
  have hai : a < w.nodes[b].in_.length := by omega
  rw [comingOf_at (List.getElem?_eq_getElem ha) (List.getElem?_eq_getElem hb) (List.getElem?_eq_getElem hbo) (List.getElem?_eq_getElem hai)]
  intro m hm
  obtain ⟨-, -, sm⟩ := senderOk_facts (xs b hbo)
  obtain ⟨j, hj, rfl⟩ := List.getElem_of_mem (comN_mem hm)
  exact sm j hj
theorem comingOf_len {w : GWorld} (h : worldOk w = true) {a b : Nat} (ha : a < w.nodes.length) (hb : b < w.nodes.length) : (comingOf w a b).length ≤ 30 := by
  obtain ⟨hd, hn⟩ := worldOk_facts h
  obtain ⟨-, n3, -⟩ := worldHd_facts hd
  obtain ⟨-, -, xo, -, -, -, xs, -⟩ := nodeOk_facts (world_node h ha).1
  obtain ⟨-, -, -, yi, -, -, -, -⟩ := nodeOk_facts (world_node h hb).1
  have hbo : b < w.nodes[a].out.length := by omega
  have hai : a < w.nodes[b].in_.length := by omega
  rw [comingOf_at (List.getElem?_eq_getElem ha) (List.getElem?_eq_getElem hb) (List.getElem?_eq_getElem hbo) (List.getElem?_eq_getElem hai)]
  obtain ⟨-, sq, -⟩ := senderOk_facts (xs b hbo)
  exact Nat.le_trans (comN_len _ _ _ _) sq
theorem lastL_four {k p : Int} {l : List GMsg} (hk : k = 3 ∨ k = 7) (h : ∀ m ∈ l, msgOk m = true) : (lastL (lastP k p) l).length = 0 ∨ (lastL (lastP k p) l).length = 4 := by
  unfold lastL
  split
  · rename_i m hm
    right
    refine msgOk_list (h m (by simpa using List.mem_of_find?_eq_some hm)) ?_
    have hp := List.find?_some hm
    unfold lastP at hp
    simp only [Bool.and_eq_true, decide_eq_true_eq] at hp
    rw [hp.1.1]
    exact hk
  · exact Or.inl rfl
theorem frameOk_two {f : GFrame} (h : frameOk f = true) (h2 : f.state = 2) : f.list.length = 4 := by
  unfold frameOk at h
  rw [if_neg (by omega)] at h
  rw [Bool.and_eq_true] at h
  have := wordsOk_len h.2
  omega
/-- A page's home, its owner. -/
theorem truth_places {w : GWorld} (h : worldOk w = true) {p : Nat} (hp : p < 6) : ∃ n d : Nat, w.size = (n : Int) ∧ w.nodes.length = n ∧ 1 ≤ n ∧ n ≤ 4 ∧ d = p % w.size.toNat ∧ d = p % n ∧ d < n ∧
    ∃ hd : d < w.nodes.length, ∃ hh : p < w.nodes[d].homes.length, homeOk w.nodes[d].homes[p] w.size = true := by
  obtain ⟨⟨n1, n2⟩, n3, -⟩ := worldHd_facts (worldOk_facts h).1
  have hdn : p % w.nodes.length < w.nodes.length := Nat.mod_lt _ (by omega)
  obtain ⟨-, xh, -, -, -, hk, -, -⟩ := nodeOk_facts (world_node h hdn).1
  have e : w.size.toNat = w.nodes.length := by omega
  exact ⟨w.nodes.length, p % w.nodes.length, by omega, rfl, by omega, by omega, by rw [e], rfl, hdn, hdn, by omega, hk p (by omega)⟩
theorem truthOf_len {w : GWorld} (h : worldOk w = true) {p : Nat} (hp : p < 6) : (truthOf w p).length = 0 ∨ (truthOf w p).length = 4 := by
  obtain ⟨n, d, e1, e2, e3, e4, e5, e6, e7, hd, hh, hk⟩ := truth_places h hp
  obtain ⟨-, k1, k2, -⟩ := homeOk_facts hk
  by_cases ho : w.nodes[d].homes[p].owner < 0
  · rw [truthOf_home e5 (List.getElem?_eq_getElem hd) (List.getElem?_eq_getElem hh) ho]
    exact Or.inr k1
  · obtain ⟨o, ho'⟩ : ∃ o : Nat, w.nodes[d].homes[p].owner = (o : Int) := ⟨w.nodes[d].homes[p].owner.toNat, by omega⟩
    have hol : o < w.nodes.length := by omega
    obtain ⟨yf, -, -, -, yk, -, -, -⟩ := nodeOk_facts (world_node h hol).1
    have hf : p < w.nodes[o].frames.length := by omega
    by_cases h2 : w.nodes[o].frames[p].state = 2
    · rw [truthOf_frame e5 (List.getElem?_eq_getElem hd) (List.getElem?_eq_getElem hh) ho' (List.getElem?_eq_getElem hol) (List.getElem?_eq_getElem hf) h2]
      exact Or.inr (frameOk_two (yk p hf) h2)
    · by_cases hl : 0 < (lastL (lastP 3 p) (comingOf w d o)).length
      · rw [truthOf_data e5 (List.getElem?_eq_getElem hd) (List.getElem?_eq_getElem hh) ho' (List.getElem?_eq_getElem hol) (List.getElem?_eq_getElem hf) h2 hl]
        exact lastL_four (Or.inl rfl) (comingOf_ok h hd hol)
      · rw [truthOf_back e5 (List.getElem?_eq_getElem hd) (List.getElem?_eq_getElem hh) ho' (List.getElem?_eq_getElem hol) (List.getElem?_eq_getElem hf) h2 hl]
        exact lastL_four (Or.inr rfl) (comingOf_ok h hol hd)
theorem truthR_len (w : GWorld) (page : Int) : (truthR w page).length = 0 ∨ (truthR w page).length = 4 := by
  unfold truthR
  split
  · rename_i h
    exact truthOf_len h.1 (by omega)
  · exact Or.inl rfl
def memN (w : GWorld) : Nat → Option (List Int)
  | 0 => some []
  | k + 1 => match memN w k with
    | some m => if (truthR w k).length = 4 then some (m ++ truthR w k) else none
    | none => none
def memory (w : GWorld) : List Int := (memN w 6).getD []
theorem memN_step {w : GWorld} {k : Nat} {m : List Int} (h : memN w k = some m) (hl : (truthR w k).length = 4) : memN w (k + 1) = some (m ++ truthR w k) := by simp [memN, h, hl]
theorem memN_none {w : GWorld} {k : Nat} {m : List Int} (h : memN w k = some m) (hl : ¬ (truthR w k).length = 4) : ∀ j, memN w (k + 1 + j) = none
  | 0 => by simp [memN, h, hl]
  | j + 1 => by
    show memN w ((k + 1 + j) + 1) = none
    simp only [memN, memN_none h hl j]
theorem memory_none {w : GWorld} {k : Nat} {m : List Int} (h : memN w k = some m) (hl : ¬ (truthR w k).length = 4) (hk : k < 6) : memory w = [] := by
  have := memN_none h hl (5 - k)
  rw [show k + 1 + (5 - k) = 6 from by omega] at this
  unfold memory
  rw [this]
  rfl
theorem memory_some {w : GWorld} {m : List Int} (h : memN w 6 = some m) : memory w = m := by unfold memory; rw [h]; rfl
theorem memN_len {w : GWorld} : ∀ {k : Nat} {m : List Int}, memN w k = some m → m.length = 4 * k
  | 0, m, h => by simp [memN] at h; subst h; rfl
  | k + 1, m, h => by
    simp only [memN] at h
    split at h
    · rename_i m' hm
      split at h
      · rename_i hl
        simp only [Option.some.injEq] at h
        subst h
        have := memN_len hm
        simp only [List.length_append]
        omega
      · cases h
    · cases h
theorem memory_len (w : GWorld) : (memory w).length ≤ 24 := by
  unfold memory
  cases h : memN w 6 with
  | none => simp
  | some m => have := memN_len h; simp only [Option.getD_some]; omega
end Go.Tw
/- Plain functions: a flock that is right. -/
namespace Go.Tw
def coreAt (f : GFlock) (i : Nat) (c : GCore) : Bool := nodeOk (f.world.nodes.getD i zNode) f.world.size && (hartOk c.hart && cacheOk c.cache (f.world.nodes.getD i zNode).frames)
def flockHd (f : GFlock) : Bool := worldOk f.world && decide ((f.cores.length : Int) = f.world.size)
def flockOk (f : GFlock) : Bool := flockHd f && (List.range f.cores.length).all fun i => match f.cores[i]? with
  | some c => coreAt f i c
  | none => true
theorem flockOk_hd {f : GFlock} (h : flockHd f = false) : flockOk f = false := by unfold flockOk; rw [h]; rfl
theorem flockHd_facts {f : GFlock} (h : flockHd f = true) : worldOk f.world = true ∧ (f.cores.length : Int) = f.world.size ∧ f.cores.length = f.world.nodes.length := by
  unfold flockHd at h
  simp only [Bool.and_eq_true, decide_eq_true_eq] at h
  have := (worldHd_facts (worldOk_facts h.1).1).2.1
  exact ⟨h.1, h.2, by omega⟩
theorem flockOk_bad {f : GFlock} {i : Nat} (h : i < f.cores.length) (hb : coreAt f i f.cores[i] = false) : flockOk f = false := by
  have : ((List.range f.cores.length).all fun i => match f.cores[i]? with | some c => coreAt f i c | none => true) = false := by
    rw [List.all_eq_false]
    exact ⟨i, by simpa using h, by simp [h, hb]⟩
  unfold flockOk
  rw [this, Bool.and_false]
theorem flockOk_good {f : GFlock} (hh : flockHd f = true) (h : ∀ j, (hj : j < f.cores.length) → coreAt f j f.cores[j] = true) : flockOk f = true := by
  have : ((List.range f.cores.length).all fun i => match f.cores[i]? with | some c => coreAt f i c | none => true) = true := by
    rw [List.all_eq_true]
    intro j hj
    have hj : j < f.cores.length := by simpa using hj
    simp [hj, h j hj]
  unfold flockOk
  rw [hh, this]
  rfl
theorem coreAt_at {f : GFlock} {i : Nat} {c : GCore} {x : GNode} (h : i < f.world.nodes.length) (hx : f.world.nodes[i] = x) : coreAt f i c = (nodeOk x f.world.size && (hartOk c.hart && cacheOk c.cache x.frames)) := by
  unfold coreAt
  simp [h, hx]
end Go.Tw
/- New harts; what is picked. -/
namespace Go.Tw
def hartNew (pc : Int) : GHart := ⟨[0, 0, 0, 0], addr pc, 0⟩
theorem pick_mem {xs : List Int} {x : Int} (h : 0 ≤ x ∧ (x < xs.length ∨ (xs.length : Int) ≤ 0 ∧ x = 0)) (hl : 0 < xs.length) : xs[x.toNat]?.getD 0 ∈ xs := by
  have : x.toNat < xs.length := by omega
  rw [List.getElem?_eq_getElem this]
  exact List.getElem_mem this
end Go.Tw
/- What a step of a hart is: its word, its registers, its place. -/
namespace Go.Tw
theorem isW_iff (x : Int) : isW x = true ↔ 0 ≤ x ∧ x ≤ 65535 := inR_iff _ _ _
theorem getD_word {xs : List Int} {n : Int} (h : wordsOk xs n = true) (j : Nat) : 0 ≤ xs.getD j 0 ∧ xs.getD j 0 ≤ 65535 := by
  rw [List.getD_eq_getElem?_getD]
  by_cases hj : j < xs.length
  · rw [List.getElem?_eq_getElem hj]
    exact wordsOk_get h hj
  · rw [List.getElem?_eq_none (by omega)]
    simp
/-- All that a step can be. -/
theorem work_elim {M : GHart × Int → Prop} (h : GHart) (x : GIns) (got : Int) (h0 : M (h, -1)) (hf : hartOk h = true → M (⟨h.regs, h.pc, 2⟩, -1)) (hs : ∀ r v p, hartOk h = true → isW v = true → M (⟨h.regs.set r v, addr p, 0⟩, -1))
    (hj : ∀ p, hartOk h = true → M (⟨h.regs, addr p, 0⟩, -1)) (hst : ∀ v, hartOk h = true → isW v = true → M (⟨h.regs, addr (h.pc + 1), 0⟩, v)) (hsw : ∀ r v u, hartOk h = true → isW v = true → isW u = true → M (⟨h.regs.set r v, addr (h.pc + 1), 0⟩, u))
    (hh : hartOk h = true → M (⟨h.regs, h.pc, 1⟩, -1)) : M (work h x got) := by
  by_cases q : hartOk h = true ∧ h.state = 0 ∧ isW got = true
  · by_cases qi : insOk x = true
    · obtain ⟨qw, ql, -, -⟩ := hart_facts q.1
      have hb := (isW_iff _).2 (getD_word qw x.b.toNat)
      have qn : isW x.n = true := (isW_iff _).2 (by have := (insOk_range qi).2.2.2.2; omega)
      unfold work
      rw [if_pos q, if_pos qi]
      by_cases e1 : x.op = 1
      · rw [if_pos e1]; exact hs _ _ _ q.1 qn
      rw [if_neg e1]
      by_cases e2 : x.op = 2
      · rw [if_pos e2]; exact hs _ _ _ q.1 (word_isW _)
      rw [if_neg e2]
      by_cases e10 : x.op = 10
      · rw [if_pos e10]; exact hs _ _ _ q.1 (word_isW _)
      rw [if_neg e10]
      by_cases e3 : x.op = 3
      · rw [if_pos e3]; exact hs _ _ _ q.1 (word_isW _)
      rw [if_neg e3]
      by_cases e4 : x.op = 4
      · rw [if_pos e4]; exact hs _ _ _ q.1 q.2.2
      rw [if_neg e4]
      by_cases e5 : x.op = 5
      · rw [if_pos e5]; exact hst _ q.1 hb
      rw [if_neg e5]
      by_cases e6 : x.op = 6
      · rw [if_pos e6]; exact hsw _ _ _ q.1 q.2.2 (word_isW _)
      rw [if_neg e6]
      by_cases e7 : x.op = 7
      · rw [if_pos e7]
        by_cases ez : h.regs.getD x.a.toNat 0 = 0
        · rw [if_pos ez]; exact hj _ q.1
        · rw [if_neg ez]; exact hj _ q.1
      rw [if_neg e7]
      by_cases e8 : x.op = 8
      · rw [if_pos e8]; exact hj _ q.1
      rw [if_neg e8]
      exact hh q.1
    · have : work h x got = (⟨h.regs, h.pc, 2⟩, -1) := by unfold work; rw [if_pos q, if_neg qi]
      rw [this]; exact hf q.1
  · rw [work_no q]; exact h0
theorem work_put2 (h : GHart) (x : GIns) (got : Int) : -1 ≤ (work h x got).2 ∧ (work h x got).2 ≤ 65535 :=
  work_elim (M := fun w => -1 ≤ w.2 ∧ w.2 ≤ 65535) h x got (by simp) (fun _ => by simp) (fun _ _ _ _ _ => by simp) (fun _ _ => by simp) (fun v _ hv => by have := (isW_iff _).1 hv; simp only; omega) (fun _ _ u _ _ hu => by have := (isW_iff _).1 hu; simp only; omega) (fun _ => by simp)
theorem hartOk_mk {r : List Int} {p s : Int} (h1 : wordsOk r 4 = true) (h2 : 0 ≤ p ∧ p ≤ 23) (h3 : 0 ≤ s ∧ s ≤ 2) : hartOk ⟨r, p, s⟩ = true := by
  unfold hartOk
  rw [h1, (inR_iff _ _ _).2 h2, (inR_iff _ _ _).2 h3]
  rfl
theorem work_ok {h : GHart} (x : GIns) (got : Int) (q : hartOk h = true) : hartOk (work h x got).1 = true := by
  obtain ⟨q4, ql, qp, qs⟩ := hart_facts q
  exact work_elim (M := fun w => hartOk w.1 = true) h x got q (fun _ => hartOk_mk q4 qp (by omega)) (fun r v p _ hv => hartOk_mk (wordsOk_set q4 hv) (addr_range _) (by omega)) (fun p _ => hartOk_mk q4 (addr_range _) (by omega)) (fun v _ _ => hartOk_mk q4 (addr_range _) (by omega))
    (fun r v u _ hv _ => hartOk_mk (wordsOk_set q4 hv) (addr_range _) (by omega)) (fun _ => hartOk_mk q4 qp (by omega))
theorem target_in (x : GIns) (regs : List Int) : -1 ≤ target x regs ∧ target x regs < 24 := by
  rcases target_range x regs with h | h <;> omega
theorem work_aim {h : GHart} {x : GIns} {got : Int} (q : 0 ≤ (work h x got).2) : 0 ≤ target x h.regs := by
  obtain ⟨q1, -, -, q4, q5, -⟩ := work_put q
  obtain ⟨-, ql, -, -⟩ := hart_facts q1
  unfold target
  rw [if_pos ⟨q4, by unfold aims; rcases q5 with q | q <;> simp [q], by omega⟩]
  exact (addr_range _).1
theorem hartNew_ok (n : Int) : hartOk (hartNew n) = true := hartOk_mk (by decide) (addr_range n) (by omega)
theorem work_one (h : GHart) (x : GIns) (got : Int) : (work h x got).1.regs = h.regs ∨ ∃ r v, (work h x got).1.regs = h.regs.set r v :=
  work_elim (M := fun w => w.1.regs = h.regs ∨ ∃ r v, w.1.regs = h.regs.set r v) h x got (Or.inl rfl) (fun _ => Or.inl rfl) (fun r v _ _ _ => Or.inr ⟨r, v, rfl⟩) (fun _ _ => Or.inl rfl) (fun _ _ _ => Or.inl rfl) (fun r v _ _ _ _ => Or.inr ⟨r, v, rfl⟩) (fun _ => Or.inl rfl)
/-- How many differ, of the first so many. -/
def diffN (xs ys : List Int) : Nat → Nat
  | 0 => 0
  | i + 1 => diffN xs ys i + if xs.getD i 0 = ys.getD i 0 then 0 else 1
theorem diffN_self (xs : List Int) : ∀ i, diffN xs xs i = 0
  | 0 => rfl
  | i + 1 => by simp [diffN, diffN_self xs i]
theorem diffN_le (xs ys : List Int) : ∀ i, diffN xs ys i ≤ i
  | 0 => Nat.le_refl _
  | i + 1 => by have := diffN_le xs ys i; unfold diffN; split <;> omega
theorem diffN_set (xs : List Int) (r : Nat) (v : Int) : ∀ i, diffN xs (xs.set r v) i ≤ if r < i then 1 else 0
  | 0 => by simp [diffN]
  | i + 1 => by
    have ih := diffN_set xs r v i
    show diffN xs (xs.set r v) i + (if xs.getD i 0 = (xs.set r v).getD i 0 then 0 else 1) ≤ _
    by_cases e : r = i
    · have h0 : diffN xs (xs.set r v) i ≤ 0 := by rwa [if_neg (by omega)] at ih
      have h1 : (if xs.getD i 0 = (xs.set r v).getD i 0 then 0 else 1) ≤ 1 := by split <;> omega
      have h2 : (if r < i + 1 then 1 else 0) = 1 := if_pos (by omega)
      omega
    · have : xs.getD i 0 = (xs.set r v).getD i 0 := by simp [List.getD_eq_getElem?_getD, List.getElem?_set, e]
      rw [if_pos this]
      split at ih
      · rw [if_pos (by omega)]; omega
      · rw [if_neg (by omega)]; omega
theorem diffN_one {xs ys : List Int} (h : ys = xs ∨ ∃ r v, ys = xs.set r v) (i : Nat) : diffN xs ys i ≤ 1 := by
  rcases h with rfl | ⟨r, v, rfl⟩
  · rw [diffN_self]; omega
  · have := diffN_set xs r v i
    split at this <;> omega
end Go.Tw
/- Plain laws of runs on one memory: parts, numbers of no hart, steps that change places. -/
namespace Go.Tw
def runS (mem : List Int) (hs : List GHart) (order : List Int) : Tr := if order.length ≤ 2000 then trN ⟨mem, hs, []⟩ order order.length else ⟨mem, hs, []⟩
def runM (mem : List Int) (hs : List GHart) (order : List Int) : List Int := (runS mem hs order).m
def runH (mem : List Int) (hs : List GHart) (order : List Int) : List GHart := (runS mem hs order).hs
theorem trN_all (s : Tr) (order : List Int) : trN s order order.length = order.foldl trStep s := by unfold trN; rw [List.take_length]
theorem runS_small {mem : List Int} {hs : List GHart} {order : List Int} (h : order.length ≤ 2000) : runS mem hs order = order.foldl trStep ⟨mem, hs, []⟩ := by
  unfold runS; rw [if_pos h, trN_all]
theorem trace_runS (mem : List Int) (hs : List GHart) (order : List Int) : trace mem hs order = (runS mem hs order).evs := by
  unfold trace runS; split <;> rfl
/-- What was done is only told. -/
theorem trStep_evs2 (m : List Int) (hs : List GHart) (e : List GEvent) (i : Int) : trStep ⟨m, hs, e⟩ i = ⟨(trStep ⟨m, hs, []⟩ i).m, (trStep ⟨m, hs, []⟩ i).hs, e ++ (trStep ⟨m, hs, []⟩ i).evs⟩ := by
  unfold trStep
  have : trGo ⟨m, hs, e⟩ i = trGo ⟨m, hs, []⟩ i := rfl
  rw [this]
  split
  · simp
  · simp
theorem fold_evs : ∀ (order : List Int) (m : List Int) (hs : List GHart) (e : List GEvent), order.foldl trStep ⟨m, hs, e⟩ = ⟨(order.foldl trStep ⟨m, hs, []⟩).m, (order.foldl trStep ⟨m, hs, []⟩).hs, e ++ (order.foldl trStep ⟨m, hs, []⟩).evs⟩
  | [], m, hs, e => by simp
  | i :: order, m, hs, e => by
    rw [List.foldl_cons, List.foldl_cons, trStep_evs2, fold_evs order _ _ (e ++ _)]
    have := fold_evs order (trStep ⟨m, hs, []⟩ i).m (trStep ⟨m, hs, []⟩ i).hs (trStep ⟨m, hs, []⟩ i).evs
    have e1 : (⟨(trStep ⟨m, hs, []⟩ i).m, (trStep ⟨m, hs, []⟩ i).hs, (trStep ⟨m, hs, []⟩ i).evs⟩ : Tr) = trStep ⟨m, hs, []⟩ i := rfl
    rw [e1] at this
    rw [this]
    simp
theorem runS_append {mem : List Int} {hs : List GHart} {a b : List Int} (h : (a ++ b).length ≤ 2000) :
    runS mem hs (a ++ b) = ⟨runM (runM mem hs a) (runH mem hs a) b, runH (runM mem hs a) (runH mem hs a) b, trace mem hs a ++ trace (runM mem hs a) (runH mem hs a) b⟩ := by
  simp only [List.length_append] at h
  simp only [trace_runS, runM, runH]
  rw [runS_small (by simpa using h), runS_small (order := a) (by omega), runS_small (order := b) (by omega), List.foldl_append]
  have e1 : (⟨(a.foldl trStep ⟨mem, hs, []⟩).m, (a.foldl trStep ⟨mem, hs, []⟩).hs, (a.foldl trStep ⟨mem, hs, []⟩).evs⟩ : Tr) = a.foldl trStep ⟨mem, hs, []⟩ := rfl
  rw [← e1, fold_evs b]
theorem trace_parts {mem : List Int} {hs : List GHart} {order : List Int} (h : order.length ≤ 2000) (k : Nat) :
    trace mem hs (order.take k) ++ trace (runM mem hs (order.take k)) (runH mem hs (order.take k)) (order.drop k) = trace mem hs order := by
  have := runS_append (mem := mem) (hs := hs) (a := order.take k) (b := order.drop k) (by rw [List.take_append_drop]; exact h)
  rw [List.take_append_drop] at this
  rw [trace_runS mem hs order, this]
theorem trStep_len (s : Tr) (i : Int) : (trStep s i).hs.length = s.hs.length := by unfold trStep; split <;> simp
theorem fold_len : ∀ (order : List Int) (s : Tr), (order.foldl trStep s).hs.length = s.hs.length
  | [], _ => rfl
  | i :: order, s => by rw [List.foldl_cons, fold_len order, trStep_len]
theorem runH_len (mem : List Int) (hs : List GHart) (order : List Int) : (runH mem hs order).length = hs.length := by
  unfold runH runS
  split
  · rw [trN_all, fold_len]
  · rfl
theorem trStep_mlen (s : Tr) (i : Int) : (trStep s i).m.length = s.m.length := by unfold trStep; split; exact stepM_len _ _; rfl
theorem fold_mlen : ∀ (order : List Int) (s : Tr), (order.foldl trStep s).m.length = s.m.length
  | [], _ => rfl
  | i :: order, s => by rw [List.foldl_cons, fold_mlen order, trStep_mlen]
theorem runM_len (mem : List Int) (hs : List GHart) (order : List Int) : (runM mem hs order).length = mem.length := by
  unfold runM runS
  split
  · rw [trN_all, fold_mlen]
  · rfl
theorem trStep_regs {s : Tr} {n : Nat} (h : ∀ a ∈ s.hs, a.regs.length ≤ n) (i : Int) : ∀ a ∈ (trStep s i).hs, a.regs.length ≤ n := by
  unfold trStep
  split
  · rename_i hg
    intro a ha
    rcases List.mem_or_eq_of_mem_set ha with ha | rfl
    · exact h a ha
    · unfold trGo at hg
      simp only [Bool.and_eq_true, decide_eq_true_eq] at hg
      have hlt : i.toNat < s.hs.length := by omega
      refine work_small _ _ ?_
      rw [List.getD_eq_getElem?_getD, List.getElem?_eq_getElem hlt]
      exact h _ (List.getElem_mem hlt)
  · exact h
theorem fold_regs {n : Nat} : ∀ (order : List Int) (s : Tr), (∀ a ∈ s.hs, a.regs.length ≤ n) → ∀ a ∈ (order.foldl trStep s).hs, a.regs.length ≤ n
  | [], _, h => h
  | i :: order, s, h => by rw [List.foldl_cons]; exact fold_regs order _ (trStep_regs h i)
theorem runH_regs {mem : List Int} {hs : List GHart} {n : Nat} (h : ∀ a ∈ hs, a.regs.length ≤ n) (order : List Int) : ∀ a ∈ runH mem hs order, a.regs.length ≤ n := by
  unfold runH runS
  split
  · rw [trN_all]; exact fold_regs order _ h
  · exact h
/-- A hart whose number does not come stays as it is. -/
theorem trStep_other {s : Tr} {i : Int} {j : Nat} (h : i ≠ (j : Int)) : (trStep s i).hs[j]? = s.hs[j]? := by
  unfold trStep
  split
  · rename_i hg
    unfold trGo at hg
    simp only [Bool.and_eq_true, decide_eq_true_eq] at hg
    rw [List.getElem?_set_ne (by omega)]
  · rfl
theorem fold_other {j : Nat} : ∀ (order : List Int) (s : Tr), (∀ i ∈ order, i ≠ (j : Int)) → (order.foldl trStep s).hs[j]? = s.hs[j]?
  | [], _, _ => rfl
  | i :: order, s, h => by
    rw [List.foldl_cons, fold_other order _ fun x hx => h x (by simp [hx]), trStep_other (h i (by simp))]
theorem runH_other {mem : List Int} {hs : List GHart} {order : List Int} {j : Nat} (h : (j : Int) ∉ order) : (runH mem hs order)[j]? = hs[j]? := by
  unfold runH runS
  split
  · rw [trN_all]; exact fold_other order _ fun i hi e => h (e ▸ hi)
  · rfl
/-- Numbers of no hart. -/
def moreN (p : Nat → Bool) (v : Nat → Int) (order : List Int) : Nat → List Int
  | 0 => []
  | i + 1 => moreN p v order i ++ order.getD i 0 :: (if p i then [v i, -1] else [])
theorem moreN_len (p : Nat → Bool) (v : Nat → Int) (order : List Int) : ∀ i, (moreN p v order i).length ≤ 3 * i
  | 0 => by simp [moreN]
  | i + 1 => by
    have := moreN_len p v order i
    unfold moreN
    split <;> simp <;> omega
theorem trStep_nobody {s : Tr} {i : Int} (h : i < 0 ∨ (s.hs.length : Int) ≤ i) : trStep s i = s := by
  refine trStep_no ?_
  unfold trGo
  rcases h with h | h
  · simp; omega
  · have : ¬ i < (s.hs.length : Int) := by omega
    simp [this]
theorem fold_moreN {p : Nat → Bool} {v : Nat → Int} {order : List Int} {s : Tr} (hv : ∀ i, (s.hs.length : Int) ≤ v i) : ∀ i, i ≤ order.length → (moreN p v order i).foldl trStep s = (order.take i).foldl trStep s
  | 0, _ => by simp [moreN]
  | i + 1, hi => by
    have ih := fold_moreN (p := p) (order := order) hv i (by omega)
    have hio : i < order.length := by omega
    have hd : order.getD i 0 = order[i] := by rw [List.getD_eq_getElem?_getD, List.getElem?_eq_getElem hio]; rfl
    have hm : moreN p v order (i + 1) = moreN p v order i ++ order[i] :: (if p i then [v i, -1] else []) := by rw [← hd]; rfl
    rw [← List.take_append_getElem hio, List.foldl_append, ← ih, hm, List.foldl_append]
    split
    · simp only [List.foldl_cons, List.foldl_nil]
      rw [trStep_nobody (i := v i), trStep_nobody (i := -1) (Or.inl (by omega))]
      right
      rw [trStep_len, fold_len]
      exact hv i
    · rfl
theorem run_nobody {mem : List Int} {hs : List GHart} {order : List Int} {p : Nat → Bool} {v : Nat → Int} (hv : ∀ i, (hs.length : Int) ≤ v i) (hl : order.length ≤ 600) : runS mem hs (moreN p v order order.length) = runS mem hs order := by
  have := moreN_len p v order order.length
  rw [runS_small (by omega), runS_small (by omega), fold_moreN hv order.length (Nat.le_refl _), List.take_length]
/-- A step turns one word at most. -/
theorem diffN_flat (mem : List Int) (h : GHart) (i : Nat) : diffN mem (flatM mem h) i ≤ 1 := by
  refine diffN_one ?_ i
  unfold flatM stepM
  split
  · split
    · exact Or.inr ⟨_, _, rfl⟩
    · exact Or.inl rfl
  · exact Or.inl rfl
theorem flat_stays {mem : List Int} {h : GHart} (q : h.state ≠ 0) : flatM mem h = mem ∧ flatH mem h = h := by
  refine flat_no ?_
  cases he : evOk mem h with
  | false => rfl
  | true => exact absurd ((evOk_iff mem h).1 he).2.2 q
theorem flatH_ok {mem : List Int} {h : GHart} (q : hartOk h = true) : hartOk (flatH mem h) = true := by
  unfold flatH stepH
  split
  · exact work_ok _ _ q
  · exact q
theorem flat_regs (mem : List Int) (h : GHart) : (flatH mem h).regs.length = h.regs.length := by
  unfold flatH stepH
  split
  · exact work_regs _ _ _
  · rfl
end Go.Tw
/- Plain laws: what is apart may change places. -/
namespace Go.Tw
def meetsB (a b : List Int) : Bool := a.any fun x => b.contains x
def apartE (a b : GEvent) : Bool := decide (a.who ≠ b.who) && !(meetsB (writesOf a) (readsOf b)) && !(meetsB (writesOf b) (readsOf a)) && !(meetsB (writesOf a) (writesOf b))
theorem meetsB_false {a b : List Int} : meetsB a b = false ↔ ∀ x ∈ a, x ∉ b := by
  unfold meetsB
  rw [List.any_eq_false]
  simp
theorem meetsB_comm (a b : List Int) : meetsB a b = meetsB b a := by
  rw [Bool.eq_iff_iff]
  unfold meetsB
  simp only [List.any_eq_true, List.contains_iff_mem]
  exact ⟨fun ⟨x, h1, h2⟩ => ⟨x, h2, h1⟩, fun ⟨x, h1, h2⟩ => ⟨x, h2, h1⟩⟩
theorem meetsB_append (a b c : List Int) : meetsB a (b ++ c) = (meetsB a b || meetsB a c) := by
  rw [Bool.eq_iff_iff]
  unfold meetsB
  simp only [List.any_eq_true, List.contains_iff_mem, List.mem_append, Bool.or_eq_true]
  constructor
  · rintro ⟨x, h1, h2 | h2⟩
    · exact Or.inl ⟨x, h1, h2⟩
    · exact Or.inr ⟨x, h1, h2⟩
  · rintro (⟨x, h1, h2⟩ | ⟨x, h1, h2⟩)
    · exact ⟨x, h1, Or.inl h2⟩
    · exact ⟨x, h1, Or.inr h2⟩
theorem apartE_comm (a b : GEvent) : apartE a b = apartE b a := by
  unfold apartE
  rw [meetsB_comm (writesOf b) (writesOf a), show decide (b.who ≠ a.who) = decide (a.who ≠ b.who) from by rw [decide_eq_decide]; exact ⟨fun h e => h e.symm, fun h e => h e.symm⟩]
  generalize decide (a.who ≠ b.who) = p
  generalize meetsB (writesOf a) (readsOf b) = q
  generalize meetsB (writesOf b) (readsOf a) = r
  cases p <;> cases q <;> cases r <;> rfl
theorem work_store {h : GHart} {x : GIns} {g g' : Int} (hx : x.op = 5) (hg : isW g = true) (hg' : isW g' = true) : work h x g = work h x g' := by
  unfold work
  simp [hx, hg, hg']
theorem getD_isW {m : List Int} (h : wordsOk m 24 = true) (j : Nat) : isW (m.getD j 0) = true := (isW_iff _).2 (getD_word h j)
theorem event_put {m : List Int} {h : GHart} {w : Int} (hp : 0 ≤ putAt m h) : (eventOf m h w).put = putAt m h ∧ (eventOf m h w).at_ = tAt m h := by
  obtain ⟨h1, -, -⟩ := put_at hp
  have h1' : ¬ target (decode (m.getD h.pc.toNat 0)) h.regs < 0 := by
    have : tAt m h = target (decode (m.getD h.pc.toNat 0)) h.regs := rfl
    omega
  unfold eventOf
  rw [if_neg h1']
  refine ⟨?_, rfl⟩
  show (work h (decode (m.getD h.pc.toNat 0)) (m.getD (target (decode (m.getD h.pc.toNat 0)) h.regs).toNat 0)).2 = putAt m h
  unfold putAt gAt
  rw [if_pos h1]
  rfl
theorem event_writes (m : List Int) (h : GHart) (w : Int) : (0 ≤ putAt m h → writesOf (eventOf m h w) = [tAt m h]) := by
  intro hp
  obtain ⟨h1, h2⟩ := event_put (w := w) hp
  unfold writesOf
  rw [h1, if_pos hp, h2]
theorem event_who (m : List Int) (h : GHart) (w : Int) : (eventOf m h w).who = w := by unfold eventOf; split <;> rfl
/-- A step that reads the same does the same. -/
theorem step_same {m m' : List Int} {h : GHart} {w : Int} (e : evOk m h = true) (e' : wordsOk m' 24 = true) (hr : ∀ c ∈ readsOf (eventOf m h w), m'.getD c.toNat 0 = m.getD c.toNat 0) :
    stepH m' h = stepH m h ∧ putAt m' h = putAt m h ∧ tAt m' h = tAt m h := by
  obtain ⟨q1, q2, q3⟩ := (evOk_iff m h).1 e
  have hpc : h.pc ∈ readsOf (eventOf m h w) := by
    have hp : (eventOf m h w).pc = h.pc := by unfold eventOf; split <;> rfl
    unfold readsOf
    split <;> simp [hp]
  have hx : xAt m' h = xAt m h := by unfold xAt; rw [hr _ hpc]
  have ht : tAt m' h = tAt m h := by unfold tAt; rw [hx]
  have hw : work h (xAt m' h) (gAt m' h) = work h (xAt m h) (gAt m h) := by
    rw [hx]
    by_cases h0 : 0 ≤ tAt m h
    · have g1 : gAt m h = m.getD (tAt m h).toNat 0 := if_pos h0
      have g2 : gAt m' h = m'.getD (tAt m h).toNat 0 := by unfold gAt; rw [ht, if_pos h0]
      rw [g1, g2]
      by_cases h5 : (xAt m h).op = 5
      · exact work_store h5 (getD_isW e' _) (getD_isW q1 _)
      · have hm : tAt m h ∈ readsOf (eventOf m h w) := by
          have hn : ¬ target (decode (m.getD h.pc.toNat 0)) h.regs < 0 := by
            have : tAt m h = target (decode (m.getD h.pc.toNat 0)) h.regs := rfl
            omega
          have hg := getD_word q1 (tAt m h).toNat
          have hgot : (eventOf m h w).got = m.getD (tAt m h).toNat 0 := by
            unfold eventOf
            rw [if_neg hn]
            exact if_neg h5
          unfold readsOf
          rw [if_pos (by omega)]
          have : (eventOf m h w).at_ = tAt m h := by unfold eventOf; rw [if_neg hn]; rfl
          rw [this]
          simp
        rw [hr _ hm]
    · have g1 : gAt m h = 0 := if_neg h0
      have g2 : gAt m' h = 0 := by unfold gAt; rw [ht, if_neg h0]
      rw [g1, g2]
  exact ⟨by unfold stepH; rw [hw], by unfold putAt; rw [hw], ht⟩
theorem getD_set_ne {m : List Int} {i j : Nat} {v : Int} (h : i ≠ j) : (m.set i v).getD j 0 = m.getD j 0 := by
  rw [List.getD_eq_getElem?_getD, List.getD_eq_getElem?_getD, List.getElem?_set_ne h]
theorem event_reads_pos {m : List Int} {h : GHart} {w : Int} (e : evOk m h = true) {c : Int} (hc : c ∈ readsOf (eventOf m h w)) : 0 ≤ c := by
  obtain ⟨q1, q2, q3⟩ := (evOk_iff m h).1 e
  obtain ⟨-, -, qp, -⟩ := hart_facts q2
  have hpc : (eventOf m h w).pc = h.pc := by unfold eventOf; split <;> rfl
  have hat : (eventOf m h w).at_ = target (decode (m.getD h.pc.toNat 0)) h.regs := by unfold eventOf; split <;> rfl
  unfold readsOf at hc
  split at hc
  · rename_i hg
    simp only [List.mem_cons, List.not_mem_nil, or_false] at hc
    rcases hc with rfl | rfl
    · omega
    · rw [hat]
      unfold eventOf at hg
      split at hg
      · exact absurd (show (0:Int) ≤ -1 from hg) (by decide)
      · omega
  · simp only [List.mem_cons, List.not_mem_nil, or_false] at hc
    subst hc
    omega
/-- Two steps that are apart may change places. -/
theorem two_turn {m : List Int} {ha hb : GHart} {a b : Int} (ea : evOk m ha = true) (eb : evOk (stepM m ha) hb = true) (hap : apartE (eventOf m ha a) (eventOf (stepM m ha) hb b) = true) :
    evOk m hb = true ∧ evOk (stepM m hb) ha = true ∧ stepM (stepM m ha) hb = stepM (stepM m hb) ha ∧ stepH (stepM m ha) hb = stepH m hb ∧ stepH (stepM m hb) ha = stepH m ha := by
  unfold apartE at hap
  simp only [Bool.and_eq_true, Bool.not_eq_true', meetsB_false] at hap
  obtain ⟨⟨⟨-, p1⟩, p2⟩, p3⟩ := hap
  obtain ⟨qm, qa, qa0⟩ := (evOk_iff _ _).1 ea
  obtain ⟨qm1, qb, qb0⟩ := (evOk_iff _ _).1 eb
  have eb' : evOk m hb = true := (evOk_iff _ _).2 ⟨qm, qb, qb0⟩
  have qm2 : wordsOk (stepM m hb) 24 = true := stepM_ok qm
  have ea' : evOk (stepM m hb) ha = true := (evOk_iff _ _).2 ⟨qm2, qa, qa0⟩
  -- the second one's step ahead of the first one's
  have s1 := step_same (m := stepM m ha) (m' := m) (w := b) eb qm (fun c hc => by
    unfold stepM
    split
    · rename_i hp
      have hw := event_writes m ha a hp
      have hn : tAt m ha ≠ c := fun e => p1 (tAt m ha) (by rw [hw]; simp) (e ▸ hc)
      have h0 := (put_at hp).1
      have hc0 := event_reads_pos eb hc
      rw [getD_set_ne (by omega)]
    · rfl)
  obtain ⟨b1, b2, b3⟩ := s1
  have s2 := step_same (m := m) (m' := stepM m hb) (w := a) ea qm2 (fun c hc => by
    unfold stepM
    split
    · rename_i hp
      have hp' : 0 ≤ putAt (stepM m ha) hb := by rw [← b2]; exact hp
      have hw := event_writes (stepM m ha) hb b hp'
      have hn : tAt m hb ≠ c := fun e => p2 (tAt m hb) (by rw [hw, ← b3]; simp) (e ▸ hc)
      have h0 := (put_at hp).1
      have hc0 := event_reads_pos ea hc
      rw [getD_set_ne (by omega)]
    · rfl)
  obtain ⟨a1, a2, a3⟩ := s2
  refine ⟨eb', ea', ?_, b1.symm, a1⟩
  have e1 : stepM (stepM m ha) hb = if 0 ≤ putAt m hb then (stepM m ha).set (tAt m hb).toNat (putAt m hb) else stepM m ha := by
    rw [show stepM (stepM m ha) hb = if 0 ≤ putAt (stepM m ha) hb then (stepM m ha).set (tAt (stepM m ha) hb).toNat (putAt (stepM m ha) hb) else stepM m ha from rfl, ← b2, ← b3]
  have e2 : stepM (stepM m hb) ha = if 0 ≤ putAt m ha then (stepM m hb).set (tAt m ha).toNat (putAt m ha) else stepM m hb := by
    rw [show stepM (stepM m hb) ha = if 0 ≤ putAt (stepM m hb) ha then (stepM m hb).set (tAt (stepM m hb) ha).toNat (putAt (stepM m hb) ha) else stepM m hb from rfl, a2, a3]
  rw [e1, e2]
  by_cases hpa : 0 ≤ putAt m ha
  · by_cases hpb : 0 ≤ putAt m hb
    · rw [if_pos hpa, if_pos hpb, show stepM m ha = m.set (tAt m ha).toNat (putAt m ha) from if_pos hpa, show stepM m hb = m.set (tAt m hb).toNat (putAt m hb) from if_pos hpb]
      have hw1 := event_writes m ha a hpa
      have hw2 := event_writes (stepM m ha) hb b (by rw [← b2]; exact hpb)
      have hne : tAt m ha ≠ tAt m hb := fun e => p3 (tAt m ha) (by rw [hw1]; simp) (by rw [hw2, ← b3, e]; simp)
      have h1 := (put_at hpa).1
      have h2 := (put_at hpb).1
      rw [List.set_comm _ _ (by omega)]
    · rw [if_pos hpa, if_neg hpb, show stepM m ha = m.set (tAt m ha).toNat (putAt m ha) from if_pos hpa, show stepM m hb = m from if_neg hpb]
  · by_cases hpb : 0 ≤ putAt m hb
    · rw [if_neg hpa, if_pos hpb, show stepM m ha = m from if_neg hpa, show stepM m hb = m.set (tAt m hb).toNat (putAt m hb) from if_pos hpb]
    · rw [if_neg hpa, if_neg hpb, show stepM m ha = m from if_neg hpa, show stepM m hb = m from if_neg hpb]
theorem getD_lt {hs : List GHart} {i : Nat} (h : i < hs.length) : hs.getD i z0 = hs[i] := by rw [List.getD_eq_getElem?_getD, List.getElem?_eq_getElem h]; rfl
/-- A run, two of whose numbers change places. -/
theorem run_turn {mem : List Int} {hs : List GHart} {order : List Int} {i : Nat} (hl : order.length ≤ 2000) (hi : i + 1 < order.length) (hin : ∀ x ∈ order, 0 ≤ x ∧ x < hs.length)
    (ea : evOk (runM mem hs (order.take i)) ((runH mem hs (order.take i)).getD (order.getD i 0).toNat z0) = true)
    (eb : evOk (runM mem hs (order.take (i + 1))) ((runH mem hs (order.take (i + 1))).getD (order.getD (i + 1) 0).toNat z0) = true)
    (hap : apartE (eventOf (runM mem hs (order.take i)) ((runH mem hs (order.take i)).getD (order.getD i 0).toNat z0) (order.getD i 0)) (eventOf (runM mem hs (order.take (i + 1))) ((runH mem hs (order.take (i + 1))).getD (order.getD (i + 1) 0).toNat z0) (order.getD (i + 1) 0)) = true) :
    runM mem hs (turnAt order i) = runM mem hs order ∧ runH mem hs (turnAt order i) = runH mem hs order := by
  have hi0 : i < order.length := by omega
  have da : order.getD i 0 = order[i] := by rw [List.getD_eq_getElem?_getD, List.getElem?_eq_getElem hi0]; rfl
  have db : order.getD (i + 1) 0 = order[i + 1] := by rw [List.getD_eq_getElem?_getD, List.getElem?_eq_getElem hi]; rfl
  rw [da] at ea hap
  rw [db] at eb hap
  have hain := hin order[i] (List.getElem_mem _)
  have hbin := hin order[i + 1] (List.getElem_mem _)
  generalize hA : order[i] = a at *
  generalize hB : order[i + 1] = b at *
  have hab : a ≠ b := by
    unfold apartE at hap
    simp only [Bool.and_eq_true, decide_eq_true_eq, event_who] at hap
    exact hap.1.1.1
  have ho : order = order.take i ++ [a, b] ++ order.drop (i + 2) := by
    rw [← hA, ← hB]
    conv => lhs; rw [← List.take_append_drop i order, List.drop_eq_getElem_cons hi0, List.drop_eq_getElem_cons hi]
    simp
  have ht : turnAt order i = order.take i ++ [b, a] ++ order.drop (i + 2) := by
    unfold turnAt
    rw [if_pos (by omega)]
    simp only [Int.toNat_natCast]
    rw [da, db]
    conv => lhs; rw [ho]
    have hti : (order.take i).length = i := by rw [List.length_take]; omega
    rw [List.append_assoc, List.set_append_right _ _ (by omega), List.set_append_right _ _ (by omega)]
    simp [hti]
  have hp : (order.take i).length = i := by rw [List.length_take]; omega
  generalize hP : order.take i = P at *
  generalize hQ : order.drop (i + 2) = Q at *
  have hP1 : order.take (i + 1) = P ++ [a] := by rw [← List.take_append_getElem hi0, hP, hA]
  rw [hP1] at eb hap
  have hlen : P.length + 2 + Q.length ≤ 2000 := by
    have := congrArg List.length ho
    simp at this
    omega
  have hS : ∀ (X : List Int), X.length ≤ 2000 → runS mem hs X = X.foldl trStep ⟨mem, hs, []⟩ := fun X h => runS_small h
  generalize hs0 : P.foldl trStep ⟨mem, hs, []⟩ = s at *
  have eP : runS mem hs P = s := by rw [hS P (by omega), hs0]
  have ePa : runS mem hs (P ++ [a]) = trStep s a := by rw [hS _ (by simp; omega), List.foldl_append, hs0]; rfl
  have hsl : s.hs.length = hs.length := by rw [← hs0, fold_len]
  unfold runM runH at ea eb hap
  rw [eP] at ea
  rw [ePa] at eb
  rw [eP, ePa] at hap
  have hA1 : a.toNat < s.hs.length := by omega
  have hB1 : b.toNat < s.hs.length := by omega
  rw [getD_lt hA1] at ea hap
  have st : trStep s a = ⟨stepM s.m s.hs[a.toNat], s.hs.set a.toNat (stepH s.m s.hs[a.toNat]), s.evs ++ [eventOf s.m s.hs[a.toNat] a]⟩ := trStep_at hain.1 hA1 rfl ea
  have hneq : a.toNat ≠ b.toNat := by omega
  have hbget : (trStep s a).hs.getD b.toNat z0 = s.hs[b.toNat] := by
    rw [st]
    simp only
    rw [List.getD_eq_getElem?_getD, List.getElem?_set_ne hneq, List.getElem?_eq_getElem hB1]
    rfl
  have hm1 : (trStep s a).m = stepM s.m s.hs[a.toNat] := by rw [st]
  rw [hbget, hm1] at eb hap
  obtain ⟨c1, c2, c3, c4, c5⟩ := two_turn ea eb hap
  have st2 : trStep (trStep s a) b = ⟨stepM (stepM s.m s.hs[a.toNat]) s.hs[b.toNat], (s.hs.set a.toNat (stepH s.m s.hs[a.toNat])).set b.toNat (stepH (stepM s.m s.hs[a.toNat]) s.hs[b.toNat]), (trStep s a).evs ++ [eventOf (stepM s.m s.hs[a.toNat]) s.hs[b.toNat] b]⟩ := by
    have := trStep_at (s := trStep s a) (i := b) (h := s.hs[b.toNat]) hbin.1 (by rw [trStep_len]; exact hB1) (by simp only [st]; rw [List.getElem_set_ne hneq]) (by rw [hm1]; exact eb)
    rw [this, hm1]
    congr 1
    rw [st]
  have su : trStep s b = ⟨stepM s.m s.hs[b.toNat], s.hs.set b.toNat (stepH s.m s.hs[b.toNat]), s.evs ++ [eventOf s.m s.hs[b.toNat] b]⟩ := trStep_at hbin.1 hB1 rfl c1
  have hm2 : (trStep s b).m = stepM s.m s.hs[b.toNat] := by rw [su]
  have su2 : trStep (trStep s b) a = ⟨stepM (stepM s.m s.hs[b.toNat]) s.hs[a.toNat], (s.hs.set b.toNat (stepH s.m s.hs[b.toNat])).set a.toNat (stepH (stepM s.m s.hs[b.toNat]) s.hs[a.toNat]), (trStep s b).evs ++ [eventOf (stepM s.m s.hs[b.toNat]) s.hs[a.toNat] a]⟩ := by
    have := trStep_at (s := trStep s b) (i := a) (h := s.hs[a.toNat]) hain.1 (by rw [trStep_len]; exact hA1) (by simp only [su]; rw [List.getElem_set_ne (Ne.symm hneq)]) (by rw [hm2]; exact c2)
    rw [this, hm2]
    congr 1
    rw [su]
  have f1 : order.foldl trStep ⟨mem, hs, []⟩ = Q.foldl trStep (trStep (trStep s a) b) := by
    rw [ho, List.foldl_append, List.foldl_append, hs0]; rfl
  have f2 : (turnAt order i).foldl trStep ⟨mem, hs, []⟩ = Q.foldl trStep (trStep (trStep s b) a) := by
    rw [ht, List.foldl_append, List.foldl_append, hs0]; rfl
  have e3 : (trStep (trStep s a) b).m = (trStep (trStep s b) a).m := by rw [st2, su2]; exact c3
  have e4 : (trStep (trStep s a) b).hs = (trStep (trStep s b) a).hs := by
    rw [st2, su2]
    simp only
    rw [c4, c5, List.set_comm _ _ hneq]
  have key : ∀ (X Y : Tr), X.m = Y.m → X.hs = Y.hs → (Q.foldl trStep X).m = (Q.foldl trStep Y).m ∧ (Q.foldl trStep X).hs = (Q.foldl trStep Y).hs := by
    intro X Y h1 h2
    obtain ⟨xm, xh, xe⟩ := X
    obtain ⟨ym, yh, ye⟩ := Y
    simp only at h1 h2
    subst h1 h2
    rw [fold_evs Q xm xh xe, fold_evs Q xm xh ye]
    exact ⟨rfl, rfl⟩
  have hlt : (turnAt order i).length ≤ 2000 := by rw [ht]; simp; omega
  obtain ⟨k1, k2⟩ := key _ _ e3 e4
  unfold runM runH
  rw [hS order (by omega), hS _ hlt, f1, f2]
  exact ⟨k1.symm, k2.symm⟩
theorem turnAt_turnAt (xs : List Int) (i : Int) : turnAt (turnAt xs i) i = xs := by
  unfold turnAt
  by_cases h : 0 ≤ i ∧ i < (xs.length : Int) - 1
  · have h' : 0 ≤ i ∧ i < (((xs.set i.toNat (xs.getD (i.toNat + 1) 0)).set (i.toNat + 1) (xs.getD i.toNat 0)).length : Int) - 1 := by simp; omega
    rw [if_pos h, if_pos h']
    have h1 : i.toNat < xs.length := by omega
    have h2 : i.toNat + 1 < xs.length := by omega
    apply List.ext_getElem?
    intro j
    simp only [List.getD_eq_getElem?_getD, List.getElem?_set]
    by_cases e1 : i.toNat + 1 = j
    · subst e1; simp [h1, h2]
    · by_cases e2 : i.toNat = j
      · subst e2; simp [h1, h2]
      · simp [e1, e2]
  · rw [if_neg h, if_neg h]
end Go.Tw
/- Plain functions: an Ins as a word. -/
namespace Go.Tw
def codeOf (x : GIns) : Int := if insOk x = true then x.op + 16 * x.r + 64 * x.a + 256 * x.b + 1024 * x.n else 0
theorem code_wrap {x : GIns} (q : insOk x = true) : IntKind.wrap .i64 (IntKind.wrap .i64 (IntKind.wrap .i64 (IntKind.wrap .i64 (x.op + IntKind.wrap .i64 (16 * x.r)) + IntKind.wrap .i64 (64 * x.a)) + IntKind.wrap .i64 (256 * x.b)) + IntKind.wrap .i64 (1024 * x.n)) = codeOf x := by
  obtain ⟨h0, h1, h2, h3, h4⟩ := insOk_range q
  unfold codeOf
  rw [if_pos q, wrap_ok (n := 16 * x.r) (by omega) (by omega), wrap_ok (n := 64 * x.a) (by omega) (by omega), wrap_ok (n := 256 * x.b) (by omega) (by omega), wrap_ok (n := 1024 * x.n) (by omega) (by omega),
    wrap_ok (n := x.op + 16 * x.r) (by omega) (by omega), wrap_ok (n := x.op + 16 * x.r + 64 * x.a) (by omega) (by omega), wrap_ok (n := x.op + 16 * x.r + 64 * x.a + 256 * x.b) (by omega) (by omega), wrap_ok (by omega) (by omega)]
end Go.Tw
/- Plain functions: runs, what a drawn number's byte is. -/
namespace Go.Tw
theorem runS_no {mem : List Int} {hs : List GHart} {order : List Int} (h : 2000 < order.length ∨ wordsOk mem 24 = false) : runM mem hs order = mem ∧ runH mem hs order = hs := by
  unfold runM runH runS
  split
  · rcases h with h | h
    · omega
    · rw [trN_none h]; exact ⟨rfl, rfl⟩
  · exact ⟨rfl, rfl⟩
theorem run_end {mem : List Int} {hs : List GHart} {order : List Int} {n : Nat} {s : Tr} (qo : order.length ≤ 2000) (hs' : s = trN ⟨mem, hs, []⟩ order n) (hn : n = order.length) : runM mem hs order = s.m ∧ runH mem hs order = s.hs := by
  unfold runM runH runS
  rw [if_pos qo, hs', hn]
  exact ⟨rfl, rfl⟩
theorem trStep_flat {s : Tr} {i : Int} {h : GHart} (h0 : 0 ≤ i) (h2 : i.toNat < s.hs.length) (hh : s.hs[i.toNat] = h) : (trStep s i).m = flatM s.m h ∧ (trStep s i).hs = s.hs.set i.toNat (flatH s.m h) := by
  cases he : evOk s.m h with
  | true =>
    rw [trStep_at h0 h2 hh he, (flat_yes he).1, (flat_yes he).2]
    exact ⟨rfl, rfl⟩
  | false =>
    rw [trStep_not h2 hh he, (flat_no he).1, (flat_no he).2, ← hh]
    exact ⟨rfl, (List.set_getElem_self h2).symm⟩
/-- A byte of the input, or a number in its place. -/
def atC (code : List Int) (i : Int) : Int := if i < code.length then code.getD i.toNat 0 else (i * 7 + code.length) % 256
theorem atC_range {code : List Int} (hu : ∀ a ∈ code, 0 ≤ a ∧ a ≤ 255) (i : Int) : 0 ≤ atC code i ∧ atC code i ≤ 255 := by
  unfold atC
  split
  · rw [List.getD_eq_getElem?_getD]
    by_cases h : i.toNat < code.length
    · rw [List.getElem?_eq_getElem h]; exact hu _ (List.getElem_mem h)
    · rw [List.getElem?_eq_none (by omega)]; simp
  · omega
theorem moreN_yes {p : Nat → Bool} {v : Nat → Int} {order : List Int} {i : Nat} (hlt : i < order.length) (h : p i = true) : moreN p v order (i + 1) = moreN p v order i ++ [order[i]] ++ [v i, -1] := by
  show moreN p v order i ++ order.getD i 0 :: (if p i then [v i, -1] else []) = _
  rw [h, List.getD_eq_getElem?_getD, List.getElem?_eq_getElem hlt]; simp
theorem moreN_no {p : Nat → Bool} {v : Nat → Int} {order : List Int} {i : Nat} (hlt : i < order.length) (h : p i = false) : moreN p v order (i + 1) = moreN p v order i ++ [order[i]] := by
  show moreN p v order i ++ order.getD i 0 :: (if p i then [v i, -1] else []) = _
  rw [h, List.getD_eq_getElem?_getD, List.getElem?_eq_getElem hlt]; simp
theorem trace_small (mem : List Int) (hs : List GHart) (order : List Int) : (trace mem hs order).length ≤ 17592186043904 := by have := trace_len mem hs order; omega
theorem tmod_nat {a : Int} (h : 0 ≤ a) (n : Nat) : ∃ k : Nat, a.tmod ((n : Int) + 1) = k ∧ k ≤ n := by
  have h1 := Int.emod_nonneg a (show ((n : Int) + 1) ≠ 0 by omega)
  have h2 := Int.emod_lt_of_pos a (show 0 < (n : Int) + 1 by omega)
  exact ⟨(a % ((n : Int) + 1)).toNat, by rw [tmod_pos h]; omega, by omega⟩
def longOf (n : Nat) (least most : Int) : Int := if most < least + (n : Int) / 4 then most else least + (n : Int) / 4
theorem longOf_le (n : Nat) (least most : Int) : longOf n least most ≤ most := by unfold longOf; split <;> omega
end Go.Tw
/- Plain functions: clocks. -/
namespace Go.Tw
def clockWithin (xs ys : List Int) : Bool := decide (xs.length = ys.length) && (List.range xs.length).all fun i => decide (xs.getD i 0 ≤ ys.getD i 0)
theorem clockWithin_iff (xs ys : List Int) : clockWithin xs ys = true ↔ xs.length = ys.length ∧ ∀ i, i < xs.length → xs.getD i 0 ≤ ys.getD i 0 := by
  unfold clockWithin
  simp [List.all_eq_true]
theorem clockWithin_no {xs ys : List Int} (h : xs.length ≠ ys.length) : clockWithin xs ys = false := by
  cases hc : clockWithin xs ys with
  | false => rfl
  | true => exact absurd ((clockWithin_iff _ _).1 hc).1 h
theorem clockWithin_at {xs ys : List Int} {i : Nat} (h1 : i < xs.length) (h2 : i < ys.length) (h : ys[i] < xs[i]) : clockWithin xs ys = false := by
  cases hc : clockWithin xs ys with
  | false => rfl
  | true =>
    have := ((clockWithin_iff _ _).1 hc).2 i h1
    rw [List.getD_eq_getElem?_getD, List.getD_eq_getElem?_getD, List.getElem?_eq_getElem h1, List.getElem?_eq_getElem h2] at this
    simp only [Option.getD_some] at this
    omega
theorem clockWithin_all {xs ys : List Int} (hl : xs.length = ys.length) (h : ∀ i, (h1 : i < xs.length) → (h2 : i < ys.length) → xs[i] ≤ ys[i]) : clockWithin xs ys = true := by
  refine (clockWithin_iff _ _).2 ⟨hl, fun i h1 => ?_⟩
  rw [List.getD_eq_getElem?_getD, List.getD_eq_getElem?_getD, List.getElem?_eq_getElem h1, List.getElem?_eq_getElem (hl ▸ h1)]
  exact h i h1 (hl ▸ h1)
def clockNew (n : Int) : List Int := if 1 ≤ n ∧ n ≤ 8 then List.replicate n.toNat 0 else []
theorem clockNew_len (n : Int) : (clockNew n).length ≤ 8 := by unfold clockNew; split <;> simp; omega
theorem join_get {xs ys : List Int} (hl : xs.length = ys.length) (i : Nat) (h : i < xs.length) : (clockJoin xs ys).getD i 0 = max (xs.getD i 0) (ys.getD i 0) := by
  unfold clockJoin
  rw [if_pos hl, List.getD_eq_getElem?_getD, List.getElem?_map, List.getElem?_range h]
  rfl
theorem join_len {xs ys : List Int} (hl : xs.length = ys.length) : (clockJoin xs ys).length = xs.length := by unfold clockJoin; rw [if_pos hl]; simp
theorem ext_getD {xs ys : List Int} (hl : xs.length = ys.length) (h : ∀ i, i < xs.length → xs.getD i 0 = ys.getD i 0) : xs = ys := by
  refine List.ext_getElem hl fun i h1 h2 => ?_
  have := h i h1
  rwa [List.getD_eq_getElem?_getD, List.getD_eq_getElem?_getD, List.getElem?_eq_getElem h1, List.getElem?_eq_getElem h2] at this
theorem join_comm {xs ys : List Int} (hl : xs.length = ys.length) : clockJoin ys xs = clockJoin xs ys := by
  refine ext_getD (by rw [join_len hl, join_len hl.symm, hl]) fun i h => ?_
  rw [join_len hl.symm] at h
  rw [join_get hl.symm i h, join_get hl i (by omega), Int.max_comm]
theorem join_no {xs ys : List Int} (hl : xs.length ≠ ys.length) : clockJoin xs ys = xs := if_neg hl
theorem within_l {xs ys : List Int} (hl : xs.length = ys.length) : clockWithin xs (clockJoin xs ys) = true := by
  refine (clockWithin_iff _ _).2 ⟨(join_len hl).symm, fun i h => ?_⟩
  rw [join_get hl i h]; omega
theorem within_r {xs ys : List Int} (hl : xs.length = ys.length) : clockWithin ys (clockJoin xs ys) = true := by
  refine (clockWithin_iff _ _).2 ⟨by rw [join_len hl, hl], fun i h => ?_⟩
  rw [join_get hl i (by omega)]; omega
theorem within_eq {xs ys : List Int} (hl : xs.length = ys.length) : clockWithin xs ys = decide (clockJoin xs ys = ys) := by
  rw [Bool.eq_iff_iff, clockWithin_iff, decide_eq_true_eq]
  constructor
  · rintro ⟨-, h⟩
    refine ext_getD (by rw [join_len hl, hl]) fun i hi => ?_
    rw [join_len hl] at hi
    rw [join_get hl i hi]
    have := h i hi
    omega
  · intro e
    refine ⟨hl, fun i hi => ?_⟩
    have := join_get hl i hi
    rw [e] at this
    omega
end Go.Tw
/- Plain functions: what disturbs; what is apart. -/
namespace Go.Tw
def disturbs (a b : GEvent) : Bool := meetsB (writesOf a) (readsOf b ++ writesOf b)
theorem any_eq (x : Int) (ys : List Int) : (ys.any fun y => decide (x = y)) = ys.contains x := by
  rw [Bool.eq_iff_iff]
  simp
theorem disturbs_any (a b : GEvent) : ((writesOf a).any fun x => (readsOf b ++ writesOf b).any fun y => decide (x = y)) = disturbs a b := by
  unfold disturbs meetsB
  congr 1
  funext x
  exact any_eq x _
theorem apart_impl (a b : GEvent) : (decide (a.who ≠ b.who) && !(disturbs a b) && !(disturbs b a)) = apartE a b := by
  unfold apartE disturbs
  rw [meetsB_append, meetsB_append, meetsB_comm (writesOf b) (writesOf a)]
  generalize decide (a.who ≠ b.who) = p
  generalize meetsB (writesOf a) (readsOf b) = q
  generalize meetsB (writesOf b) (readsOf a) = r
  generalize meetsB (writesOf a) (writesOf b) = t
  cases p <;> cases q <;> cases r <;> cases t <;> rfl
theorem meetsB_all {a b : List Int} (h : ∀ i, (h1 : i < a.length) → a[i] ∉ b) : meetsB a b = false := by
  rw [meetsB_false]
  intro x hx
  obtain ⟨i, hi, rfl⟩ := List.getElem_of_mem hx
  exact h i hi
theorem meetsB_at {a b : List Int} {i k : Nat} (h1 : i < a.length) (h2 : k < b.length) (h : a[i] = b[k]) : meetsB a b = true := by
  unfold meetsB
  rw [List.any_eq_true]
  exact ⟨a[i], List.getElem_mem h1, by simp; rw [h]; exact List.getElem_mem h2⟩
theorem writesOf_len (e : GEvent) : (writesOf e).length ≤ 1 := by unfold writesOf; split <;> simp
theorem readsOf_len (e : GEvent) : (readsOf e).length ≤ 2 := by unfold readsOf; split <;> simp
theorem apart_cases (a b : GEvent) : a.who = b.who ∨ (a.who ≠ b.who ∧ meetsB (writesOf a) (readsOf b) = true) ∨ (a.who ≠ b.who ∧ meetsB (writesOf a) (readsOf b) = false ∧ meetsB (writesOf b) (readsOf a) = true) ∨ (a.who ≠ b.who ∧ meetsB (writesOf a) (readsOf b) = false ∧ meetsB (writesOf b) (readsOf a) = false) := by
  by_cases h : a.who = b.who
  · exact Or.inl h
  · cases h1 : meetsB (writesOf a) (readsOf b) with
    | true => exact Or.inr (Or.inl ⟨h, rfl⟩)
    | false =>
      cases h2 : meetsB (writesOf b) (readsOf a) with
      | true => exact Or.inr (Or.inr (Or.inl ⟨h, rfl, rfl⟩))
      | false => exact Or.inr (Or.inr (Or.inr ⟨h, rfl, rfl⟩))
/-- How many elements the first so many lists have. -/
def lenN (xss : List (List Int)) (i : Nat) : Nat := ((xss.take i).map List.length).sum
theorem lenN_succ {xss : List (List Int)} {i : Nat} (h : i < xss.length) : lenN xss (i + 1) = lenN xss i + xss[i].length := by
  unfold lenN
  rw [← List.take_append_getElem h, List.map_append, List.sum_append]
  simp only [List.map_cons, List.map_nil, List.sum_cons, List.sum_nil, Nat.add_zero]
theorem lenN_le (xss : List (List Int)) (i : Nat) : lenN xss i ≤ (xss.map List.length).sum := by
  unfold lenN
  have : (xss.map List.length).sum = ((xss.take i).map List.length).sum + ((xss.drop i).map List.length).sum := by
    rw [← List.sum_append, ← List.map_append, List.take_append_drop]
  omega
theorem lenN_flatten (xss : List (List Int)) (i : Nat) : (xss.take i).flatten.length = lenN xss i := by unfold lenN; rw [List.length_flatten]
theorem flatten_succ {xss : List (List Int)} {i : Nat} (h : i < xss.length) : (xss.take i).flatten ++ xss[i] = (xss.take (i + 1)).flatten := by
  rw [← List.take_append_getElem h, List.flatten_append]
  simp only [List.flatten_cons, List.flatten_nil, List.append_nil]
end Go.Tw
/- Plain laws of caches: what is found; what is purged; what is drawn of them. -/
namespace Go.Tw
def zIns : GIns := ⟨0, 0, 0, 0, 0⟩
def inBlk (b : GBlock) (pc : Int) : Bool := blockOk b && decide (b.start ≤ pc) && decide (pc < b.start + b.list.length)
def atI (b : GBlock) (pc : Int) : GIns := if inBlk b pc = true then b.list.getD (pc - b.start).toNat zIns else zIns
def cfI (l : List GBlock) (pc : Int) : GIns := match l.find? fun b => inBlk b pc with
  | some b => atI b pc
  | none => zIns
def cfB (l : List GBlock) (pc : Int) : Bool := l.any fun b => inBlk b pc
theorem cf_none {l : List GBlock} {pc : Int} (h : ∀ i, (hi : i < l.length) → inBlk l[i] pc = false) : cfI l pc = zIns ∧ cfB l pc = false := by
  have hn : l.find? (fun b => inBlk b pc) = none := by
    rw [List.find?_eq_none]
    intro b hb
    obtain ⟨i, hi, rfl⟩ := List.getElem_of_mem hb
    simp [h i hi]
  refine ⟨by unfold cfI; rw [hn], ?_⟩
  unfold cfB
  rw [List.any_eq_false]
  intro b hb
  obtain ⟨i, hi, rfl⟩ := List.getElem_of_mem hb
  simp [h i hi]
theorem cf_at {l : List GBlock} {pc : Int} {i : Nat} (hi : i < l.length) (h : ∀ j, (hj : j < l.length) → j < i → inBlk l[j] pc = false) (ht : inBlk l[i] pc = true) : cfI l pc = atI l[i] pc ∧ cfB l pc = true := by
  have hn : l.find? (fun b => inBlk b pc) = some l[i] := by
    rw [List.find?_eq_some_iff_getElem]
    exact ⟨ht, i, hi, rfl, fun j hj => by simp [h j (by omega) hj]⟩
  refine ⟨by unfold cfI; rw [hn], ?_⟩
  unfold cfB
  rw [List.any_eq_true]
  exact ⟨l[i], List.getElem_mem hi, ht⟩
theorem cfB_iff (l : List GBlock) (pc : Int) : cfB l pc = true ↔ ∃ b ∈ l, inBlk b pc = true := by unfold cfB; rw [List.any_eq_true]
theorem blockHd_of {b : GBlock} (h : blockOk b = true) : (0 ≤ b.start ∧ b.start ≤ 23) ∧ 1 ≤ (b.list.length : Int) ∧ (b.list.length : Int) ≤ 4 - b.start % 4 := by
  have : blockHd b = true := by
    cases hh : blockHd b with
    | true => rfl
    | false => rw [blockOk_hd hh] at h; cases h
  unfold blockHd at this
  rw [Bool.and_eq_true, inR_iff, inR_iff] at this
  exact this
theorem inBlk_start {b : GBlock} (h : blockOk b = true) : inBlk b b.start = true := by
  obtain ⟨-, h2, -⟩ := blockHd_of h
  unfold inBlk
  rw [h]
  simp
  omega
theorem inBlk_page {b : GBlock} {pc : Int} (h : inBlk b pc = true) : pageOf b = pc / 4 := by
  unfold inBlk at h
  simp only [Bool.and_eq_true, decide_eq_true_eq] at h
  obtain ⟨⟨h1, h2⟩, h3⟩ := h
  obtain ⟨⟨q1, q2⟩, q3, q4⟩ := blockHd_of h1
  unfold pageOf
  rw [if_pos h1]
  omega
theorem purge_iff {l : List GBlock} {page : Int} {b : GBlock} : b ∈ purge l page ↔ b ∈ l ∧ pageOf b ≠ page := by unfold purge; simp
theorem purge_purge (l : List GBlock) (page : Int) : purge (purge l page) page = purge l page := by unfold purge; simp
theorem purged_away {l : List GBlock} {page pc : Int} (h : pc / 4 = page) : cfB (purge l page) pc = false := by
  cases hc : cfB (purge l page) pc with
  | false => rfl
  | true =>
    obtain ⟨b, hb, hi⟩ := (cfB_iff _ _).1 hc
    exact absurd (by rw [inBlk_page hi, h]) (purge_iff.1 hb).2
theorem added_found {l : List GBlock} {b : GBlock} (h : blockOk b = true) : cfB (cacheAdd l b) b.start = true := by
  rw [cfB_iff]
  refine ⟨b, ?_, inBlk_start h⟩
  unfold cacheAdd
  rw [if_pos h]
  simp
theorem added_len {l : List GBlock} {b : GBlock} (h : blockOk b = true) : 1 ≤ (cacheAdd l b).length ∧ (5 < l.length ∨ (cacheAdd l b).length ≤ 5) := by
  unfold cacheAdd
  rw [if_pos h]
  split
  · simp; omega
  · simp; omega
theorem cacheAdd_le (l : List GBlock) (b : GBlock) : (cacheAdd l b).length ≤ l.length + 1 := by
  unfold cacheAdd
  split
  · split <;> simp <;> omega
  · omega
theorem cacheOk_purge {l : List GBlock} {fs : List GFrame} {page : Int} (h : cacheOk l fs = true) : cacheOk (purge l page) fs = true := by
  unfold cacheOk at h ⊢
  simp only [Bool.and_eq_true, decide_eq_true_eq, List.all_eq_true] at h ⊢
  obtain ⟨⟨⟨h1, h2⟩, h3⟩, h4⟩ := h
  exact ⟨⟨⟨Nat.le_trans (purge_len _ _) h1, h2⟩, h3⟩, fun b hb => h4 b (purge_iff.1 hb).1⟩
/-- What a drawn block is. -/
def GBlock.few (b : GBlock) : Prop := b.list.length ≤ 5
def GFrame.few (f : GFrame) : Prop := f.list.length ≤ 5
theorem GBlock.few.small {b : GBlock} (h : b.few) : b.small := by unfold GBlock.few at h; unfold GBlock.small; omega
theorem GFrame.few.small {f : GFrame} (h : f.few) : f.small := by unfold GFrame.few at h; unfold GFrame.small; omega
theorem blockOf_few {ws : List Int} (s : Int) (h : ws.length ≤ 5) : (blockOf ws s).few := by
  unfold GBlock.few blockOf
  split
  · have := blk_len (ws.drop (s % 4).toNat)
    simp at this ⊢
    omega
  · simp
theorem blk_pos : ∀ {ws : List Int}, ws ≠ [] → 1 ≤ (blk ws).length
  | [], h => absurd rfl h
  | w :: ws, _ => by unfold blk; split <;> simp
theorem blockOf_pos {ws : List Int} {s : Int} (h : ws.length = 4) (h0 : 0 ≤ s) (h1 : s ≤ 23) : 1 ≤ (blockOf ws s).list.length := by
  unfold blockOf
  rw [if_pos ⟨h, h0, h1⟩]
  refine blk_pos fun e => ?_
  have := congrArg List.length e
  simp at this
  omega
def frN (m : List Int) (i : Nat) : List GFrame := (List.range i).map fun p => ⟨1, (m.drop (p * 4)).take 4, false⟩
theorem frN_succ (m : List Int) (i : Nat) : frN m (i + 1) = frN m i ++ [⟨1, (m.drop (i * 4)).take 4, false⟩] := by unfold frN; rw [List.range_succ, List.map_append]; rfl
theorem frN_len (m : List Int) (i : Nat) : (frN m i).length = i := by unfold frN; simp
theorem frN_few {m : List Int} {i : Nat} {f : GFrame} (h : f ∈ frN m i) : f.few := by
  unfold frN at h
  obtain ⟨p, -, rfl⟩ := List.mem_map.1 h
  unfold GFrame.few
  simp; omega
end Go.Tw
