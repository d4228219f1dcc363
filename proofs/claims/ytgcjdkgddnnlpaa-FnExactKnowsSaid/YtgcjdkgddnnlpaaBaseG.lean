/- The layer: trees, states, rules; plain functions. -/
import Derived.Test.YtgcjdkgddnnlpaaBaseF
set_option linter.unusedSimpArgs false
set_option linter.unusedVariables false
set_option linter.unnecessarySimpa false
namespace Go.Tw
def zSender : GSender := ⟨0, []⟩
def zWorld : GWorld := ⟨0, [], []⟩
def zFlock : GFlock := ⟨zWorld, []⟩
def homeNew (n : Int) : GHome := if 1 ≤ n ∧ n ≤ 4 then ⟨List.replicate 4 0, -1, List.replicate n.toNat false, false, ⟨0, false⟩, 0, []⟩ else zHome
def nodeNewOk (id n : Int) : Bool := inR n 1 4 && inR id 0 (n - 1)
def nodeNew (id n : Int) : GNode := if nodeNewOk id n = true then ⟨id, List.replicate 6 zFrame, List.replicate 6 (homeNew n), List.replicate n.toNat zSender, List.replicate n.toNat ⟨0⟩⟩ else zNode
def nodesN (n : Int) (i : Nat) : List GNode := (List.range i).map fun (k : Nat) => nodeNew k n
theorem nodesN_succ (n : Int) (i : Nat) : nodesN n (i + 1) = nodesN n i ++ [nodeNew i n] := by unfold nodesN; rw [List.range_succ, List.map_append]; rfl
theorem nodesN_len (n : Int) (i : Nat) : (nodesN n i).length = i := by unfold nodesN; simp
def worldNew (n : Int) : GWorld := if 1 ≤ n ∧ n ≤ 4 then ⟨n, nodesN n n.toNat, []⟩ else zWorld
def pageW (mem : List Int) (p : Nat) : List Int := (mem.drop (p * 4)).take 4
def putPage (n : Nat) (mem : List Int) (nodes : List GNode) (p : Nat) : List GNode :=
  match nodes[p % n]? with
  | some x => match x.homes[p]? with
    | some h => nodes.set (p % n) { x with homes := x.homes.set p { h with list := pageW mem p } }
    | none => nodes
  | none => nodes
def pagesN (n : Nat) (mem : List Int) (nodes : List GNode) : Nat → List GNode
  | 0 => nodes
  | p + 1 => putPage n mem (pagesN n mem nodes p) p
def coresN (starts : List Int) (i : Nat) : List GCore := (List.range i).map fun k => ⟨hartNew (starts.getD k 0), []⟩
theorem coresN_succ (starts : List Int) (i : Nat) : coresN starts (i + 1) = coresN starts i ++ [⟨hartNew (starts.getD i 0), []⟩] := by unfold coresN; rw [List.range_succ, List.map_append]; rfl
theorem coresN_len (starts : List Int) (i : Nat) : (coresN starts i).length = i := by unfold coresN; simp
def flockNewOk (n : Int) (mem : List Int) : Bool := inR n 1 4 && wordsOk mem 24
def flockNew (n : Int) (mem starts : List Int) : GFlock := if flockNewOk n mem = true then ⟨⟨n, pagesN n.toNat mem (nodesN n n.toNat) 6, []⟩, coresN starts n.toNat⟩ else zFlock
theorem putPage_len (n : Nat) (mem : List Int) (nodes : List GNode) (p : Nat) : (putPage n mem nodes p).length = nodes.length := by
  unfold putPage
  split
  · split <;> simp
  · rfl
theorem pagesN_len (n : Nat) (mem : List Int) (nodes : List GNode) : ∀ p, (pagesN n mem nodes p).length = nodes.length
  | 0 => rfl
  | p + 1 => by
    show (putPage n mem (pagesN n mem nodes p) p).length = _
    rw [putPage_len, pagesN_len n mem nodes p]
theorem putPage_homes {n : Nat} {mem : List Int} {nodes : List GNode} {p : Nat} (h : ∀ x ∈ nodes, x.homes.length = 6) : ∀ x ∈ putPage n mem nodes p, x.homes.length = 6 := by
  unfold putPage
  split
  · rename_i y hy
    split
    · intro x hx
      rcases List.mem_or_eq_of_mem_set hx with hx | rfl
      · exact h x hx
      · simpa using h y (List.mem_of_getElem? hy)
    · exact h
  · exact h
theorem pagesN_homes {n : Nat} {mem : List Int} {nodes : List GNode} (h : ∀ x ∈ nodes, x.homes.length = 6) : ∀ p, ∀ x ∈ pagesN n mem nodes p, x.homes.length = 6
  | 0 => h
  | p + 1 => putPage_homes (pagesN_homes h p)
theorem nodeNewOk_at {n : Int} {i : Nat} (h1 : 1 ≤ n ∧ n ≤ 4) (hi : (i : Int) < n) : nodeNewOk i n = true := by
  unfold nodeNewOk inR
  simp
  omega
theorem nodeNew_at {n : Int} {i : Nat} (h1 : 1 ≤ n ∧ n ≤ 4) (hi : (i : Int) < n) : nodeNew i n = ⟨i, List.replicate 6 zFrame, List.replicate 6 (homeNew n), List.replicate n.toNat zSender, List.replicate n.toNat ⟨0⟩⟩ := if_pos (nodeNewOk_at h1 hi)
theorem nodesN_homes {n : Int} (h1 : 1 ≤ n ∧ n ≤ 4) {i : Nat} (hi : (i : Int) ≤ n) : ∀ x ∈ nodesN n i, x.homes.length = 6 := by
  intro x hx
  unfold nodesN at hx
  obtain ⟨k, hk, rfl⟩ := List.mem_map.1 hx
  rw [nodeNew_at h1 (by have := List.mem_range.1 hk; omega)]
  simp
theorem putPage_at {n : Nat} {mem : List Int} {nodes : List GNode} {p : Nat} (h1 : p % n < nodes.length) (h2 : p < nodes[p % n].homes.length) :
    putPage n mem nodes p = nodes.set (p % n) { nodes[p % n] with homes := nodes[p % n].homes.set p { nodes[p % n].homes[p] with list := pageW mem p } } := by
  unfold putPage
  rw [List.getElem?_eq_getElem h1]
  simp only
  rw [List.getElem?_eq_getElem h2]
end Go.Tw

namespace Go.Tw
theorem sum_le_mul {α : Type} {f : α → Nat} {c : Nat} : ∀ xs : List α, (∀ x ∈ xs, f x ≤ c) → (xs.map f).sum ≤ xs.length * c
  | [], _ => by simp
  | x :: xs, h => by
    have h1 := h x (by simp)
    have h2 := sum_le_mul (f := f) (c := c) xs fun y hy => h y (by simp [hy])
    simp only [List.map_cons, List.sum_cons, List.length_cons, Nat.add_mul, Nat.one_mul]
    omega
def GHome.tiny (h : GHome) : Prop := h.list.length ≤ 4 ∧ h.readers.length ≤ 4 ∧ h.queue.length = 0
def GNode.tiny (x : GNode) : Prop := x.frames.length ≤ 6 ∧ (∀ f ∈ x.frames, f.list.length = 0) ∧ x.homes.length ≤ 6 ∧ (∀ h ∈ x.homes, h.tiny) ∧ x.out.length ≤ 4 ∧ (∀ s ∈ x.out, s.queue.length = 0) ∧ x.in_.length ≤ 4
theorem GNode.tiny_tot {x : GNode} (h : x.tiny) : x.tot ≤ 68 := by
  obtain ⟨h1, h2, h3, h4, h5, h6, h7⟩ := h
  have a := sum_le_mul (f := fun a : GFrame => a.tot) (c := 0) x.frames fun f hf => by have := h2 f hf; show f.list.length ≤ 0; omega
  have b := sum_le_mul (f := fun a : GHome => a.tot) (c := 8) x.homes fun f hf => by obtain ⟨q1, q2, q3⟩ := h4 f hf; show f.list.length + f.readers.length + f.queue.length ≤ 8; omega
  have c := sum_le_mul (f := fun a : GSender => a.tot) (c := 0) x.out fun f hf => by
    have := h6 f hf
    have e : f.queue = [] := List.length_eq_zero_iff.1 this
    show f.queue.length + (f.queue.map fun a => a.tot).sum ≤ 0
    rw [e]; simp
  unfold GNode.tot
  omega
theorem nodeNew_tiny {n : Int} {i : Nat} (h1 : 1 ≤ n ∧ n ≤ 4) (hi : (i : Int) < n) : (nodeNew i n).tiny := by
  rw [nodeNew_at h1 hi]
  refine ⟨by simp, fun f hf => ?_, by simp, fun h hh => ?_, by simp; omega, fun s hs => ?_, by simp; omega⟩
  · rw [(List.mem_replicate.1 hf).2]; rfl
  · rw [(List.mem_replicate.1 hh).2]
    unfold homeNew
    rw [if_pos h1]
    refine ⟨by simp, by simp; omega, rfl⟩
  · rw [(List.mem_replicate.1 hs).2]; rfl
theorem putPage_tiny {n : Nat} {mem : List Int} {nodes : List GNode} {p : Nat} (h : ∀ x ∈ nodes, x.tiny) : ∀ x ∈ putPage n mem nodes p, x.tiny := by
  unfold putPage
  split
  · rename_i x hx
    split
    · rename_i hm hh
      intro y hy
      rcases List.mem_or_eq_of_mem_set hy with hy | rfl
      · exact h y hy
      · obtain ⟨h1, h2, h3, h4, h5, h6, h7⟩ := h x (List.mem_of_getElem? hx)
        refine ⟨h1, h2, by simpa using h3, fun z hz => ?_, h5, h6, h7⟩
        rcases List.mem_or_eq_of_mem_set hz with hz | rfl
        · exact h4 z hz
        · obtain ⟨q1, q2, q3⟩ := h4 hm (List.mem_of_getElem? hh)
          exact ⟨by show (pageW mem p).length ≤ 4; unfold pageW; simp; omega, q2, q3⟩
    · exact h
  · exact h
theorem pagesN_tiny {n : Nat} {mem : List Int} {nodes : List GNode} (h : ∀ x ∈ nodes, x.tiny) : ∀ p, ∀ x ∈ pagesN n mem nodes p, x.tiny
  | 0 => h
  | p + 1 => putPage_tiny (pagesN_tiny h p)
theorem flockNew_tot (n : Int) (mem starts : List Int) : (flockNew n mem starts).tot ≤ 400 := by
  unfold flockNew
  split
  · rename_i hk
    have hn : 1 ≤ n ∧ n ≤ 4 := by unfold flockNewOk inR at hk; simp at hk; omega
    have hl : (pagesN n.toNat mem (nodesN n n.toNat) 6).length = n.toNat := by rw [pagesN_len, nodesN_len]
    have hc : (coresN starts n.toNat).length = n.toNat := coresN_len _ _
    have ht : ∀ x ∈ pagesN n.toNat mem (nodesN n n.toNat) 6, x.tiny := by
      refine pagesN_tiny (fun x hx => ?_) 6
      unfold nodesN at hx
      obtain ⟨k, hk, rfl⟩ := List.mem_map.1 hx
      exact nodeNew_tiny hn (by have := List.mem_range.1 hk; omega)
    have a := sum_le_mul (f := fun a : GNode => a.tot) (c := 68) (pagesN n.toNat mem (nodesN n n.toNat) 6) fun x hx => GNode.tiny_tot (ht x hx)
    have b := sum_le_mul (f := fun a : GCore => a.tot) (c := 4) (coresN starts n.toNat) fun x hx => by
      unfold coresN at hx
      obtain ⟨k, hk, rfl⟩ := List.mem_map.1 hx
      show (hartNew _).regs.length + 0 + 0 ≤ 4
      unfold hartNew
      simp
    rw [hl] at a
    rw [hc] at b
    have e : n.toNat ≤ 4 := by omega
    show (pagesN n.toNat mem (nodesN n n.toNat) 6).length + ((pagesN n.toNat mem (nodesN n n.toNat) 6).map fun a => a.tot).sum + 0 + 0 + (coresN starts n.toNat).length + ((coresN starts n.toNat).map fun a => a.tot).sum ≤ 400
    rw [hl, hc]
    omega
  · decide
end Go.Tw

