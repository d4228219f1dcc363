/- The layer: trees, states, rules; plain functions. -/
import Derived.Test.YtjfjnpbeboafkaaGreatBaseE
import Derived.Lib.Join
import Derived.Below
set_option linter.unusedSimpArgs false
set_option linter.unusedVariables false
set_option linter.unnecessarySimpa false
namespace Go.Tw
theorem markE_add (k : Int) (a : Nat) : ∀ b, markE (markE k a) b = markE k (a + b)
  | 0 => rfl
  | b + 1 => by show IntKind.wrap .i64 (markE (markE k a) b + 1) = _; rw [markE_add k a b]; rfl
theorem markE_zero (k : Int) : markE k 0 = k := rfl
theorem markE_nn (m : Nat) (h : m ≤ 4611686018427387904) : 0 ≤ markE 1 m := by rw [markE_pos _ _ (by omega) (by omega)]; omega
def mB (k : Int) (i : Nat) : Bool := (markE k i).tmod 3 == 0
theorem mB_def (k : Int) (i : Nat) : ((markE k i).tmod 3 == 0) = mB k i := rfl
theorem upto_getE {α : Type} (f : Nat → α) (xs : List α) {i : Nat} (h : i < xs.length) (h2 : i < (upto f xs i).length) : (upto f xs i)[i] = xs[i] := by
  have := upto_get f xs h
  rw [List.getElem?_eq_getElem h2] at this
  simpa using this
theorem cnt_le {α : Type} {f g : α → Nat} (h : ∀ a, f a ≤ 9 * (1 + g a)) : ∀ xs : List α, (xs.map f).sum ≤ 9 * (xs.length + (xs.map g).sum)
  | [] => by simp
  | x :: xs => by have := h x; have := cnt_le h xs; simp only [List.map_cons, List.sum_cons, List.length_cons]; omega
def mWait (k : Int) (i : Nat) : GWait := ⟨markE k (2 * i), mB k (2 * i + 1)⟩
def mReceiver (k : Int) (i : Nat) : GReceiver := ⟨markE k (i)⟩
def nMsg (x : GMsg) : Nat := 3 + x.list.length
def mkMsg (k : Int) (s : Nat) (x : GMsg) : GMsg := ⟨markE k (s), markE k (s + 1), mB k (s + 2), marks (markE k (s + 3)) x.list.length⟩
def fMsg (k : Int) (xs : List GMsg) (j : Nat) : GMsg := mkMsg k (sumTo nMsg xs j) (xs.getD j (⟨0, 0, false, []⟩ : GMsg))
theorem fMsg_at {k : Int} {xs : List GMsg} {i : Nat} (h : i < xs.length) : fMsg k xs i = mkMsg k (sumTo nMsg xs i) xs[i] := by simp [fMsg, h]
def nvMsg (x : GMsg) : Nat := x.list.length
theorem nMsg_le (x : GMsg) : nMsg x ≤ 9 * (1 + x.tot) := by
  unfold nMsg GMsg.tot
  omega
def nSender (x : GSender) : Nat := 1 + (x.queue.map nMsg).sum
def mkSender (k : Int) (s : Nat) (x : GSender) : GSender := ⟨markE k (s), (List.range x.queue.length).map (fMsg (markE k (s + 1)) x.queue)⟩
def fSender (k : Int) (xs : List GSender) (j : Nat) : GSender := mkSender k (sumTo nSender xs j) (xs.getD j (⟨0, []⟩ : GSender))
theorem fSender_at {k : Int} {xs : List GSender} {i : Nat} (h : i < xs.length) : fSender k xs i = mkSender k (sumTo nSender xs i) xs[i] := by simp [fSender, h]
def nvSender (x : GSender) : Nat := (x.queue.map nMsg).sum
theorem nSender_le (x : GSender) : nSender x ≤ 9 * (1 + x.tot) := by
  have := cnt_le (f := nMsg) (g := fun a => a.tot) nMsg_le x.queue
  unfold nSender GSender.tot
  omega
def nPacket (x : GPacket) : Nat := 7 + x.msg.list.length
def nvPacket (x : GPacket) : Nat := x.msg.list.length
def nFrame (x : GFrame) : Nat := 1 + x.list.length + 1
def mkFrame (k : Int) (s : Nat) (x : GFrame) : GFrame := ⟨markE k (s), marks (markE k (s + 1)) x.list.length, mB k (s + 1 + x.list.length)⟩
def fFrame (k : Int) (xs : List GFrame) (j : Nat) : GFrame := mkFrame k (sumTo nFrame xs j) (xs.getD j (⟨0, [], false⟩ : GFrame))
theorem fFrame_at {k : Int} {xs : List GFrame} {i : Nat} (h : i < xs.length) : fFrame k xs i = mkFrame k (sumTo nFrame xs i) xs[i] := by simp [fFrame, h]
def nvFrame (x : GFrame) : Nat := x.list.length
theorem nFrame_le (x : GFrame) : nFrame x ≤ 9 * (1 + x.tot) := by
  unfold nFrame GFrame.tot
  omega
def nHome (x : GHome) : Nat := x.list.length + 1 + x.readers.length + 4 + 2 * x.queue.length
def mkHome (k : Int) (s : Nat) (x : GHome) : GHome := ⟨marks (markE k (s)) x.list.length, markE k (s + x.list.length), (List.range x.readers.length).map (mB (markE k (s + x.list.length + 1))), mB k (s + x.list.length + 1 + x.readers.length), ⟨markE k (s + x.list.length + 1 + x.readers.length + 1), mB k (s + x.list.length + 1 + x.readers.length + 2)⟩, markE k (s + x.list.length + 1 + x.readers.length + 3), (List.range x.queue.length).map (mWait (markE k (s + x.list.length + 1 + x.readers.length + 4)))⟩
def fHome (k : Int) (xs : List GHome) (j : Nat) : GHome := mkHome k (sumTo nHome xs j) (xs.getD j (⟨[], 0, [], false, ⟨0, false⟩, 0, []⟩ : GHome))
theorem fHome_at {k : Int} {xs : List GHome} {i : Nat} (h : i < xs.length) : fHome k xs i = mkHome k (sumTo nHome xs i) xs[i] := by simp [fHome, h]
def nvHome (x : GHome) : Nat := x.list.length + x.readers.length + 2 * x.queue.length
theorem nHome_le (x : GHome) : nHome x ≤ 9 * (1 + x.tot) := by
  unfold nHome GHome.tot
  omega
def nNode (x : GNode) : Nat := 1 + (x.frames.map nFrame).sum + (x.homes.map nHome).sum + (x.out.map nSender).sum + x.in_.length
def mvNode (k : Int) (x : GNode) : GNode := ⟨x.id, (List.range x.frames.length).map (fFrame (k) x.frames), (List.range x.homes.length).map (fHome (markE k ((x.frames.map nFrame).sum)) x.homes), (List.range x.out.length).map (fSender (markE k ((x.frames.map nFrame).sum + (x.homes.map nHome).sum)) x.out), (List.range x.in_.length).map (mReceiver (markE k ((x.frames.map nFrame).sum + (x.homes.map nHome).sum + (x.out.map nSender).sum)))⟩
def nvNode (x : GNode) : Nat := (x.frames.map nFrame).sum + (x.homes.map nHome).sum + (x.out.map nSender).sum + x.in_.length
theorem nvNode_le (x : GNode) : nvNode x ≤ 9 * x.tot := by
  have := cnt_le (f := nFrame) (g := fun a => a.tot) nFrame_le x.frames
  have := cnt_le (f := nHome) (g := fun a => a.tot) nHome_le x.homes
  have := cnt_le (f := nSender) (g := fun a => a.tot) nSender_le x.out
  unfold nvNode GNode.tot
  omega
def nvWorld (x : GWorld) : Nat := (x.nodes.map nNode).sum + (x.net.map nPacket).sum
def mvHart (k : Int) (x : GHart) : GHart := ⟨marks (k) x.regs.length, x.pc, x.state⟩
def nvHart (x : GHart) : Nat := x.regs.length
def nBlock (x : GBlock) : Nat := 1 + 5 * x.list.length
def mkBlock (k : Int) (s : Nat) (x : GBlock) : GBlock := ⟨markE k (s), (List.range x.list.length).map (mIns (markE k (s + 1)))⟩
def fBlock (k : Int) (xs : List GBlock) (j : Nat) : GBlock := mkBlock k (sumTo nBlock xs j) (xs.getD j (⟨0, []⟩ : GBlock))
theorem fBlock_at {k : Int} {xs : List GBlock} {i : Nat} (h : i < xs.length) : fBlock k xs i = mkBlock k (sumTo nBlock xs i) xs[i] := by simp [fBlock, h]
def nvBlock (x : GBlock) : Nat := 5 * x.list.length
theorem nBlock_le (x : GBlock) : nBlock x ≤ 9 * (1 + x.tot) := by
  unfold nBlock GBlock.tot
  omega
def nCore (x : GCore) : Nat := x.hart.regs.length + 2 + (x.cache.map nBlock).sum
def mvCore (k : Int) (x : GCore) : GCore := ⟨⟨marks (k) x.hart.regs.length, x.hart.pc, x.hart.state⟩, (List.range x.cache.length).map (fBlock (markE k (x.hart.regs.length)) x.cache)⟩
def nvCore (x : GCore) : Nat := x.hart.regs.length + (x.cache.map nBlock).sum
theorem nvCore_le (x : GCore) : nvCore x ≤ 9 * x.tot := by
  have := cnt_le (f := nBlock) (g := fun a => a.tot) nBlock_le x.cache
  unfold nvCore GCore.tot GHart.tot
  omega
def nvFlock (x : GFlock) : Nat := (x.world.nodes.map nNode).sum + (x.world.net.map nPacket).sum + (x.cores.map nCore).sum
end Go.Tw

namespace Go.Tw
open Go.RowKit
section
variable {P : Program}
end
end Go.Tw

namespace Go.Tw
section
variable {P : Program} {w0 w w' : World} {Al : Blks} {N : Nat} {g : Gh} {σ σ' : St} {a : Act}
end
end Go.Tw

namespace Go.Tw
theorem W_seqJK {P : Program} {N : Nat} {K : Exit → St → Prop} {x y : Code} {σ : St} {α : Type} (I : α → St) (φ : α → Prop) (h1 : ∀ K' : St → Prop, (∀ σ', (∃ p, φ p ∧ Sub σ' (I p)) → K' σ') → W P N x (Then K' K) σ) (h2 : ∀ p, φ p → W P N y K (I p)) : W P N (.seq x y) K σ :=
  W_seqJ I φ (h1 _ fun _ h => h) h2
end Go.Tw

namespace Go.Tw
theorem tk {A B : Prop} (h : B) (a : A := by first | omega | grind) : A ∧ B := ⟨a, h⟩
theorem callA {P : Program} {k : Bool} {f : FuncId} {args res : List A} {vs : List V} {v : V} {c : Prop} {G : Bool} {d : Option Nat} {next : St → Prop} {σ : St} (hpc : G = true → PC P f args res)
    (hden : G = true → denVs σ vs args) (hv : oneV (valsN σ.nxt res) = some v) (hfr : σ.row.all (fun x => decide (x.1 < σ.nxt)) = true)
    (hK : next ((σ.answer res).set d G v)) (hc : G = true → c := by first | (simp; done) | (simp [inR_iff]; done) | (simp [inR_iff]; grind) | grind)
    (hfl : G = true ∨ (flatA res).all (fun t => match t with | .sl .. => false | _ => true) = true := by first | exact Or.inl rfl | exact Or.inr rfl) : CallG P k f vs c G d next σ := callG_pc hpc hc hden hv hfr hfl hK
end Go.Tw

namespace Go.Tw
def ends (x : GIns) : Bool := !(insOk x) || decide (x.op = 7) || decide (x.op = 8) || decide (x.op = 9)
def badIns (n i : Nat) (x : GIns) : Bool := (!(insOk x) && decide (x ≠ ⟨0, 0, 0, 0, 0⟩)) || (ends x && decide (i + 1 < n))
def blockHd (b : GBlock) : Bool := inR b.start 0 23 && inR (b.list.length : Int) 1 (4 - b.start % 4)
def blockOk (b : GBlock) : Bool := blockHd b && (List.range b.list.length).all fun i => match b.list[i]? with
  | some x => !badIns b.list.length i x
  | none => true
theorem blockOk_hd {b : GBlock} (h : blockHd b = false) : blockOk b = false := by unfold blockOk; rw [h]; rfl
theorem blockOk_bad {b : GBlock} {i : Nat} (h : i < b.list.length) (hb : badIns b.list.length i b.list[i] = true) : blockOk b = false := by
  have : ((List.range b.list.length).all fun i => match b.list[i]? with | some x => !badIns b.list.length i x | none => true) = false := by
    rw [List.all_eq_false]
    exact ⟨i, by simpa using h, by simp [h, hb]⟩
  unfold blockOk
  rw [this, Bool.and_false]
theorem blockOk_good {b : GBlock} (hh : blockHd b = true) (h : ∀ j, (hj : j < b.list.length) → badIns b.list.length j b.list[j] = false) : blockOk b = true := by
  have : ((List.range b.list.length).all fun i => match b.list[i]? with | some x => !badIns b.list.length i x | none => true) = true := by
    rw [List.all_eq_true]
    intro j hj
    have hj : j < b.list.length := by simpa using hj
    simp [hj, h j hj]
  unfold blockOk
  rw [hh, this]
  rfl
theorem blockOk_start {b : GBlock} (h : blockOk b = true) : 0 ≤ b.start ∧ b.start ≤ 23 := by
  unfold blockOk blockHd at h
  rw [Bool.and_eq_true, Bool.and_eq_true] at h
  exact (inR_iff _ _ _).1 h.1.1
def pageOf (b : GBlock) : Int := if blockOk b = true then b.start / 4 else -1
end Go.Tw

namespace Go.Tw
end Go.Tw

namespace Go.Tw
def frameOk (f : GFrame) : Bool := if f.state = 0 then decide (f.list.length = 0) else inR f.state 0 2 && wordsOk f.list 4
theorem frameOk_none {f : GFrame} (h : f.state = 0) : frameOk f = decide (f.list.length = 0) := if_pos h
theorem frameOk_some {f : GFrame} (h : ¬ f.state = 0) : frameOk f = (inR f.state 0 2 && wordsOk f.list 4) := if_neg h
theorem frameOk_12 {f : GFrame} (h : ¬ f.state = 0) : frameOk f = ((decide (f.state = 1) || decide (f.state = 2)) && wordsOk f.list 4) := by
  rw [frameOk_some h]
  congr 1
  unfold inR
  by_cases h1 : f.state = 1
  · simp [h1]
  · by_cases h2 : f.state = 2
    · simp [h2]
    · simp only [h1, h2, decide_false, Bool.or_self]
      simp
      omega
def blk : List Int → List GIns
  | [] => []
  | w :: ws => if ends (decode w) = true then [decode w] else decode w :: blk ws
theorem blk_len : ∀ ws : List Int, (blk ws).length ≤ ws.length
  | [] => by simp [blk]
  | w :: ws => by
    unfold blk
    split
    · simp
    · have := blk_len ws
      simp
      omega
def blockOf (ws : List Int) (s : Int) : GBlock := if ws.length = 4 ∧ 0 ≤ s ∧ s ≤ 23 then ⟨s, blk (ws.drop (s % 4).toNat)⟩ else ⟨0, []⟩
theorem blk_end {ws : List Int} {s i : Nat} {out : List GIns} (h : blk (ws.drop s) = out ++ blk (ws.drop i)) (hi : i < ws.length) (he : ends (decode ws[i]) = true) : out ++ [decode ws[i]] = blk (ws.drop s) := by
  rw [h, List.drop_eq_getElem_cons hi]
  simp [blk, he]
theorem blk_more {ws : List Int} {s i : Nat} {out : List GIns} (h : blk (ws.drop s) = out ++ blk (ws.drop i)) (hi : i < ws.length) (he : ends (decode ws[i]) = false) : blk (ws.drop s) = (out ++ [decode ws[i]]) ++ blk (ws.drop (i + 1)) := by
  rw [h, List.drop_eq_getElem_cons hi]
  simp [blk, he]
theorem blk_done {ws : List Int} {s i : Nat} {out : List GIns} (h : blk (ws.drop s) = out ++ blk (ws.drop i)) (hi : ws.length ≤ i) : out = blk (ws.drop s) := by
  rw [h, List.drop_of_length_le hi]
  simp [blk]
end Go.Tw

namespace Go.Tw
theorem callG_false {P : Program} {k : Bool} {f : FuncId} {vs : List V} {c : Prop} {d : Option Nat} {next : St → Prop} {σ : St} (v : V) (h : next (σ.set d false v)) : CallG P k f vs c false d next σ :=
  ⟨σ, v, fun _ _ _ _ _ g R => ⟨g, R⟩, fun _ => h, fun e => by cases e⟩
def bOk (fs : List GFrame) (b : GBlock) : Bool := blockOk b && decide (b = blockOf (fs.getD (b.start / 4).toNat ⟨0, [], false⟩).list b.start)
def cacheOk (list : List GBlock) (fs : List GFrame) : Bool := decide (list.length ≤ 5) && decide (fs.length = 6) && fs.all frameOk && list.all (bOk fs)
theorem cacheOk_hd {list : List GBlock} {fs : List GFrame} (h : ¬ (list.length ≤ 5 ∧ fs.length = 6)) : cacheOk list fs = false := by
  unfold cacheOk
  by_cases h1 : list.length ≤ 5
  · have h2 : ¬ fs.length = 6 := fun e => h ⟨h1, e⟩
    simp [h2]
  · simp [h1]
theorem cacheOk_fr {list : List GBlock} {fs : List GFrame} {i : Nat} (h : i < fs.length) (hf : frameOk fs[i] = false) : cacheOk list fs = false := by
  have : fs.all frameOk = false := by rw [List.all_eq_false]; exact ⟨fs[i], List.getElem_mem h, by simp [hf]⟩
  unfold cacheOk
  simp [this]
theorem cacheOk_any {list : List GBlock} {fs : List GFrame} (h : (fs.any fun f => !(frameOk f)) = true) : cacheOk list fs = false := by
  have : fs.all frameOk = false := by
    rw [List.all_eq_false]
    obtain ⟨f, hf, h⟩ := List.any_eq_true.1 h
    exact ⟨f, hf, by simpa using h⟩
  unfold cacheOk
  simp [this]
theorem cacheOk_bl {list : List GBlock} {fs : List GFrame} {i : Nat} (h : i < list.length) (hf : bOk fs list[i] = false) : cacheOk list fs = false := by
  have : list.all (bOk fs) = false := by rw [List.all_eq_false]; exact ⟨list[i], List.getElem_mem h, by simp [hf]⟩
  unfold cacheOk
  rw [this, Bool.and_false]
theorem all_of {α : Type} {xs : List α} {p : α → Bool} (h : ∀ j, (hj : j < xs.length) → p xs[j] = true) : xs.all p = true := by
  rw [List.all_eq_true]
  intro x hx
  obtain ⟨j, hj, rfl⟩ := List.getElem_of_mem hx
  exact h j hj
theorem all_any {α : Type} {xs : List α} {p : α → Bool} (h : (xs.any fun x => !(p x)) = false) : xs.all p = true := by
  rw [List.all_eq_true]
  intro x hx
  have := List.any_eq_false.1 h x hx
  simpa using this
theorem cacheOk_good {list : List GBlock} {fs : List GFrame} (h1 : list.length ≤ 5) (h2 : fs.length = 6) (h3 : fs.all frameOk = true) (h4 : ∀ j, (hj : j < list.length) → bOk fs list[j] = true) : cacheOk list fs = true := by
  unfold cacheOk
  rw [h3, all_of h4]
  simp [h1, h2]
theorem page_of {b : GBlock} (h : blockOk b = true) : ∃ pg : Nat, b.start / 4 = pg ∧ IntKind.wrap .i64 (b.start.tdiv 4) = (pg : Int) ∧ pg < 6 := by
  have hs := blockOk_start h
  refine ⟨(b.start / 4).toNat, by omega, ?_, by omega⟩
  rw [tdiv_pos hs.1, wrap_ok (by omega) (by omega)]
  omega
theorem page_split (b : GBlock) {n : Nat} (hn : n = 6) : (blockOk b = false ∧ blockOk b = false ∧ blockOk b = false) ∨ (blockOk b = true ∧ ∃ pg : Nat, b.start / 4 = pg ∧ IntKind.wrap .i64 (b.start.tdiv 4) = (pg : Int) ∧ pg < n) := by
  subst hn
  by_cases h : blockOk b = true
  · exact Or.inr ⟨h, page_of h⟩
  · have h : blockOk b = false := by simpa using h
    exact Or.inl ⟨h, h, h⟩
theorem bOk_no {fs : List GFrame} {b : GBlock} (h : blockOk b = false) : bOk fs b = false := by unfold bOk; rw [h]; rfl
theorem bOk_at {fs : List GFrame} {b : GBlock} {pg : Nat} (h : blockOk b = true) (hp : b.start / 4 = pg) (hl : pg < fs.length) : bOk fs b = decide (b = blockOf fs[pg].list b.start) := by
  unfold bOk
  rw [h, hp, Bool.true_and, Int.toNat_natCast, List.getD_eq_getElem?_getD, List.getElem?_eq_getElem hl, Option.getD_some]
theorem blockOf_len {ws : List Int} {s : Int} {n : Nat} (h : ws.length ≤ n) : (blockOf ws s).list.length ≤ n := by
  unfold blockOf
  split
  · have := blk_len (ws.drop (s % 4).toNat)
    simp only [List.length_drop] at this
    show (blk _).length ≤ n
    omega
  · simp
theorem cacheOk_not {list : List GBlock} {fs : List GFrame} (h : ((decide ((5 : Int) < list.length) || ((fs.length : Int) != 6)) || fs.any fun f => !(frameOk f)) = true) : cacheOk list fs = false := by
  by_cases hh : list.length ≤ 5 ∧ fs.length = 6
  · refine cacheOk_any ?_
    have h1 : decide ((5 : Int) < list.length) = false := by simp; omega
    have h2 : ((fs.length : Int) != 6) = false := by simp; omega
    rw [h1, h2] at h
    simpa using h
  · exact cacheOk_hd hh
end Go.Tw

namespace Go.Tw
theorem wordsOk_nil (xs : List Int) : wordsOk xs 0 = decide (xs.length = 0) := by
  cases xs with
  | nil => rfl
  | cons x xs =>
    have : decide (((x :: xs).length : Int) = 0) = false := by simp; omega
    unfold wordsOk
    rw [this]
    simp
def msgHd (m : GMsg) : Bool := inR m.kind 1 7 && inR m.page 0 5 && ((decide (m.kind = 3) || decide (m.kind = 6)) || !m.own)
def msgOk (m : GMsg) : Bool := msgHd m && wordsOk m.list (if m.kind = 3 ∨ m.kind = 7 then 4 else 0)
theorem msgOk_hd {m : GMsg} (h : msgHd m = false) : msgOk m = false := by unfold msgOk; rw [h]; rfl
theorem msgOk_four {m : GMsg} (h : msgHd m = true) (hk : m.kind = 3 ∨ m.kind = 7) : msgOk m = wordsOk m.list 4 := by unfold msgOk; rw [h, if_pos hk]; rfl
theorem msgOk_none {m : GMsg} (h : msgHd m = true) (hk : ¬ (m.kind = 3 ∨ m.kind = 7)) : msgOk m = decide (m.list.length = 0) := by unfold msgOk; rw [h, if_neg hk, wordsOk_nil]; rfl
def sendHd (s : GSender) : Bool := inR s.base 0 100000 && decide ((s.queue.length : Int) ≤ 30) && decide (IntKind.wrap .i64 (s.base + s.queue.length) ≤ 100000)
def senderOk (s : GSender) : Bool := sendHd s && s.queue.all msgOk
theorem senderOk_bad {s : GSender} {i : Nat} (h : i < s.queue.length) (hf : msgOk s.queue[i] = false) : senderOk s = false := by
  have : s.queue.all msgOk = false := by rw [List.all_eq_false]; exact ⟨s.queue[i], List.getElem_mem h, by simp [hf]⟩
  unfold senderOk
  rw [this, Bool.and_false]
theorem senderOk_good {s : GSender} (h : ∀ j, (hj : j < s.queue.length) → msgOk s.queue[j] = true) : senderOk s = sendHd s := by
  unfold senderOk
  rw [all_of h, Bool.and_true]
theorem all_not_any {α : Type} (xs : List α) (p : α → Bool) : (!(xs.any fun x => !(p x))) = xs.all p := by
  induction xs with
  | nil => rfl
  | cons x xs ih => simp only [List.any_cons, List.all_cons, ← ih]; cases p x <;> rfl
end Go.Tw

namespace Go.Tw
def wofN (who n : Int) : Bool := inR who 0 (IntKind.wrap .i64 (n - 1))
def homeHd (h : GHome) (n : Int) : Bool := inR n 1 4 && wordsOk h.list 4 && inR h.owner (-1) (IntKind.wrap .i64 (n - 1)) && decide ((h.readers.length : Int) = n) && wofN h.now.who n && inR h.acks 0 n && decide ((h.queue.length : Int) ≤ 12)
def homeOk (h : GHome) (n : Int) : Bool := homeHd h n && h.queue.all fun w => wofN w.who n
theorem homeOk_hd {h : GHome} {n : Int} (q : homeHd h n = false) : homeOk h n = false := by unfold homeOk; rw [q]; rfl
theorem homeOk_bad {h : GHome} {n : Int} {i : Nat} (hi : i < h.queue.length) (hf : wofN h.queue[i].who n = false) : homeOk h n = false := by
  have : (h.queue.all fun w => wofN w.who n) = false := by rw [List.all_eq_false]; exact ⟨h.queue[i], List.getElem_mem hi, by simp [hf]⟩
  unfold homeOk
  rw [this, Bool.and_false]
theorem homeOk_good {h : GHome} {n : Int} (q : homeHd h n = true) (hf : ∀ j, (hj : j < h.queue.length) → wofN h.queue[j].who n = true) : homeOk h n = true := by
  unfold homeOk
  rw [q, all_of (p := fun w : GWait => wofN w.who n) hf]
  rfl
theorem homeOk_any (h : GHome) (n : Int) : (homeHd h n && !(h.queue.any fun w => !(inR n 1 4 && wofN w.who n))) = homeOk h n := by
  unfold homeOk
  by_cases q : homeHd h n = true
  · have hn : inR n 1 4 = true := by
      unfold homeHd at q
      simp only [Bool.and_eq_true] at q
      exact q.1.1.1.1.1.1
    rw [hn]
    simp only [Bool.true_and]
    rw [all_not_any]
  · have q : homeHd h n = false := by simpa using q
    rw [q]
    rfl
end Go.Tw

namespace Go.Tw
def nodeHd (x : GNode) (n : Int) : Bool := inR n 1 4 && inR x.id 0 (IntKind.wrap .i64 (n - 1)) && decide ((x.frames.length : Int) = 6) && decide ((x.homes.length : Int) = 6) && decide ((x.out.length : Int) = n) && decide ((x.in_.length : Int) = n)
def gotOk (r : GReceiver) : Bool := inR r.got 0 100000
def nodeOk (x : GNode) (n : Int) : Bool := nodeHd x n && x.frames.all frameOk && (x.homes.all fun h => homeOk h n) && x.out.all senderOk && x.in_.all gotOk
theorem all_no {α : Type} {xs : List α} {p : α → Bool} {i : Nat} (h : i < xs.length) (hp : p xs[i] = false) : xs.all p = false := by
  rw [List.all_eq_false]; exact ⟨xs[i], List.getElem_mem h, by simp [hp]⟩
theorem nodeOk_hd {x : GNode} {n : Int} (h : nodeHd x n = false) : nodeOk x n = false := by unfold nodeOk; simp [h]
theorem nodeOk_bad1 {x : GNode} {n : Int} {i : Nat} (h1 : i < x.frames.length) (h2 : i < x.homes.length) (h : (!(frameOk x.frames[i]) || !(homeOk x.homes[i] n)) = true) : nodeOk x n = false := by
  unfold nodeOk
  cases hf : frameOk x.frames[i] with
  | false => rw [all_no h1 hf]; simp
  | true =>
    rw [hf] at h
    rw [all_no (p := fun h => homeOk h n) h2 (by simpa using h)]
    simp
theorem nodeOk_bad2 {x : GNode} {n : Int} {i : Nat} (h1 : i < x.out.length) (h2 : i < x.in_.length) (h : (!(senderOk x.out[i]) || !(inR x.in_[i].got 0 100000)) = true) : nodeOk x n = false := by
  unfold nodeOk
  cases hf : senderOk x.out[i] with
  | false => rw [all_no h1 hf]; simp
  | true =>
    rw [hf] at h
    rw [all_no (p := gotOk) h2 (by simpa [gotOk] using h)]
    simp
theorem nodeOk_good {x : GNode} {n : Int} (h : nodeHd x n = true) (h1 : ∀ j, (hj : j < x.frames.length) → frameOk x.frames[j] = true) (h2 : ∀ j, (hj : j < x.homes.length) → homeOk x.homes[j] n = true)
    (h3 : ∀ j, (hj : j < x.out.length) → senderOk x.out[j] = true) (h4 : ∀ j, (hj : j < x.in_.length) → inR x.in_[j].got 0 100000 = true) : nodeOk x n = true := by
  unfold nodeOk
  rw [h, all_of h1, all_of (p := fun h => homeOk h n) h2, all_of h3, all_of (p := gotOk) h4]
  rfl
theorem nodeHd_len {x : GNode} {n : Int} (h : nodeHd x n = true) : (1 ≤ n ∧ n ≤ 4) ∧ x.frames.length = 6 ∧ x.homes.length = 6 ∧ (x.out.length : Int) = n ∧ (x.in_.length : Int) = n := by
  unfold nodeHd inR at h
  simp at h
  omega
end Go.Tw

namespace Go.Tw
theorem enc_tail {α : Type} (f : α → List T) (xs : List α) : (enc f xs).tail = enc f xs.tail := by cases xs <;> rfl
attribute [go_sem] enc_tail
def cacheAdd (l : List GBlock) (b : GBlock) : List GBlock := if blockOk b = true then (if 5 ≤ l.length then l.drop 1 else l) ++ [b] else l
theorem cacheAdd_no {l : List GBlock} {b : GBlock} (h : blockOk b = false) : cacheAdd l b = l := by unfold cacheAdd; rw [if_neg (by simp [h])]
theorem cacheAdd_full {l : List GBlock} {b : GBlock} (h : blockOk b = true) (h5 : 5 ≤ l.length) : cacheAdd l b = l.drop 1 ++ [b] := by unfold cacheAdd; rw [if_pos h, if_pos h5]
theorem cacheAdd_room {l : List GBlock} {b : GBlock} (h : blockOk b = true) (h5 : ¬ 5 ≤ l.length) : cacheAdd l b = l ++ [b] := by unfold cacheAdd; rw [if_pos h, if_neg h5]
theorem cacheAdd_len (l : List GBlock) (b : GBlock) : (cacheAdd l b).length ≤ max l.length 5 := by
  unfold cacheAdd
  split
  · split <;> simp <;> omega
  · omega
theorem cacheAdd_mem {l : List GBlock} {b a : GBlock} (h : a ∈ cacheAdd l b) : a ∈ l ∨ a = b := by
  unfold cacheAdd at h
  split at h
  · rcases List.mem_append.1 h with h | h
    · split at h
      · exact Or.inl (List.mem_of_mem_drop h)
      · exact Or.inl h
    · exact Or.inr (by simpa using h)
  · exact Or.inl h
theorem sum_drop (f : GBlock → Nat) : ∀ (l : List GBlock) (n : Nat), ((l.drop n).map f).sum ≤ (l.map f).sum
  | [], n => by simp
  | x :: l, 0 => by simp
  | x :: l, n + 1 => by have := sum_drop f l n; simp only [List.drop_succ_cons, List.map_cons, List.sum_cons]; omega
theorem cacheAdd_sum (f : GBlock → Nat) (l : List GBlock) (b : GBlock) : ((cacheAdd l b).map f).sum ≤ (l.map f).sum + f b := by
  unfold cacheAdd
  split
  · split
    · have := sum_drop f l 1
      rw [List.map_append, List.sum_append]
      simp only [List.map_cons, List.map_nil, List.sum_cons, List.sum_nil]
      omega
    · simp
  · omega
def purge (l : List GBlock) (page : Int) : List GBlock := l.filter fun b => decide (pageOf b ≠ page)
theorem purge_zero (l : List GBlock) (page : Int) : purge (l.take 0) page = [] := rfl
theorem purge_step {l : List GBlock} {page : Int} {i : Nat} (h : i < l.length) : purge (l.take (i + 1)) page = purge (l.take i) page ++ (if pageOf l[i] = page then [] else [l[i]]) := by
  unfold purge
  rw [← List.take_append_getElem h, List.filter_append]
  by_cases hp : pageOf l[i] = page <;> simp [hp]
theorem purge_full (l : List GBlock) (page : Int) : purge (l.take l.length) page = purge l page := by rw [List.take_length]
theorem purge_len (l : List GBlock) (page : Int) : (purge l page).length ≤ l.length := List.length_filter_le _ _
theorem purge_mem {l : List GBlock} {page : Int} {a : GBlock} (h : a ∈ purge l page) : a ∈ l := (List.mem_filter.1 h).1
theorem purge_sum (f : GBlock → Nat) (page : Int) : ∀ l : List GBlock, ((purge l page).map f).sum ≤ (l.map f).sum
  | [] => by simp [purge]
  | x :: l => by
    have := purge_sum f page l
    unfold purge at *
    rw [List.filter_cons]
    split <;> simp only [List.map_cons, List.sum_cons] <;> omega
end Go.Tw

namespace Go.Tw
theorem work_regs (h : GHart) (x : GIns) (got : Int) : (work h x got).1.regs.length = h.regs.length := by
  unfold work
  by_cases q : hartOk h = true ∧ h.state = 0 ∧ isW got = true
  · rw [if_pos q]
    by_cases qi : insOk x = true
    · rw [if_pos qi]
      split; · simp
      split; · simp
      split; · simp
      split; · simp
      split; · simp
      split; · simp
      split; · simp
      split; · simp
      split <;> simp
    · rw [if_neg qi]
  · rw [if_neg q]
theorem word_isW (n : Int) : isW (word n) = true := by unfold isW word inR; simp; omega
theorem work_put {h : GHart} {x : GIns} {got : Int} (hp : 0 ≤ (work h x got).2) : hartOk h = true ∧ h.state = 0 ∧ isW got = true ∧ insOk x = true ∧ (x.op = 5 ∨ x.op = 6) ∧ isW (work h x got).2 = true := by
  by_cases q : hartOk h = true ∧ h.state = 0 ∧ isW got = true
  · by_cases qi : insOk x = true
    · refine ⟨q.1, q.2.1, q.2.2, qi, ?_⟩
      obtain ⟨qw, ql, -, -⟩ := hart_facts q.1
      have qb := (insOk_range qi).2.2.2.1
      have hb : x.b.toNat < h.regs.length := by omega
      have hw := wordsOk_get qw hb
      unfold work at hp ⊢
      rw [if_pos q, if_pos qi] at hp ⊢
      by_cases e1 : x.op = 1
      · rw [if_pos e1] at hp; exact absurd (show (0:Int) ≤ -1 from hp) (by decide)
      rw [if_neg e1] at hp ⊢
      by_cases e2 : x.op = 2
      · rw [if_pos e2] at hp; exact absurd (show (0:Int) ≤ -1 from hp) (by decide)
      rw [if_neg e2] at hp ⊢
      by_cases e10 : x.op = 10
      · rw [if_pos e10] at hp; exact absurd (show (0:Int) ≤ -1 from hp) (by decide)
      rw [if_neg e10] at hp ⊢
      by_cases e3 : x.op = 3
      · rw [if_pos e3] at hp; exact absurd (show (0:Int) ≤ -1 from hp) (by decide)
      rw [if_neg e3] at hp ⊢
      by_cases e4 : x.op = 4
      · rw [if_pos e4] at hp; exact absurd (show (0:Int) ≤ -1 from hp) (by decide)
      rw [if_neg e4] at hp ⊢
      by_cases e5 : x.op = 5
      · rw [if_pos e5]
        refine ⟨Or.inl e5, ?_⟩
        simp only [List.getD_eq_getElem?_getD, List.getElem?_eq_getElem hb, Option.getD_some]
        unfold isW
        exact (inR_iff _ _ _).2 hw
      rw [if_neg e5] at hp ⊢
      by_cases e6 : x.op = 6
      · rw [if_pos e6]
        exact ⟨Or.inr e6, word_isW _⟩
      rw [if_neg e6] at hp
      by_cases e7 : x.op = 7
      · rw [if_pos e7] at hp; exact absurd (show (0:Int) ≤ -1 from hp) (by decide)
      rw [if_neg e7] at hp
      by_cases e8 : x.op = 8
      · rw [if_pos e8] at hp; exact absurd (show (0:Int) ≤ -1 from hp) (by decide)
      rw [if_neg e8] at hp
      exact absurd (show (0:Int) ≤ -1 from hp) (by decide)
    · unfold work at hp
      rw [if_pos q, if_neg qi] at hp
      exact absurd (show (0:Int) ≤ -1 from hp) (by decide)
  · rw [work_no q] at hp
    exact absurd (show (0:Int) ≤ -1 from hp) (by decide)
def z0 : GHart := ⟨[], 0, 0⟩
end Go.Tw

namespace Go.Tw
def eG (s : Int) : List T := [.int .i64 s, .hole]
def kept (xs : List GBlock) (page : Int) (j : Nat) : Nat := (purge (xs.take j) page).length
def Del (xs : List GBlock) (page : Int) (j : Nat) (es : Els) : Prop :=
  ∃ gl : List Int, es = enc eBlock (purge (xs.take j) page) ++ enc eG gl ++ enc eBlock (xs.drop j) ∧ kept xs page j + gl.length = j ∧ 0 < gl.length
theorem take_app {α : Type} {l X : List α} {k : Nat} (h : k ≤ l.length) : List.take k (List.take k l ++ X) = List.take k l := by
  rw [List.take_append_of_le_length (by simp; omega), List.take_take, Nat.min_self]
theorem purge_nil (page : Int) : purge [] page = [] := rfl
section
variable {xs : List GBlock} {page : Int} {j : Nat} {es : Els}
theorem Del.len (h : Del xs page j es) (hj : j ≤ xs.length) : es.length = xs.length := by
  obtain ⟨gl, rfl, h1, h2⟩ := h
  simp only [List.length_append, enc_length, List.length_drop]
  unfold kept at h1
  omega
theorem Del.lt (h : Del xs page j es) : kept xs page j < j := by
  obtain ⟨gl, -, h1, h2⟩ := h
  omega
theorem Del.at (h : Del xs page j es) (hj : j < xs.length) : es[j]? = some [.int .i64 xs[j].start, .sl 5 (enc eIns xs[j].list)] := by
  obtain ⟨gl, rfl, h1, h2⟩ := h
  unfold kept at h1
  rw [List.getElem?_append_right (by simp only [List.length_append, enc_length]; omega)]
  simp only [List.length_append, enc_length]
  rw [show j - ((purge (xs.take j) page).length + gl.length) = 0 from by omega, enc_get, List.getElem?_drop]
  simp [hj, eBlock]
theorem Del.gap (h : Del xs page j es) : ∃ s, es[kept xs page j]? = some [.int .i64 s, .hole] := by
  obtain ⟨gl, rfl, h1, h2⟩ := h
  match gl, h2 with
  | s :: gl, _ =>
    refine ⟨s, ?_⟩
    unfold kept
    rw [List.append_assoc, List.getElem?_append_right (by simp [enc_length])]
    simp [enc_length, enc, eG]
theorem set_mid {α : Type} (a b c : List α) (x y : α) : (a ++ (b ++ x :: c)).set (a.length + b.length) y = a ++ (b ++ y :: c) := by
  rw [List.set_append_right _ _ (by omega), Nat.add_sub_cancel_left, List.set_append_right _ _ (by omega), Nat.sub_self]
  rfl
theorem Del.skip (h : Del xs page j es) (hj : j < xs.length) (hp : pageOf xs[j] = page) : Del xs page (j + 1) (es.set j [.int .i64 xs[j].start, .hole]) ∧ kept xs page (j + 1) = kept xs page j := by
  obtain ⟨gl, rfl, h1, h2⟩ := h
  have hk : purge (xs.take (j + 1)) page = purge (xs.take j) page := by rw [purge_step hj, if_pos hp, List.append_nil]
  refine ⟨⟨gl ++ [xs[j].start], ?_, ?_, by simp⟩, by unfold kept; rw [hk]⟩
  · rw [hk]
    unfold kept at h1
    have e1 : enc eBlock (xs.drop j) = eBlock xs[j] :: enc eBlock (xs.drop (j + 1)) := by rw [List.drop_eq_getElem_cons hj]; rfl
    have e2 : (enc eBlock (purge (xs.take j) page)).length + (enc eG gl).length = j := by simp only [enc_length]; exact h1
    rw [e1, List.append_assoc]
    have := set_mid (enc eBlock (purge (xs.take j) page)) (enc eG gl) (enc eBlock (xs.drop (j + 1))) (eBlock xs[j]) [.int .i64 xs[j].start, .hole]
    rw [e2] at this
    rw [this]
    simp [enc, eG]
  · unfold kept at *
    rw [hk]
    simp only [List.length_append, List.length_singleton]
    omega
theorem Del.keep (h : Del xs page j es) (hj : j < xs.length) (hp : ¬ pageOf xs[j] = page) :
    Del xs page (j + 1) ((es.set j [.int .i64 xs[j].start, .hole]).set (kept xs page j) [.int .i64 xs[j].start, .sl 5 (enc eIns xs[j].list)]) ∧ kept xs page (j + 1) = kept xs page j + 1 := by
  obtain ⟨gl, rfl, h1, h2⟩ := h
  have hk : purge (xs.take (j + 1)) page = purge (xs.take j) page ++ [xs[j]] := by rw [purge_step hj, if_neg hp]
  match gl, h2, h1 with
  | s :: gl, _, h1 =>
    refine ⟨⟨gl ++ [xs[j].start], ?_, ?_, by simp⟩, by unfold kept; rw [hk]; simp⟩
    · rw [hk]
      unfold kept at *
      have e1 : enc eBlock (xs.drop j) = eBlock xs[j] :: enc eBlock (xs.drop (j + 1)) := by rw [List.drop_eq_getElem_cons hj]; rfl
      have e2 : (enc eBlock (purge (xs.take j) page)).length + (enc eG (s :: gl)).length = j := by simp only [enc_length]; exact h1
      rw [e1, List.append_assoc]
      have e3 : (enc eBlock (purge (xs.take j) page) ++ (enc eG (s :: gl) ++ eBlock xs[j] :: enc eBlock (xs.drop (j + 1)))).set j [.int .i64 xs[j].start, .hole] =
          enc eBlock (purge (xs.take j) page) ++ (enc eG (s :: gl) ++ [.int .i64 xs[j].start, .hole] :: enc eBlock (xs.drop (j + 1))) := by
        have := set_mid (enc eBlock (purge (xs.take j) page)) (enc eG (s :: gl)) (enc eBlock (xs.drop (j + 1))) (eBlock xs[j]) [.int .i64 xs[j].start, .hole]
        rwa [e2] at this
      rw [e3]
      have e4 : enc eG (s :: gl) = eG s :: enc eG gl := rfl
      rw [e4]
      have := set_mid (enc eBlock (purge (xs.take j) page)) [] (enc eG gl ++ [.int .i64 xs[j].start, .hole] :: enc eBlock (xs.drop (j + 1))) (eG s) [.int .i64 xs[j].start, .sl 5 (enc eIns xs[j].list)]
      simp only [List.length_nil, Nat.add_zero, List.nil_append, enc_length] at this
      rw [List.cons_append, this]
      simp [enc, eG, eBlock]
    · unfold kept at *
      rw [hk]
      simp only [List.length_append, List.length_cons, List.length_nil] at *
      omega
theorem Del.start {i : Nat} (hi : i < xs.length) (hp : pageOf xs[i] = page) (hall : ∀ k, (hk : k < xs.length) → k < i → ¬ pageOf xs[k] = page) :
    Del xs page (i + 1) ((enc eBlock xs).set i [.int .i64 xs[i].start, .hole]) ∧ kept xs page (i + 1) = i := by
  have h0 : purge (xs.take i) page = xs.take i := by
    unfold purge
    rw [List.filter_eq_self]
    intro a ha
    obtain ⟨k, hk, rfl⟩ := List.getElem_of_mem ha
    simp only [List.length_take] at hk
    simp only [List.getElem_take, decide_eq_true_eq]
    exact hall k (by omega) (by omega)
  have hk : purge (xs.take (i + 1)) page = xs.take i := by rw [purge_step hi, if_pos hp, List.append_nil, h0]
  have hki : kept xs page (i + 1) = i := by unfold kept; rw [hk]; simp; omega
  refine ⟨⟨[xs[i].start], ?_, by rw [hki]; rfl, by simp⟩, hki⟩
  rw [hk]
  have e1 : xs = xs.take i ++ xs[i] :: xs.drop (i + 1) := by rw [← List.drop_eq_getElem_cons hi, List.take_append_drop]
  have e2 : enc eBlock xs = enc eBlock (xs.take i) ++ ([] ++ eBlock xs[i] :: enc eBlock (xs.drop (i + 1))) := by
    rw [List.nil_append]
    have e0 := congrArg (enc eBlock) e1
    rw [e0]
    unfold enc
    rw [List.map_append]
    rfl
  have e3 : (enc eBlock (xs.take i)).length + ([] : Els).length = i := by simp [enc_length]; omega
  rw [e2]
  have := set_mid (enc eBlock (xs.take i)) [] (enc eBlock (xs.drop (i + 1))) (eBlock xs[i]) [.int .i64 xs[i].start, .hole]
  rw [e3] at this
  rw [this]
  simp [enc, eG]
theorem Del.fin (h : Del xs page xs.length es) : es.take (kept xs page xs.length) = enc eBlock (purge xs page) ∧ kept xs page xs.length = (purge xs page).length ∧ (purge xs page).length < xs.length := by
  have hlt := h.lt
  obtain ⟨gl, rfl, h1, h2⟩ := h
  have hk : kept xs page xs.length = (purge xs page).length := by unfold kept; rw [List.take_length]
  refine ⟨?_, hk, by omega⟩
  rw [hk, List.take_length, List.append_assoc, List.take_left' (by simp [enc_length])]
theorem purge_none {xs : List GBlock} {page : Int} (h : idxOf (fun b => decide (pageOf b = page)) xs = -1) : purge xs page = xs := by
  unfold purge
  rw [List.filter_eq_self]
  intro a ha
  unfold idxOf at h
  split at h
  · omega
  · rename_i hn
    rw [List.findIdx?_eq_none_iff] at hn
    simpa using hn a ha
theorem idx_some {α : Type} {p : α → Bool} {xs : List α} (h : ¬ idxOf p xs = -1) : ∃ i : Nat, idxOf p xs = i ∧ ∃ hi : i < xs.length, p xs[i] = true ∧ ∀ k, (hk : k < xs.length) → k < i → p xs[k] = false := by
  unfold idxOf at *
  split at h
  · rename_i i hi
    rw [List.findIdx?_eq_some_iff_getElem] at hi
    obtain ⟨h1, h2, h3⟩ := hi
    exact ⟨i, by simp, h1, h2, fun k hk hki => by simpa using h3 k hki⟩
  · omega
end
end Go.Tw

namespace Go.Tw
end Go.Tw

namespace Go.Tw
def packetHd (p : GPacket) (n : Int) : Bool := inR n 1 4 && wofN p.from_ n && wofN p.to n && inR p.n 0 100000
def packetOk (p : GPacket) (n : Int) : Bool := packetHd p n && (if p.ack = true then decide (p.msg.kind = 0) && decide (p.msg.page = 0) && !p.msg.own && decide (p.msg.list.length = 0) else msgOk p.msg)
def worldHd (w : GWorld) : Bool := inR w.size 1 4 && decide ((w.nodes.length : Int) = w.size) && decide ((w.net.length : Int) ≤ 40)
def nodeAt (s : Int) (i : Nat) (x : GNode) : Bool := nodeOk x s && decide (x.id = (i : Int))
def nodesAt (w : GWorld) : Bool := (List.range w.nodes.length).all fun i => match w.nodes[i]? with
  | some x => nodeAt w.size i x
  | none => true
def worldOk (w : GWorld) : Bool := worldHd w && nodesAt w && w.net.all fun p => packetOk p w.size
theorem all_at {α : Type} {xs : List α} {p : α → Bool} (h : xs.all p = true) {i : Nat} (hi : i < xs.length) : p xs[i] = true := by
  rw [List.all_eq_true] at h
  exact h _ (List.getElem_mem hi)
theorem nodeOk_facts {x : GNode} {n : Int} (h : nodeOk x n = true) : x.frames.length = 6 ∧ x.homes.length = 6 ∧ (x.out.length : Int) = n ∧ (x.in_.length : Int) = n ∧
    (∀ i, (hi : i < x.frames.length) → frameOk x.frames[i] = true) ∧ (∀ i, (hi : i < x.homes.length) → homeOk x.homes[i] n = true) ∧ (∀ i, (hi : i < x.out.length) → senderOk x.out[i] = true) ∧ (∀ i, (hi : i < x.in_.length) → gotOk x.in_[i] = true) := by
  unfold nodeOk at h
  simp only [Bool.and_eq_true] at h
  obtain ⟨⟨⟨⟨h0, h1⟩, h2⟩, h3⟩, h4⟩ := h
  unfold nodeHd at h0
  simp only [Bool.and_eq_true, decide_eq_true_eq] at h0
  exact ⟨by omega, by omega, by omega, by omega, fun i hi => all_at h1 hi, fun i hi => all_at h2 hi, fun i hi => all_at h3 hi, fun i hi => all_at h4 hi⟩
theorem senderOk_facts {s : GSender} (h : senderOk s = true) : (0 ≤ s.base ∧ s.base ≤ 100000) ∧ s.queue.length ≤ 30 ∧ ∀ i, (hi : i < s.queue.length) → msgOk s.queue[i] = true := by
  unfold senderOk sendHd at h
  simp only [Bool.and_eq_true, decide_eq_true_eq] at h
  obtain ⟨⟨⟨h1, h2⟩, h3⟩, h4⟩ := h
  exact ⟨(inR_iff _ _ _).1 h1, by omega, fun i hi => all_at h4 hi⟩
def comN (q : List GMsg) (base got : Int) : Nat → List GMsg
  | 0 => []
  | k + 1 => match q[k]? with
    | some m => if got ≤ base + (k : Int) then comN q base got k ++ [m] else comN q base got k
    | none => comN q base got k
def zNode : GNode := ⟨0, [], [], [], []⟩
def zHome : GHome := ⟨[], 0, [], false, ⟨0, false⟩, 0, []⟩
def zFrame : GFrame := ⟨0, [], false⟩
def comingOf (w : GWorld) (a b : Nat) : List GMsg :=
  comN ((w.nodes.getD a zNode).out.getD b ⟨0, []⟩).queue ((w.nodes.getD a zNode).out.getD b ⟨0, []⟩).base ((w.nodes.getD b zNode).in_.getD a ⟨0⟩).got ((w.nodes.getD a zNode).out.getD b ⟨0, []⟩).queue.length
def lastL (p : GMsg → Bool) (l : List GMsg) : List Int := match l.reverse.find? p with
  | some m => m.list
  | none => []
def lastP (kind page : Int) (m : GMsg) : Bool := decide (m.kind = kind) && decide (m.page = page) && (m.own || decide (kind = 7))
def truthOf (w : GWorld) (p : Nat) : List Int :=
  let d := p % w.size.toNat
  let h := (w.nodes.getD d zNode).homes.getD p zHome
  if h.owner < 0 then h.list
  else
    let o := h.owner.toNat
    let f := (w.nodes.getD o zNode).frames.getD p zFrame
    if f.state = 2 then f.list
    else if 0 < (lastL (lastP 3 p) (comingOf w d o)).length then lastL (lastP 3 p) (comingOf w d o) else lastL (lastP 7 p) (comingOf w o d)
def truthR (w : GWorld) (page : Int) : List Int := if worldOk w = true ∧ 0 ≤ page ∧ page ≤ 5 then truthOf w page.toNat else []
def RevTo (xs ys : List GMsg) (i : Nat) : Prop := ys.length = xs.length ∧ ∀ k, (h : k < ys.length) → (h2 : k < xs.length) → ys[k] = if k < i ∨ xs.length - 1 - i < k then xs[xs.length - 1 - k]'(by omega) else xs[k]
theorem RevTo.start (xs : List GMsg) : RevTo xs xs 0 := ⟨rfl, fun k h h2 => by rw [if_neg (by omega)]⟩
theorem RevTo.fin {xs ys : List GMsg} {i : Nat} (h : RevTo xs ys i) (hi : ¬ i < xs.length - 1 - i) (hb : i ≤ xs.length) : ys = xs.reverse := by
  obtain ⟨hl, hk⟩ := h
  apply List.ext_getElem
  · simpa using hl
  · intro k q1 q2
    rw [hk k q1 (by omega), List.getElem_reverse]
    split
    · rfl
    · congr 1
      omega
def memN (w : GWorld) : Nat → Option (List Int)
  | 0 => some []
  | k + 1 => match memN w k with
    | some m => if (truthR w k).length = 4 then some (m ++ truthR w k) else none
    | none => none
def memory (w : GWorld) : List Int := (memN w 6).getD []
end Go.Tw

namespace Go.Tw
end Go.Tw

namespace Go.Tw
end Go.Tw

namespace Go.Tw
theorem isW_iff (x : Int) : isW x = true ↔ 0 ≤ x ∧ x ≤ 65535 := inR_iff _ _ _
theorem work_aim {h : GHart} {x : GIns} {got : Int} (q : 0 ≤ (work h x got).2) : 0 ≤ target x h.regs := by
  obtain ⟨q1, -, -, q4, q5, -⟩ := work_put q
  obtain ⟨-, ql, -, -⟩ := hart_facts q1
  unfold target
  rw [if_pos ⟨q4, by unfold aims; rcases q5 with q | q <;> simp [q], by omega⟩]
  exact (addr_range _).1
end Go.Tw

namespace Go.Tw
end Go.Tw

namespace Go.Tw
theorem getD_set_ne {m : List Int} {i j : Nat} {v : Int} (h : i ≠ j) : (m.set i v).getD j 0 = m.getD j 0 := by
  rw [List.getD_eq_getElem?_getD, List.getD_eq_getElem?_getD, List.getElem?_set_ne h]
end Go.Tw

namespace Go.Tw
end Go.Tw

namespace Go.Tw
end Go.Tw

namespace Go.Tw
end Go.Tw

namespace Go.Tw
end Go.Tw

namespace Go.Tw
def zIns : GIns := ⟨0, 0, 0, 0, 0⟩
def inBlk (b : GBlock) (pc : Int) : Bool := blockOk b && decide (b.start ≤ pc) && decide (pc < b.start + b.list.length)
def atI (b : GBlock) (pc : Int) : GIns := if inBlk b pc = true then b.list.getD (pc - b.start).toNat zIns else zIns
def cfI (l : List GBlock) (pc : Int) : GIns := match l.find? fun b => inBlk b pc with
  | some b => atI b pc
  | none => zIns
def cfB (l : List GBlock) (pc : Int) : Bool := l.any fun b => inBlk b pc
theorem cf_none {l : List GBlock} {pc : Int} (h : ∀ i, (hi : i < l.length) → inBlk l[i] pc = false) : cfI l pc = zIns ∧ cfB l pc = false := by
  have hn : l.find? (fun b => inBlk b pc) = none := by
    rw [List.find?_eq_none]
    intro b hb
    obtain ⟨i, hi, rfl⟩ := List.getElem_of_mem hb
    simp [h i hi]
  refine ⟨by unfold cfI; rw [hn], ?_⟩
  unfold cfB
  rw [List.any_eq_false]
  intro b hb
  obtain ⟨i, hi, rfl⟩ := List.getElem_of_mem hb
  simp [h i hi]
theorem cf_at {l : List GBlock} {pc : Int} {i : Nat} (hi : i < l.length) (h : ∀ j, (hj : j < l.length) → j < i → inBlk l[j] pc = false) (ht : inBlk l[i] pc = true) : cfI l pc = atI l[i] pc ∧ cfB l pc = true := by
  have hn : l.find? (fun b => inBlk b pc) = some l[i] := by
    rw [List.find?_eq_some_iff_getElem]
    exact ⟨ht, i, hi, rfl, fun j hj => by simp [h j (by omega) hj]⟩
  refine ⟨by unfold cfI; rw [hn], ?_⟩
  unfold cfB
  rw [List.any_eq_true]
  exact ⟨l[i], List.getElem_mem hi, ht⟩
theorem blockHd_of {b : GBlock} (h : blockOk b = true) : (0 ≤ b.start ∧ b.start ≤ 23) ∧ 1 ≤ (b.list.length : Int) ∧ (b.list.length : Int) ≤ 4 - b.start % 4 := by
  have : blockHd b = true := by
    cases hh : blockHd b with
    | true => rfl
    | false => rw [blockOk_hd hh] at h; cases h
  unfold blockHd at this
  rw [Bool.and_eq_true, inR_iff, inR_iff] at this
  exact this
def GBlock.few (b : GBlock) : Prop := b.list.length ≤ 5
def GFrame.few (f : GFrame) : Prop := f.list.length ≤ 5
theorem GBlock.few.small {b : GBlock} (h : b.few) : b.small := by unfold GBlock.few at h; unfold GBlock.small; omega
theorem GFrame.few.small {f : GFrame} (h : f.few) : f.small := by unfold GFrame.few at h; unfold GFrame.small; omega
end Go.Tw

namespace Go.Tw
def zSender : GSender := ⟨0, []⟩
end Go.Tw

namespace Go.Tw
def queueB (s : GSender) (m : GMsg) : Bool := senderOk s && msgOk m && decide (s.queue.length ≠ 30) && decide (s.base + s.queue.length ≠ 100000)
def queueS (s : GSender) (m : GMsg) : GSender := if queueB s m = true then ⟨s.base, s.queue ++ [m]⟩ else s
def lacks (f : GFrame) (own : Bool) : Bool := decide (f.state = 0) || (own && decide (f.state ≠ 2))
def wantMsg (page : Int) (own : Bool) : GMsg := ⟨if own = true then 2 else 1, page, false, []⟩
def setFrame (n : GNode) (p : Nat) (f : GFrame) : GNode := { n with frames := n.frames.set p f }
def wantOk (n : GNode) (nodes page : Int) (own : Bool) : Bool :=
  nodeOk n nodes && inR page 0 5 && !(n.frames.getD page.toNat zFrame).asked && lacks (n.frames.getD page.toNat zFrame) own && queueB (n.out.getD (page % nodes).toNat zSender) (wantMsg page own)
def want (n : GNode) (nodes page : Int) (own : Bool) : GNode :=
  if wantOk n nodes page own = true then
    { n with out := n.out.set (page % nodes).toNat (queueS (n.out.getD (page % nodes).toNat zSender) (wantMsg page own)), frames := n.frames.set page.toNat { n.frames.getD page.toNat zFrame with asked := true } }
  else n
end Go.Tw

