/- The layer: trees, states, rules; plain functions. -/
import Derived.Test.YtafocmjoejchbaaBaseD
set_option linter.unusedSimpArgs false
set_option linter.unusedVariables false
/- Marks, by type. -/
namespace Go.Tw
theorem markE_add (k : Int) (a : Nat) : ∀ b, markE (markE k a) b = markE k (a + b)
  | 0 => rfl
  | b + 1 => by show IntKind.wrap .i64 (markE (markE k a) b + 1) = _; rw [markE_add k a b]; rfl
theorem markE_zero (k : Int) : markE k 0 = k := rfl
theorem markE_nn (m : Nat) (h : m ≤ 4611686018427387904) : 0 ≤ markE 1 m := by rw [markE_pos _ _ (by omega) (by omega)]; omega
def mB (k : Int) (i : Nat) : Bool := (markE k i).tmod 3 == 0
theorem mB_def (k : Int) (i : Nat) : ((markE k i).tmod 3 == 0) = mB k i := rfl
theorem upto_getE {α : Type} (f : Nat → α) (xs : List α) {i : Nat} (h : i < xs.length) (h2 : i < (upto f xs i).length) : (upto f xs i)[i] = xs[i] := by
  have := upto_get f xs h
  rw [List.getElem?_eq_getElem h2] at this
  simpa using this
theorem cnt_le {α : Type} {f g : α → Nat} (h : ∀ a, f a ≤ 9 * (1 + g a)) : ∀ xs : List α, (xs.map f).sum ≤ 9 * (xs.length + (xs.map g).sum)
  | [] => by simp
  | x :: xs => by have := h x; have := cnt_le h xs; simp only [List.map_cons, List.sum_cons, List.length_cons]; omega
def mWait (k : Int) (i : Nat) : GWait := ⟨markE k (2 * i), mB k (2 * i + 1)⟩
def mReceiver (k : Int) (i : Nat) : GReceiver := ⟨markE k (i)⟩
def mDeed (k : Int) (i : Nat) : GDeed := ⟨markE k (4 * i), markE k (4 * i + 1), markE k (4 * i + 2), markE k (4 * i + 3)⟩
def fIntS (k : Int) (xs : List (List Int)) (j : Nat) : List Int := marks (markE k (sumTo List.length xs j)) (xs.getD j []).length
theorem fIntS_at {k : Int} {xs : List (List Int)} {i : Nat} (h : i < xs.length) : fIntS k xs i = marks (markE k (sumTo List.length xs i)) xs[i].length := by simp [fIntS, h]
def nMsg (x : GMsg) : Nat := 3 + x.list.length
def mkMsg (k : Int) (s : Nat) (x : GMsg) : GMsg := ⟨markE k (s), markE k (s + 1), mB k (s + 2), marks (markE k (s + 3)) x.list.length⟩
def fMsg (k : Int) (xs : List GMsg) (j : Nat) : GMsg := mkMsg k (sumTo nMsg xs j) (xs.getD j (⟨0, 0, false, []⟩ : GMsg))
theorem fMsg_at {k : Int} {xs : List GMsg} {i : Nat} (h : i < xs.length) : fMsg k xs i = mkMsg k (sumTo nMsg xs i) xs[i] := by simp [fMsg, h]
def mvMsg (k : Int) (x : GMsg) : GMsg := ⟨x.kind, x.page, x.own, marks (k) x.list.length⟩
def nvMsg (x : GMsg) : Nat := x.list.length
theorem nMsg_le (x : GMsg) : nMsg x ≤ 9 * (1 + x.tot) := by
  unfold nMsg GMsg.tot
  omega
theorem nvMsg_le (x : GMsg) : nvMsg x ≤ 9 * x.tot := by
  unfold nvMsg GMsg.tot
  omega
def nSender (x : GSender) : Nat := 1 + (x.queue.map nMsg).sum
def mkSender (k : Int) (s : Nat) (x : GSender) : GSender := ⟨markE k (s), (List.range x.queue.length).map (fMsg (markE k (s + 1)) x.queue)⟩
def fSender (k : Int) (xs : List GSender) (j : Nat) : GSender := mkSender k (sumTo nSender xs j) (xs.getD j (⟨0, []⟩ : GSender))
theorem fSender_at {k : Int} {xs : List GSender} {i : Nat} (h : i < xs.length) : fSender k xs i = mkSender k (sumTo nSender xs i) xs[i] := by simp [fSender, h]
def mvSender (k : Int) (x : GSender) : GSender := ⟨x.base, (List.range x.queue.length).map (fMsg (k) x.queue)⟩
def nvSender (x : GSender) : Nat := (x.queue.map nMsg).sum
theorem nSender_le (x : GSender) : nSender x ≤ 9 * (1 + x.tot) := by
  have := cnt_le (f := nMsg) (g := fun a => a.tot) nMsg_le x.queue
  unfold nSender GSender.tot
  omega
theorem nvSender_le (x : GSender) : nvSender x ≤ 9 * x.tot := by
  have := cnt_le (f := nMsg) (g := fun a => a.tot) nMsg_le x.queue
  unfold nvSender GSender.tot
  omega
def nPacket (x : GPacket) : Nat := 7 + x.msg.list.length
def mkPacket (k : Int) (s : Nat) (x : GPacket) : GPacket := ⟨markE k (s), markE k (s + 1), mB k (s + 2), markE k (s + 3), ⟨markE k (s + 4), markE k (s + 5), mB k (s + 6), marks (markE k (s + 7)) x.msg.list.length⟩⟩
def fPacket (k : Int) (xs : List GPacket) (j : Nat) : GPacket := mkPacket k (sumTo nPacket xs j) (xs.getD j (⟨0, 0, false, 0, ⟨0, 0, false, []⟩⟩ : GPacket))
theorem fPacket_at {k : Int} {xs : List GPacket} {i : Nat} (h : i < xs.length) : fPacket k xs i = mkPacket k (sumTo nPacket xs i) xs[i] := by simp [fPacket, h]
def mvPacket (k : Int) (x : GPacket) : GPacket := ⟨x.from_, x.to, x.ack, x.n, ⟨x.msg.kind, x.msg.page, x.msg.own, marks (k) x.msg.list.length⟩⟩
def nvPacket (x : GPacket) : Nat := x.msg.list.length
theorem nPacket_le (x : GPacket) : nPacket x ≤ 9 * (1 + x.tot) := by
  unfold nPacket GPacket.tot GMsg.tot
  omega
theorem nvPacket_le (x : GPacket) : nvPacket x ≤ 9 * x.tot := by
  unfold nvPacket GPacket.tot GMsg.tot
  omega
def nFrame (x : GFrame) : Nat := 1 + x.list.length + 1
def mkFrame (k : Int) (s : Nat) (x : GFrame) : GFrame := ⟨markE k (s), marks (markE k (s + 1)) x.list.length, mB k (s + 1 + x.list.length)⟩
def fFrame (k : Int) (xs : List GFrame) (j : Nat) : GFrame := mkFrame k (sumTo nFrame xs j) (xs.getD j (⟨0, [], false⟩ : GFrame))
theorem fFrame_at {k : Int} {xs : List GFrame} {i : Nat} (h : i < xs.length) : fFrame k xs i = mkFrame k (sumTo nFrame xs i) xs[i] := by simp [fFrame, h]
def mvFrame (k : Int) (x : GFrame) : GFrame := ⟨x.state, marks (k) x.list.length, x.asked⟩
def nvFrame (x : GFrame) : Nat := x.list.length
theorem nFrame_le (x : GFrame) : nFrame x ≤ 9 * (1 + x.tot) := by
  unfold nFrame GFrame.tot
  omega
theorem nvFrame_le (x : GFrame) : nvFrame x ≤ 9 * x.tot := by
  unfold nvFrame GFrame.tot
  omega
def nHome (x : GHome) : Nat := x.list.length + 1 + x.readers.length + 4 + 2 * x.queue.length
def mkHome (k : Int) (s : Nat) (x : GHome) : GHome := ⟨marks (markE k (s)) x.list.length, markE k (s + x.list.length), (List.range x.readers.length).map (mB (markE k (s + x.list.length + 1))), mB k (s + x.list.length + 1 + x.readers.length), ⟨markE k (s + x.list.length + 1 + x.readers.length + 1), mB k (s + x.list.length + 1 + x.readers.length + 2)⟩, markE k (s + x.list.length + 1 + x.readers.length + 3), (List.range x.queue.length).map (mWait (markE k (s + x.list.length + 1 + x.readers.length + 4)))⟩
def fHome (k : Int) (xs : List GHome) (j : Nat) : GHome := mkHome k (sumTo nHome xs j) (xs.getD j (⟨[], 0, [], false, ⟨0, false⟩, 0, []⟩ : GHome))
theorem fHome_at {k : Int} {xs : List GHome} {i : Nat} (h : i < xs.length) : fHome k xs i = mkHome k (sumTo nHome xs i) xs[i] := by simp [fHome, h]
def mvHome (k : Int) (x : GHome) : GHome := ⟨marks (k) x.list.length, x.owner, (List.range x.readers.length).map (mB (markE k (x.list.length))), x.busy, ⟨x.now.who, x.now.own⟩, x.acks, (List.range x.queue.length).map (mWait (markE k (x.list.length + x.readers.length)))⟩
def nvHome (x : GHome) : Nat := x.list.length + x.readers.length + 2 * x.queue.length
theorem nHome_le (x : GHome) : nHome x ≤ 9 * (1 + x.tot) := by
  unfold nHome GHome.tot
  omega
theorem nvHome_le (x : GHome) : nvHome x ≤ 9 * x.tot := by
  unfold nvHome GHome.tot
  omega
def nNode (x : GNode) : Nat := 1 + (x.frames.map nFrame).sum + (x.homes.map nHome).sum + (x.out.map nSender).sum + x.in_.length
def mkNode (k : Int) (s : Nat) (x : GNode) : GNode := ⟨markE k (s), (List.range x.frames.length).map (fFrame (markE k (s + 1)) x.frames), (List.range x.homes.length).map (fHome (markE k (s + 1 + (x.frames.map nFrame).sum)) x.homes), (List.range x.out.length).map (fSender (markE k (s + 1 + (x.frames.map nFrame).sum + (x.homes.map nHome).sum)) x.out), (List.range x.in_.length).map (mReceiver (markE k (s + 1 + (x.frames.map nFrame).sum + (x.homes.map nHome).sum + (x.out.map nSender).sum)))⟩
def fNode (k : Int) (xs : List GNode) (j : Nat) : GNode := mkNode k (sumTo nNode xs j) (xs.getD j (⟨0, [], [], [], []⟩ : GNode))
theorem fNode_at {k : Int} {xs : List GNode} {i : Nat} (h : i < xs.length) : fNode k xs i = mkNode k (sumTo nNode xs i) xs[i] := by simp [fNode, h]
def mvNode (k : Int) (x : GNode) : GNode := ⟨x.id, (List.range x.frames.length).map (fFrame (k) x.frames), (List.range x.homes.length).map (fHome (markE k ((x.frames.map nFrame).sum)) x.homes), (List.range x.out.length).map (fSender (markE k ((x.frames.map nFrame).sum + (x.homes.map nHome).sum)) x.out), (List.range x.in_.length).map (mReceiver (markE k ((x.frames.map nFrame).sum + (x.homes.map nHome).sum + (x.out.map nSender).sum)))⟩
def nvNode (x : GNode) : Nat := (x.frames.map nFrame).sum + (x.homes.map nHome).sum + (x.out.map nSender).sum + x.in_.length
theorem nNode_le (x : GNode) : nNode x ≤ 9 * (1 + x.tot) := by
  have := cnt_le (f := nFrame) (g := fun a => a.tot) nFrame_le x.frames
  have := cnt_le (f := nHome) (g := fun a => a.tot) nHome_le x.homes
  have := cnt_le (f := nSender) (g := fun a => a.tot) nSender_le x.out
  unfold nNode GNode.tot
  omega
theorem nvNode_le (x : GNode) : nvNode x ≤ 9 * x.tot := by
  have := cnt_le (f := nFrame) (g := fun a => a.tot) nFrame_le x.frames
  have := cnt_le (f := nHome) (g := fun a => a.tot) nHome_le x.homes
  have := cnt_le (f := nSender) (g := fun a => a.tot) nSender_le x.out
  unfold nvNode GNode.tot
  omega
def mvWorld (k : Int) (x : GWorld) : GWorld := ⟨x.size, (List.range x.nodes.length).map (fNode (k) x.nodes), (List.range x.net.length).map (fPacket (markE k ((x.nodes.map nNode).sum)) x.net)⟩
def nvWorld (x : GWorld) : Nat := (x.nodes.map nNode).sum + (x.net.map nPacket).sum
theorem nvWorld_le (x : GWorld) : nvWorld x ≤ 9 * x.tot := by
  have := cnt_le (f := nNode) (g := fun a => a.tot) nNode_le x.nodes
  have := cnt_le (f := nPacket) (g := fun a => a.tot) nPacket_le x.net
  unfold nvWorld GWorld.tot
  omega
def nHart (x : GHart) : Nat := x.regs.length + 2
def mkHart (k : Int) (s : Nat) (x : GHart) : GHart := ⟨marks (markE k (s)) x.regs.length, markE k (s + x.regs.length), markE k (s + x.regs.length + 1)⟩
def fHart (k : Int) (xs : List GHart) (j : Nat) : GHart := mkHart k (sumTo nHart xs j) (xs.getD j (⟨[], 0, 0⟩ : GHart))
theorem fHart_at {k : Int} {xs : List GHart} {i : Nat} (h : i < xs.length) : fHart k xs i = mkHart k (sumTo nHart xs i) xs[i] := by simp [fHart, h]
def mvHart (k : Int) (x : GHart) : GHart := ⟨marks (k) x.regs.length, x.pc, x.state⟩
def nvHart (x : GHart) : Nat := x.regs.length
theorem nHart_le (x : GHart) : nHart x ≤ 9 * (1 + x.tot) := by
  unfold nHart GHart.tot
  omega
theorem nvHart_le (x : GHart) : nvHart x ≤ 9 * x.tot := by
  unfold nvHart GHart.tot
  omega
def nBlock (x : GBlock) : Nat := 1 + 5 * x.list.length
def mkBlock (k : Int) (s : Nat) (x : GBlock) : GBlock := ⟨markE k (s), (List.range x.list.length).map (mIns (markE k (s + 1)))⟩
def fBlock (k : Int) (xs : List GBlock) (j : Nat) : GBlock := mkBlock k (sumTo nBlock xs j) (xs.getD j (⟨0, []⟩ : GBlock))
theorem fBlock_at {k : Int} {xs : List GBlock} {i : Nat} (h : i < xs.length) : fBlock k xs i = mkBlock k (sumTo nBlock xs i) xs[i] := by simp [fBlock, h]
def mvBlock (k : Int) (x : GBlock) : GBlock := ⟨x.start, (List.range x.list.length).map (mIns (k))⟩
def nvBlock (x : GBlock) : Nat := 5 * x.list.length
theorem nBlock_le (x : GBlock) : nBlock x ≤ 9 * (1 + x.tot) := by
  unfold nBlock GBlock.tot
  omega
theorem nvBlock_le (x : GBlock) : nvBlock x ≤ 9 * x.tot := by
  unfold nvBlock GBlock.tot
  omega
def nCore (x : GCore) : Nat := x.hart.regs.length + 2 + (x.cache.map nBlock).sum
def mkCore (k : Int) (s : Nat) (x : GCore) : GCore := ⟨⟨marks (markE k (s)) x.hart.regs.length, markE k (s + x.hart.regs.length), markE k (s + x.hart.regs.length + 1)⟩, (List.range x.cache.length).map (fBlock (markE k (s + x.hart.regs.length + 2)) x.cache)⟩
def fCore (k : Int) (xs : List GCore) (j : Nat) : GCore := mkCore k (sumTo nCore xs j) (xs.getD j (⟨⟨[], 0, 0⟩, []⟩ : GCore))
theorem fCore_at {k : Int} {xs : List GCore} {i : Nat} (h : i < xs.length) : fCore k xs i = mkCore k (sumTo nCore xs i) xs[i] := by simp [fCore, h]
def mvCore (k : Int) (x : GCore) : GCore := ⟨⟨marks (k) x.hart.regs.length, x.hart.pc, x.hart.state⟩, (List.range x.cache.length).map (fBlock (markE k (x.hart.regs.length)) x.cache)⟩
def nvCore (x : GCore) : Nat := x.hart.regs.length + (x.cache.map nBlock).sum
theorem nCore_le (x : GCore) : nCore x ≤ 9 * (1 + x.tot) := by
  have := cnt_le (f := nBlock) (g := fun a => a.tot) nBlock_le x.cache
  unfold nCore GCore.tot GHart.tot
  omega
theorem nvCore_le (x : GCore) : nvCore x ≤ 9 * x.tot := by
  have := cnt_le (f := nBlock) (g := fun a => a.tot) nBlock_le x.cache
  unfold nvCore GCore.tot GHart.tot
  omega
def mvFlock (k : Int) (x : GFlock) : GFlock := ⟨⟨x.world.size, (List.range x.world.nodes.length).map (fNode (k) x.world.nodes), (List.range x.world.net.length).map (fPacket (markE k ((x.world.nodes.map nNode).sum)) x.world.net)⟩, (List.range x.cores.length).map (fCore (markE k ((x.world.nodes.map nNode).sum + (x.world.net.map nPacket).sum)) x.cores)⟩
def nvFlock (x : GFlock) : Nat := (x.world.nodes.map nNode).sum + (x.world.net.map nPacket).sum + (x.cores.map nCore).sum
theorem nvFlock_le (x : GFlock) : nvFlock x ≤ 9 * x.tot := by
  have := cnt_le (f := nNode) (g := fun a => a.tot) nNode_le x.world.nodes
  have := cnt_le (f := nPacket) (g := fun a => a.tot) nPacket_le x.world.net
  have := cnt_le (f := nCore) (g := fun a => a.tot) nCore_le x.cores
  unfold nvFlock GFlock.tot GWorld.tot
  omega
end Go.Tw
/- Plain functions: blocks. -/
namespace Go.Tw
def ends (x : GIns) : Bool := !(insOk x) || decide (x.op = 7) || decide (x.op = 8) || decide (x.op = 9)
def badIns (n i : Nat) (x : GIns) : Bool := (!(insOk x) && decide (x ≠ ⟨0, 0, 0, 0, 0⟩)) || (ends x && decide (i + 1 < n))
def blockHd (b : GBlock) : Bool := inR b.start 0 23 && inR (b.list.length : Int) 1 (4 - b.start % 4)
def blockOk (b : GBlock) : Bool := blockHd b && (List.range b.list.length).all fun i => match b.list[i]? with
  | some x => !badIns b.list.length i x
  | none => true
theorem blockOk_hd {b : GBlock} (h : blockHd b = false) : blockOk b = false := by unfold blockOk; rw [h]; rfl
theorem blockOk_bad {b : GBlock} {i : Nat} (h : i < b.list.length) (hb : badIns b.list.length i b.list[i] = true) : blockOk b = false := by
  have : ((List.range b.list.length).all fun i => match b.list[i]? with | some x => !badIns b.list.length i x | none => true) = false := by
    rw [List.all_eq_false]
    exact ⟨i, by simpa using h, by simp [h, hb]⟩
  unfold blockOk
  rw [this, Bool.and_false]
theorem blockOk_good {b : GBlock} (hh : blockHd b = true) (h : ∀ j, (hj : j < b.list.length) → badIns b.list.length j b.list[j] = false) : blockOk b = true := by
  have : ((List.range b.list.length).all fun i => match b.list[i]? with | some x => !badIns b.list.length i x | none => true) = true := by
    rw [List.all_eq_true]
    intro j hj
    have hj : j < b.list.length := by simpa using hj
    simp [hj, h j hj]
  unfold blockOk
  rw [hh, this]
  rfl
theorem blockOk_start {b : GBlock} (h : blockOk b = true) : 0 ≤ b.start ∧ b.start ≤ 23 := by
  unfold blockOk blockHd at h
  rw [Bool.and_eq_true, Bool.and_eq_true] at h
  exact (inR_iff _ _ _).1 h.1.1
def pageOf (b : GBlock) : Int := if blockOk b = true then b.start / 4 else -1
theorem take_snoc {α : Type} {xs : List α} {i : Nat} (h : i < xs.length) : xs.take i ++ [xs[i]] = xs.take (i + 1) := List.take_append_getElem h
end Go.Tw
/- Plain functions: how many run. -/
namespace Go.Tw
def runs (cs : List GCore) (i : Nat) : Nat := ((cs.take i).filter fun c => c.hart.state == 0).length
theorem runs_zero (cs : List GCore) : runs cs 0 = 0 := rfl
theorem runs_le (cs : List GCore) (i : Nat) : runs cs i ≤ i := by
  unfold runs
  have h := List.length_filter_le (fun c : GCore => c.hart.state == 0) (cs.take i)
  simp at h
  omega
theorem runs_yes {cs : List GCore} {i : Nat} (h : i < cs.length) (hs : cs[i].hart.state = 0) : runs cs (i + 1) = runs cs i + 1 := by
  unfold runs
  rw [← List.take_append_getElem h, List.filter_append]
  simp [hs]
theorem runs_no {cs : List GCore} {i : Nat} (h : i < cs.length) (hs : ¬ cs[i].hart.state = 0) : runs cs (i + 1) = runs cs i := by
  unfold runs
  rw [← List.take_append_getElem h, List.filter_append]
  simp [hs]
theorem runs_bit {cs : List GCore} {i : Nat} (h : i < cs.length) (hi : i < 9223372036854775807) : IntKind.wrap .i64 ((runs cs i : Int) + if cs[i].hart.state = 0 then 1 else 0) = (runs cs (i + 1) : Int) := by
  have hl := runs_le cs i
  by_cases hs : cs[i].hart.state = 0
  · rw [if_pos hs, runs_yes h hs, wrap_ok (by omega) (by omega)]; simp
  · rw [if_neg hs, runs_no h hs, Int.add_zero, wrap_ok (by omega) (by omega)]
end Go.Tw
/- Plain functions: frames, blocks out of words. -/
namespace Go.Tw
def frameOk (f : GFrame) : Bool := if f.state = 0 then decide (f.list.length = 0) else inR f.state 0 2 && wordsOk f.list 4
theorem frameOk_none {f : GFrame} (h : f.state = 0) : frameOk f = decide (f.list.length = 0) := if_pos h
theorem frameOk_some {f : GFrame} (h : ¬ f.state = 0) : frameOk f = (inR f.state 0 2 && wordsOk f.list 4) := if_neg h
theorem frameOk_12 {f : GFrame} (h : ¬ f.state = 0) : frameOk f = ((decide (f.state = 1) || decide (f.state = 2)) && wordsOk f.list 4) := by
  rw [frameOk_some h]
  congr 1
  unfold inR
  by_cases h1 : f.state = 1
  · simp [h1]
  · by_cases h2 : f.state = 2
    · simp [h2]
    · simp only [h1, h2, decide_false, Bool.or_self]
      simp
      omega
def blk : List Int → List GIns
  | [] => []
  | w :: ws => if ends (decode w) = true then [decode w] else decode w :: blk ws
theorem blk_len : ∀ ws : List Int, (blk ws).length ≤ ws.length
  | [] => by simp [blk]
  | w :: ws => by
    unfold blk
    split
    · simp
    · have := blk_len ws
      simp
      omega
def blockOf (ws : List Int) (s : Int) : GBlock := if ws.length = 4 ∧ 0 ≤ s ∧ s ≤ 23 then ⟨s, blk (ws.drop (s % 4).toNat)⟩ else ⟨0, []⟩
theorem blk_end {ws : List Int} {s i : Nat} {out : List GIns} (h : blk (ws.drop s) = out ++ blk (ws.drop i)) (hi : i < ws.length) (he : ends (decode ws[i]) = true) : out ++ [decode ws[i]] = blk (ws.drop s) := by
  rw [h, List.drop_eq_getElem_cons hi]
  simp [blk, he]
theorem blk_more {ws : List Int} {s i : Nat} {out : List GIns} (h : blk (ws.drop s) = out ++ blk (ws.drop i)) (hi : i < ws.length) (he : ends (decode ws[i]) = false) : blk (ws.drop s) = (out ++ [decode ws[i]]) ++ blk (ws.drop (i + 1)) := by
  rw [h, List.drop_eq_getElem_cons hi]
  simp [blk, he]
theorem blk_done {ws : List Int} {s i : Nat} {out : List GIns} (h : blk (ws.drop s) = out ++ blk (ws.drop i)) (hi : ws.length ≤ i) : out = blk (ws.drop s) := by
  rw [h, List.drop_of_length_le hi]
  simp [blk]
end Go.Tw
/- Plain functions: caches. -/
namespace Go.Tw
theorem callG_false {P : Program} {k : Bool} {f : FuncId} {vs : List V} {c : Prop} {d : Option Nat} {next : St → Prop} {σ : St} (v : V) (h : next (σ.set d false v)) : CallG P k f vs c false d next σ :=
  ⟨σ, v, fun _ _ _ _ _ g R => ⟨g, R⟩, fun _ => h, fun e => by cases e⟩
def bOk (fs : List GFrame) (b : GBlock) : Bool := blockOk b && decide (b = blockOf (fs.getD (b.start / 4).toNat ⟨0, [], false⟩).list b.start)
def cacheOk (list : List GBlock) (fs : List GFrame) : Bool := decide (list.length ≤ 5) && decide (fs.length = 6) && fs.all frameOk && list.all (bOk fs)
theorem cacheOk_hd {list : List GBlock} {fs : List GFrame} (h : ¬ (list.length ≤ 5 ∧ fs.length = 6)) : cacheOk list fs = false := by
  unfold cacheOk
  by_cases h1 : list.length ≤ 5
  · have h2 : ¬ fs.length = 6 := fun e => h ⟨h1, e⟩
    simp [h2]
  · simp [h1]
theorem cacheOk_fr {list : List GBlock} {fs : List GFrame} {i : Nat} (h : i < fs.length) (hf : frameOk fs[i] = false) : cacheOk list fs = false := by
  have : fs.all frameOk = false := by rw [List.all_eq_false]; exact ⟨fs[i], List.getElem_mem h, by simp [hf]⟩
  unfold cacheOk
  simp [this]
theorem cacheOk_any {list : List GBlock} {fs : List GFrame} (h : (fs.any fun f => !(frameOk f)) = true) : cacheOk list fs = false := by
  have : fs.all frameOk = false := by
    rw [List.all_eq_false]
    obtain ⟨f, hf, h⟩ := List.any_eq_true.1 h
    exact ⟨f, hf, by simpa using h⟩
  unfold cacheOk
  simp [this]
theorem cacheOk_bl {list : List GBlock} {fs : List GFrame} {i : Nat} (h : i < list.length) (hf : bOk fs list[i] = false) : cacheOk list fs = false := by
  have : list.all (bOk fs) = false := by rw [List.all_eq_false]; exact ⟨list[i], List.getElem_mem h, by simp [hf]⟩
  unfold cacheOk
  rw [this, Bool.and_false]
theorem all_of {α : Type} {xs : List α} {p : α → Bool} (h : ∀ j, (hj : j < xs.length) → p xs[j] = true) : xs.all p = true := by
  rw [List.all_eq_true]
  intro x hx
  obtain ⟨j, hj, rfl⟩ := List.getElem_of_mem hx
  exact h j hj
theorem all_any {α : Type} {xs : List α} {p : α → Bool} (h : (xs.any fun x => !(p x)) = false) : xs.all p = true := by
  rw [List.all_eq_true]
  intro x hx
  have := List.any_eq_false.1 h x hx
  simpa using this
theorem cacheOk_good {list : List GBlock} {fs : List GFrame} (h1 : list.length ≤ 5) (h2 : fs.length = 6) (h3 : fs.all frameOk = true) (h4 : ∀ j, (hj : j < list.length) → bOk fs list[j] = true) : cacheOk list fs = true := by
  unfold cacheOk
  rw [h3, all_of h4]
  simp [h1, h2]
theorem page_of {b : GBlock} (h : blockOk b = true) : ∃ pg : Nat, b.start / 4 = pg ∧ IntKind.wrap .i64 (b.start.tdiv 4) = (pg : Int) ∧ pg < 6 := by
  have hs := blockOk_start h
  refine ⟨(b.start / 4).toNat, by omega, ?_, by omega⟩
  rw [tdiv_pos hs.1, wrap_ok (by omega) (by omega)]
  omega
theorem page_split (b : GBlock) {n : Nat} (hn : n = 6) : (blockOk b = false ∧ blockOk b = false ∧ blockOk b = false) ∨ (blockOk b = true ∧ ∃ pg : Nat, b.start / 4 = pg ∧ IntKind.wrap .i64 (b.start.tdiv 4) = (pg : Int) ∧ pg < n) := by
  subst hn
  by_cases h : blockOk b = true
  · exact Or.inr ⟨h, page_of h⟩
  · have h : blockOk b = false := by simpa using h
    exact Or.inl ⟨h, h, h⟩
theorem bOk_no {fs : List GFrame} {b : GBlock} (h : blockOk b = false) : bOk fs b = false := by unfold bOk; rw [h]; rfl
theorem bOk_at {fs : List GFrame} {b : GBlock} {pg : Nat} (h : blockOk b = true) (hp : b.start / 4 = pg) (hl : pg < fs.length) : bOk fs b = decide (b = blockOf fs[pg].list b.start) := by
  unfold bOk
  rw [h, hp, Bool.true_and, Int.toNat_natCast, List.getD_eq_getElem?_getD, List.getElem?_eq_getElem hl, Option.getD_some]
theorem blockOf_len {ws : List Int} {s : Int} {n : Nat} (h : ws.length ≤ n) : (blockOf ws s).list.length ≤ n := by
  unfold blockOf
  split
  · have := blk_len (ws.drop (s % 4).toNat)
    simp only [List.length_drop] at this
    show (blk _).length ≤ n
    omega
  · simp
theorem cacheOk_not {list : List GBlock} {fs : List GFrame} (h : ((decide ((5 : Int) < list.length) || ((fs.length : Int) != 6)) || fs.any fun f => !(frameOk f)) = true) : cacheOk list fs = false := by
  by_cases hh : list.length ≤ 5 ∧ fs.length = 6
  · refine cacheOk_any ?_
    have h1 : decide ((5 : Int) < list.length) = false := by simp; omega
    have h2 : ((fs.length : Int) != 6) = false := by simp; omega
    rw [h1, h2] at h
    simpa using h
  · exact cacheOk_hd hh
end Go.Tw
/- Plain functions: messages, senders. -/
namespace Go.Tw
theorem wordsOk_nil (xs : List Int) : wordsOk xs 0 = decide (xs.length = 0) := by
  cases xs with
  | nil => rfl
  | cons x xs =>
    have : decide (((x :: xs).length : Int) = 0) = false := by simp; omega
    unfold wordsOk
    rw [this]
    simp
def msgHd (m : GMsg) : Bool := inR m.kind 1 7 && inR m.page 0 5 && ((decide (m.kind = 3) || decide (m.kind = 6)) || !m.own)
def msgOk (m : GMsg) : Bool := msgHd m && wordsOk m.list (if m.kind = 3 ∨ m.kind = 7 then 4 else 0)
theorem msgOk_hd {m : GMsg} (h : msgHd m = false) : msgOk m = false := by unfold msgOk; rw [h]; rfl
theorem msgOk_four {m : GMsg} (h : msgHd m = true) (hk : m.kind = 3 ∨ m.kind = 7) : msgOk m = wordsOk m.list 4 := by unfold msgOk; rw [h, if_pos hk]; rfl
theorem msgOk_none {m : GMsg} (h : msgHd m = true) (hk : ¬ (m.kind = 3 ∨ m.kind = 7)) : msgOk m = decide (m.list.length = 0) := by unfold msgOk; rw [h, if_neg hk, wordsOk_nil]; rfl
def sendHd (s : GSender) : Bool := inR s.base 0 100000 && decide ((s.queue.length : Int) ≤ 30) && decide (IntKind.wrap .i64 (s.base + s.queue.length) ≤ 100000)
def senderOk (s : GSender) : Bool := sendHd s && s.queue.all msgOk
theorem senderOk_bad {s : GSender} {i : Nat} (h : i < s.queue.length) (hf : msgOk s.queue[i] = false) : senderOk s = false := by
  have : s.queue.all msgOk = false := by rw [List.all_eq_false]; exact ⟨s.queue[i], List.getElem_mem h, by simp [hf]⟩
  unfold senderOk
  rw [this, Bool.and_false]
theorem senderOk_good {s : GSender} (h : ∀ j, (hj : j < s.queue.length) → msgOk s.queue[j] = true) : senderOk s = sendHd s := by
  unfold senderOk
  rw [all_of h, Bool.and_true]
theorem all_not_any {α : Type} (xs : List α) (p : α → Bool) : (!(xs.any fun x => !(p x))) = xs.all p := by
  induction xs with
  | nil => rfl
  | cons x xs ih => simp only [List.any_cons, List.all_cons, ← ih]; cases p x <;> rfl
end Go.Tw
/- Plain functions: homes, nodes. -/
namespace Go.Tw
def wofN (who n : Int) : Bool := inR who 0 (IntKind.wrap .i64 (n - 1))
def homeHd (h : GHome) (n : Int) : Bool := inR n 1 4 && wordsOk h.list 4 && inR h.owner (-1) (IntKind.wrap .i64 (n - 1)) && decide ((h.readers.length : Int) = n) && wofN h.now.who n && inR h.acks 0 n && decide ((h.queue.length : Int) ≤ 12)
def homeOk (h : GHome) (n : Int) : Bool := homeHd h n && h.queue.all fun w => wofN w.who n
theorem homeOk_hd {h : GHome} {n : Int} (q : homeHd h n = false) : homeOk h n = false := by unfold homeOk; rw [q]; rfl
theorem homeOk_bad {h : GHome} {n : Int} {i : Nat} (hi : i < h.queue.length) (hf : wofN h.queue[i].who n = false) : homeOk h n = false := by
  have : (h.queue.all fun w => wofN w.who n) = false := by rw [List.all_eq_false]; exact ⟨h.queue[i], List.getElem_mem hi, by simp [hf]⟩
  unfold homeOk
  rw [this, Bool.and_false]
theorem homeOk_good {h : GHome} {n : Int} (q : homeHd h n = true) (hf : ∀ j, (hj : j < h.queue.length) → wofN h.queue[j].who n = true) : homeOk h n = true := by
  unfold homeOk
  rw [q, all_of (p := fun w : GWait => wofN w.who n) hf]
  rfl
theorem homeOk_any (h : GHome) (n : Int) : (homeHd h n && !(h.queue.any fun w => !(inR n 1 4 && wofN w.who n))) = homeOk h n := by
  unfold homeOk
  by_cases q : homeHd h n = true
  · have hn : inR n 1 4 = true := by
      unfold homeHd at q
      simp only [Bool.and_eq_true] at q
      exact q.1.1.1.1.1.1
    rw [hn]
    simp only [Bool.true_and]
    rw [all_not_any]
  · have q : homeHd h n = false := by simpa using q
    rw [q]
    rfl
end Go.Tw
/- Plain functions: nodes, cores. -/
namespace Go.Tw
def nodeHd (x : GNode) (n : Int) : Bool := inR n 1 4 && inR x.id 0 (IntKind.wrap .i64 (n - 1)) && decide ((x.frames.length : Int) = 6) && decide ((x.homes.length : Int) = 6) && decide ((x.out.length : Int) = n) && decide ((x.in_.length : Int) = n)
def gotOk (r : GReceiver) : Bool := inR r.got 0 100000
def nodeOk (x : GNode) (n : Int) : Bool := nodeHd x n && x.frames.all frameOk && (x.homes.all fun h => homeOk h n) && x.out.all senderOk && x.in_.all gotOk
theorem all_no {α : Type} {xs : List α} {p : α → Bool} {i : Nat} (h : i < xs.length) (hp : p xs[i] = false) : xs.all p = false := by
  rw [List.all_eq_false]; exact ⟨xs[i], List.getElem_mem h, by simp [hp]⟩
theorem nodeOk_hd {x : GNode} {n : Int} (h : nodeHd x n = false) : nodeOk x n = false := by unfold nodeOk; simp [h]
theorem nodeOk_bad1 {x : GNode} {n : Int} {i : Nat} (h1 : i < x.frames.length) (h2 : i < x.homes.length) (h : (!(frameOk x.frames[i]) || !(homeOk x.homes[i] n)) = true) : nodeOk x n = false := by
  unfold nodeOk
  cases hf : frameOk x.frames[i] with
  | false => rw [all_no h1 hf]; simp
  | true =>
    rw [hf] at h
    rw [all_no (p := fun h => homeOk h n) h2 (by simpa using h)]
    simp
theorem nodeOk_bad2 {x : GNode} {n : Int} {i : Nat} (h1 : i < x.out.length) (h2 : i < x.in_.length) (h : (!(senderOk x.out[i]) || !(inR x.in_[i].got 0 100000)) = true) : nodeOk x n = false := by
  unfold nodeOk
  cases hf : senderOk x.out[i] with
  | false => rw [all_no h1 hf]; simp
  | true =>
    rw [hf] at h
    rw [all_no (p := gotOk) h2 (by simpa [gotOk] using h)]
    simp
theorem nodeOk_good {x : GNode} {n : Int} (h : nodeHd x n = true) (h1 : ∀ j, (hj : j < x.frames.length) → frameOk x.frames[j] = true) (h2 : ∀ j, (hj : j < x.homes.length) → homeOk x.homes[j] n = true)
    (h3 : ∀ j, (hj : j < x.out.length) → senderOk x.out[j] = true) (h4 : ∀ j, (hj : j < x.in_.length) → inR x.in_[j].got 0 100000 = true) : nodeOk x n = true := by
  unfold nodeOk
  rw [h, all_of h1, all_of (p := fun h => homeOk h n) h2, all_of h3, all_of (p := gotOk) h4]
  rfl
theorem nodeHd_len {x : GNode} {n : Int} (h : nodeHd x n = true) : (1 ≤ n ∧ n ≤ 4) ∧ x.frames.length = 6 ∧ x.homes.length = 6 ∧ (x.out.length : Int) = n ∧ (x.in_.length : Int) = n := by
  unfold nodeHd inR at h
  simp at h
  omega
end Go.Tw
/- Plain functions: what is kept taken apart, added and purged. -/
namespace Go.Tw
theorem enc_tail {α : Type} (f : α → List T) (xs : List α) : (enc f xs).tail = enc f xs.tail := by cases xs <;> rfl
attribute [go_sem] enc_tail
def cacheAdd (l : List GBlock) (b : GBlock) : List GBlock := if blockOk b = true then (if 5 ≤ l.length then l.drop 1 else l) ++ [b] else l
theorem cacheAdd_no {l : List GBlock} {b : GBlock} (h : blockOk b = false) : cacheAdd l b = l := by unfold cacheAdd; rw [if_neg (by simp [h])]
theorem cacheAdd_full {l : List GBlock} {b : GBlock} (h : blockOk b = true) (h5 : 5 ≤ l.length) : cacheAdd l b = l.drop 1 ++ [b] := by unfold cacheAdd; rw [if_pos h, if_pos h5]
theorem cacheAdd_room {l : List GBlock} {b : GBlock} (h : blockOk b = true) (h5 : ¬ 5 ≤ l.length) : cacheAdd l b = l ++ [b] := by unfold cacheAdd; rw [if_pos h, if_neg h5]
theorem cacheAdd_len (l : List GBlock) (b : GBlock) : (cacheAdd l b).length ≤ max l.length 5 := by
  unfold cacheAdd
  split
  · split <;> simp <;> omega
  · omega
theorem cacheAdd_mem {l : List GBlock} {b a : GBlock} (h : a ∈ cacheAdd l b) : a ∈ l ∨ a = b := by
  unfold cacheAdd at h
  split at h
  · rcases List.mem_append.1 h with h | h
    · split at h
      · exact Or.inl (List.mem_of_mem_drop h)
      · exact Or.inl h
    · exact Or.inr (by simpa using h)
  · exact Or.inl h
theorem sum_drop (f : GBlock → Nat) : ∀ (l : List GBlock) (n : Nat), ((l.drop n).map f).sum ≤ (l.map f).sum
  | [], n => by simp
  | x :: l, 0 => by simp
  | x :: l, n + 1 => by have := sum_drop f l n; simp only [List.drop_succ_cons, List.map_cons, List.sum_cons]; omega
theorem cacheAdd_sum (f : GBlock → Nat) (l : List GBlock) (b : GBlock) : ((cacheAdd l b).map f).sum ≤ (l.map f).sum + f b := by
  unfold cacheAdd
  split
  · split
    · have := sum_drop f l 1
      rw [List.map_append, List.sum_append]
      simp only [List.map_cons, List.map_nil, List.sum_cons, List.sum_nil]
      omega
    · simp
  · omega
def purge (l : List GBlock) (page : Int) : List GBlock := l.filter fun b => decide (pageOf b ≠ page)
theorem purge_zero (l : List GBlock) (page : Int) : purge (l.take 0) page = [] := rfl
theorem purge_step {l : List GBlock} {page : Int} {i : Nat} (h : i < l.length) : purge (l.take (i + 1)) page = purge (l.take i) page ++ (if pageOf l[i] = page then [] else [l[i]]) := by
  unfold purge
  rw [← List.take_append_getElem h, List.filter_append]
  by_cases hp : pageOf l[i] = page <;> simp [hp]
theorem purge_full (l : List GBlock) (page : Int) : purge (l.take l.length) page = purge l page := by rw [List.take_length]
theorem purge_len (l : List GBlock) (page : Int) : (purge l page).length ≤ l.length := List.length_filter_le _ _
theorem purge_mem {l : List GBlock} {page : Int} {a : GBlock} (h : a ∈ purge l page) : a ∈ l := (List.mem_filter.1 h).1
theorem purge_sum (f : GBlock → Nat) (page : Int) : ∀ l : List GBlock, ((purge l page).map f).sum ≤ (l.map f).sum
  | [] => by simp [purge]
  | x :: l => by
    have := purge_sum f page l
    unfold purge at *
    rw [List.filter_cons]
    split <;> simp only [List.map_cons, List.sum_cons] <;> omega
end Go.Tw
/- Plain functions: a step on one memory, runs, traces. -/
namespace Go.Tw
def xAt (mem : List Int) (h : GHart) : GIns := decode (mem.getD h.pc.toNat 0)
def tAt (mem : List Int) (h : GHart) : Int := target (xAt mem h) h.regs
def gAt (mem : List Int) (h : GHart) : Int := if 0 ≤ tAt mem h then mem.getD (tAt mem h).toNat 0 else 0
def stepH (mem : List Int) (h : GHart) : GHart := (work h (xAt mem h) (gAt mem h)).1
def putAt (mem : List Int) (h : GHart) : Int := (work h (xAt mem h) (gAt mem h)).2
def stepM (mem : List Int) (h : GHart) : List Int := if 0 ≤ putAt mem h then mem.set (tAt mem h).toNat (putAt mem h) else mem
def flatM (mem : List Int) (h : GHart) : List Int := if evOk mem h = true then stepM mem h else mem
def flatH (mem : List Int) (h : GHart) : GHart := if evOk mem h = true then stepH mem h else h
theorem work_regs (h : GHart) (x : GIns) (got : Int) : (work h x got).1.regs.length = h.regs.length := by
  unfold work
  by_cases q : hartOk h = true ∧ h.state = 0 ∧ isW got = true
  · rw [if_pos q]
    by_cases qi : insOk x = true
    · rw [if_pos qi]
      split; · simp
      split; · simp
      split; · simp
      split; · simp
      split; · simp
      split; · simp
      split; · simp
      split; · simp
      split <;> simp
    · rw [if_neg qi]
  · rw [if_neg q]
theorem work_small {h : GHart} (x : GIns) (got : Int) {n : Nat} (q : h.regs.length ≤ n) : (work h x got).1.regs.length ≤ n := by rw [work_regs]; exact q
theorem word_isW (n : Int) : isW (word n) = true := by unfold isW word inR; simp; omega
theorem work_put {h : GHart} {x : GIns} {got : Int} (hp : 0 ≤ (work h x got).2) : hartOk h = true ∧ h.state = 0 ∧ isW got = true ∧ insOk x = true ∧ (x.op = 5 ∨ x.op = 6) ∧ isW (work h x got).2 = true := by
  by_cases q : hartOk h = true ∧ h.state = 0 ∧ isW got = true
  · by_cases qi : insOk x = true
    · refine ⟨q.1, q.2.1, q.2.2, qi, ?_⟩
      obtain ⟨qw, ql, -, -⟩ := hart_facts q.1
      have qb := (insOk_range qi).2.2.2.1
      have hb : x.b.toNat < h.regs.length := by omega
      have hw := wordsOk_get qw hb
      unfold work at hp ⊢
      rw [if_pos q, if_pos qi] at hp ⊢
      by_cases e1 : x.op = 1
      · rw [if_pos e1] at hp; exact absurd (show (0:Int) ≤ -1 from hp) (by decide)
      rw [if_neg e1] at hp ⊢
      by_cases e2 : x.op = 2
      · rw [if_pos e2] at hp; exact absurd (show (0:Int) ≤ -1 from hp) (by decide)
      rw [if_neg e2] at hp ⊢
      by_cases e10 : x.op = 10
      · rw [if_pos e10] at hp; exact absurd (show (0:Int) ≤ -1 from hp) (by decide)
      rw [if_neg e10] at hp ⊢
      by_cases e3 : x.op = 3
      · rw [if_pos e3] at hp; exact absurd (show (0:Int) ≤ -1 from hp) (by decide)
      rw [if_neg e3] at hp ⊢
      by_cases e4 : x.op = 4
      · rw [if_pos e4] at hp; exact absurd (show (0:Int) ≤ -1 from hp) (by decide)
      rw [if_neg e4] at hp ⊢
      by_cases e5 : x.op = 5
      · rw [if_pos e5]
        refine ⟨Or.inl e5, ?_⟩
        simp only [List.getD_eq_getElem?_getD, List.getElem?_eq_getElem hb, Option.getD_some]
        unfold isW
        exact (inR_iff _ _ _).2 hw
      rw [if_neg e5] at hp ⊢
      by_cases e6 : x.op = 6
      · rw [if_pos e6]
        exact ⟨Or.inr e6, word_isW _⟩
      rw [if_neg e6] at hp
      by_cases e7 : x.op = 7
      · rw [if_pos e7] at hp; exact absurd (show (0:Int) ≤ -1 from hp) (by decide)
      rw [if_neg e7] at hp
      by_cases e8 : x.op = 8
      · rw [if_pos e8] at hp; exact absurd (show (0:Int) ≤ -1 from hp) (by decide)
      rw [if_neg e8] at hp
      exact absurd (show (0:Int) ≤ -1 from hp) (by decide)
    · unfold work at hp
      rw [if_pos q, if_neg qi] at hp
      exact absurd (show (0:Int) ≤ -1 from hp) (by decide)
  · rw [work_no q] at hp
    exact absurd (show (0:Int) ≤ -1 from hp) (by decide)
theorem put_at {mem : List Int} {h : GHart} (hp : 0 ≤ putAt mem h) : 0 ≤ tAt mem h ∧ tAt mem h ≤ 23 ∧ isW (putAt mem h) = true := by
  obtain ⟨q1, q2, q3, q4, q5, q6⟩ := work_put hp
  obtain ⟨-, ql, -, -⟩ := hart_facts q1
  have hr := addr_range (IntKind.wrap .i64 (h.regs.getD (xAt mem h).a.toNat 0 + (xAt mem h).n))
  have ht : tAt mem h = addr (IntKind.wrap .i64 (h.regs.getD (xAt mem h).a.toNat 0 + (xAt mem h).n)) := by
    unfold tAt target
    rw [if_pos ⟨q4, by unfold aims; rcases q5 with q | q <;> simp [q], by omega⟩]
  rw [ht]
  exact ⟨hr.1, hr.2, q6⟩
theorem stepM_len (mem : List Int) (h : GHart) : (stepM mem h).length = mem.length := by unfold stepM; split <;> simp
theorem flatM_len (mem : List Int) (h : GHart) : (flatM mem h).length = mem.length := by unfold flatM; split; exact stepM_len _ _; rfl
theorem wordsOk_set {mem : List Int} {n v : Int} {i : Nat} (h : wordsOk mem n = true) (hv : isW v = true) : wordsOk (mem.set i v) n = true := by
  unfold wordsOk at *
  rw [Bool.and_eq_true] at *
  refine ⟨by simpa using h.1, ?_⟩
  rw [List.all_eq_true] at *
  intro x hx
  rcases List.mem_or_eq_of_mem_set hx with hx | rfl
  · exact h.2 x hx
  · exact hv
theorem stepM_ok {mem : List Int} {h : GHart} (q : wordsOk mem 24 = true) : wordsOk (stepM mem h) 24 = true := by
  unfold stepM
  split
  · rename_i hp
    exact wordsOk_set q (put_at hp).2.2
  · exact q
structure Tr where
  m : List Int
  hs : List GHart
  evs : List GEvent
def z0 : GHart := ⟨[], 0, 0⟩
def trGo (s : Tr) (i : Int) : Bool := decide (0 ≤ i) && decide (i < s.hs.length) && evOk s.m (s.hs.getD i.toNat z0)
def trStep (s : Tr) (i : Int) : Tr :=
  if trGo s i = true then ⟨stepM s.m (s.hs.getD i.toNat z0), s.hs.set i.toNat (stepH s.m (s.hs.getD i.toNat z0)), s.evs ++ [eventOf s.m (s.hs.getD i.toNat z0) i]⟩ else s
def trN (s : Tr) (order : List Int) (n : Nat) : Tr := (order.take n).foldl trStep s
theorem trN_zero (s : Tr) (order : List Int) : trN s order 0 = s := rfl
theorem trN_succ {s : Tr} {order : List Int} {i : Nat} (h : i < order.length) : trN s order (i + 1) = trStep (trN s order i) order[i] := by
  unfold trN
  rw [← List.take_append_getElem h, List.foldl_append]
  rfl
/-- What a run may rely on. -/
def TrOk (n : Nat) (s : Tr) : Prop := s.m.length ≤ 1048576 ∧ s.hs.length = n ∧ ∀ h ∈ s.hs, h.regs.length ≤ 1048576
theorem TrOk.step {n : Nat} {s : Tr} (h : TrOk n s) (i : Int) : TrOk n (trStep s i) := by
  unfold trStep
  split
  · rename_i hg
    obtain ⟨h1, h2, h3⟩ := h
    refine ⟨by rw [stepM_len]; exact h1, by simpa using h2, fun a ha => ?_⟩
    rcases List.mem_or_eq_of_mem_set ha with ha | rfl
    · exact h3 a ha
    · unfold trGo at hg
      simp only [Bool.and_eq_true, decide_eq_true_eq] at hg
      have hlt : i.toNat < s.hs.length := by omega
      refine work_small _ _ ?_
      rw [List.getD_eq_getElem?_getD, List.getElem?_eq_getElem hlt]
      exact h3 _ (List.getElem_mem hlt)
  · exact h
theorem trStep_words {s : Tr} {i : Int} (h : wordsOk s.m 24 = true) : wordsOk (trStep s i).m 24 = true := by
  unfold trStep
  split
  · exact stepM_ok h
  · exact h
theorem trStep_yes {s : Tr} {i : Int} (h : trGo s i = true) : trStep s i = ⟨stepM s.m (s.hs.getD i.toNat z0), s.hs.set i.toNat (stepH s.m (s.hs.getD i.toNat z0)), s.evs ++ [eventOf s.m (s.hs.getD i.toNat z0) i]⟩ := if_pos h
theorem trStep_no {s : Tr} {i : Int} (h : trGo s i = false) : trStep s i = s := if_neg (by simp [h])
theorem trStep_evs (s : Tr) (i : Int) : (trStep s i).evs.length ≤ s.evs.length + 1 := by
  unfold trStep
  split
  · simp
  · omega
theorem trN_none {s : Tr} (h : wordsOk s.m 24 = false) (order : List Int) : ∀ n, trN s order n = s := by
  have one : ∀ i, trStep s i = s := fun i => trStep_no (by unfold trGo evOk; rw [h]; simp)
  intro n
  unfold trN
  generalize order.take n = l
  induction l with
  | nil => rfl
  | cons x l ih => rw [List.foldl_cons, one, ih]
theorem trN_evs (s : Tr) (order : List Int) : ∀ n, (trN s order n).evs.length ≤ s.evs.length + n
  | 0 => by simp [trN]
  | n + 1 => by
    have ih := trN_evs s order n
    by_cases h : n < order.length
    · rw [trN_succ h]
      have := trStep_evs (trN s order n) order[n]
      omega
    · have : trN s order (n + 1) = trN s order n := by
        unfold trN
        rw [List.take_of_length_le (by omega), List.take_of_length_le (by omega)]
      rw [this]
      omega
def trace (mem : List Int) (hs : List GHart) (order : List Int) : List GEvent := if order.length ≤ 2000 then (trN ⟨mem, hs, []⟩ order order.length).evs else []
theorem trace_len (mem : List Int) (hs : List GHart) (order : List Int) : (trace mem hs order).length ≤ 2000 := by
  unfold trace
  split
  · have := trN_evs ⟨mem, hs, []⟩ order order.length
    simp only [List.length_nil] at this
    omega
  · simp
theorem trStep_at {s : Tr} {i : Int} {h : GHart} (h0 : 0 ≤ i) (h2 : i.toNat < s.hs.length) (hh : s.hs[i.toNat] = h) (he : evOk s.m h = true) :
    trStep s i = ⟨stepM s.m h, s.hs.set i.toNat (stepH s.m h), s.evs ++ [eventOf s.m h i]⟩ := by
  have hd : s.hs.getD i.toNat z0 = h := by rw [List.getD_eq_getElem?_getD, List.getElem?_eq_getElem h2, hh]; rfl
  have hg : trGo s i = true := by unfold trGo; rw [hd, he]; simp; omega
  rw [trStep_yes hg, hd]
theorem trStep_not {s : Tr} {i : Int} {h : GHart} (h2 : i.toNat < s.hs.length) (hh : s.hs[i.toNat] = h) (he : evOk s.m h = false) : trStep s i = s := by
  have hd : s.hs.getD i.toNat z0 = h := by rw [List.getD_eq_getElem?_getD, List.getElem?_eq_getElem h2, hh]; rfl
  exact trStep_no (by unfold trGo; rw [hd, he]; simp)
theorem trStep_out {s : Tr} {i : Int} (h : inR i 0 ((s.hs.length : Int) - 1) = false) : trStep s i = s := by
  refine trStep_no ?_
  unfold trGo
  unfold inR at h
  by_cases h0 : 0 ≤ i
  · simp [h0] at h
    have : ¬ i < (s.hs.length : Int) := by omega
    simp [this]
  · simp [h0]
theorem in_split (n : Nat) (k : Int) : inR k 0 ((n : Int) - 1) = false ∨ (inR k 0 ((n : Int) - 1) = true ∧ 0 ≤ k ∧ k < n ∧ k.toNat < n) := by
  unfold inR
  by_cases h0 : 0 ≤ k
  · by_cases h1 : k ≤ (n : Int) - 1
    · right; simp [h0, h1]; omega
    · left; simp [h0]; omega
  · left; simp [h0]
theorem trace_no {mem : List Int} {hs : List GHart} {order : List Int} (h : 2000 < order.length ∨ wordsOk mem 24 = false) : trace mem hs order = [] := by
  unfold trace
  split
  · rcases h with h | h
    · omega
    · rw [trN_none h]
  · rfl
theorem flat_yes {mem : List Int} {h : GHart} (he : evOk mem h = true) : flatM mem h = stepM mem h ∧ flatH mem h = stepH mem h := ⟨if_pos he, if_pos he⟩
theorem flat_no {mem : List Int} {h : GHart} (he : evOk mem h = false) : flatM mem h = mem ∧ flatH mem h = h := ⟨if_neg (by simp [he]), if_neg (by simp [he])⟩
end Go.Tw
