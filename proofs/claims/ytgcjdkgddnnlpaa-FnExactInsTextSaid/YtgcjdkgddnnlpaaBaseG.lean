/- The layer: trees, states, rules; plain functions. -/
import Derived.Test.YtgcjdkgddnnlpaaBaseF
set_option linter.unusedSimpArgs false
set_option linter.unusedVariables false
set_option linter.unnecessarySimpa false
namespace Go.Tw
def GBlock.few (b : GBlock) : Prop := b.list.length ≤ 5
def GFrame.few (f : GFrame) : Prop := f.list.length ≤ 5
theorem GBlock.few.small {b : GBlock} (h : b.few) : b.small := by unfold GBlock.few at h; unfold GBlock.small; omega
theorem GFrame.few.small {f : GFrame} (h : f.few) : f.small := by unfold GFrame.few at h; unfold GFrame.small; omega
end Go.Tw

namespace Go.Tw
def spB : ByteArray := ⟨#[32]⟩
def opName (op : Int) : ByteArray :=
  if op = 1 then ⟨#[115, 101, 116]⟩ else if op = 2 then ⟨#[97, 100, 100]⟩ else if op = 3 then ⟨#[109, 111, 114, 101]⟩ else if op = 4 then ⟨#[108, 111, 97, 100]⟩ else if op = 5 then ⟨#[115, 116, 111, 114, 101]⟩
  else if op = 6 then ⟨#[115, 119, 97, 112]⟩ else if op = 7 then ⟨#[122, 101, 114, 111]⟩ else if op = 8 then ⟨#[106, 117, 109, 112]⟩ else if op = 9 then ⟨#[104, 97, 108, 116]⟩ else if op = 10 then ⟨#[115, 117, 98]⟩ else ⟨#[]⟩
theorem opName_size (op : Int) : (opName op).size ≤ 5 := by
  unfold opName
  repeat (split; · decide)
  decide
def fieldI (x : GIns) (c : Int) : Int := if c = 82 then x.r else if c = 65 then x.a else if c = 66 then x.b else x.n
def wordI (x : GIns) (c : Int) : ByteArray := if c = 78 then dgB (fieldI x c).toNat else ⟨#[114]⟩ ++ dgB (fieldI x c).toNat
def wordsI (x : GIns) (i : Nat) : List ByteArray := opName x.op :: (List.range i).map fun k => wordI x (chr (formS x.op) k)
theorem wordsI_zero (x : GIns) : wordsI x 0 = [opName x.op] := rfl
theorem wordsI_succ (x : GIns) (i : Nat) : wordsI x (i + 1) = wordsI x i ++ [wordI x (chr (formS x.op) i)] := by unfold wordsI; rw [List.range_succ, List.map_append]; rfl
theorem wordsI_len (x : GIns) (i : Nat) : (wordsI x i).length = i + 1 := by unfold wordsI; simp
def insText (x : GIns) : ByteArray := if insOk x = true then joinT (wordsI x (formS x.op).size) spB else ⟨#[]⟩
def insP1 (x : GIns) : ByteArray := if hasR x.op = true then opName x.op ++ ⟨#[32, 114]⟩ ++ dgB x.r.toNat else opName x.op
def insP2 (x : GIns) : ByteArray := if hasA x.op = true then insP1 x ++ ⟨#[32, 114]⟩ ++ dgB x.a.toNat else insP1 x
def insP3 (x : GIns) : ByteArray := if hasB x.op = true then insP2 x ++ ⟨#[32, 114]⟩ ++ dgB x.b.toNat else insP2 x
def insP4 (x : GIns) : ByteArray := if hasN x.op = true then insP3 x ++ ⟨#[32]⟩ ++ dgB x.n.toNat else insP3 x
theorem sp_r : (⟨#[32, 114]⟩ : ByteArray) = ⟨#[32]⟩ ++ ⟨#[114]⟩ := ba_ext (by simp)
theorem insOk_ops {x : GIns} (h : insOk x = true) : (x.op = 1 ∨ x.op = 2 ∨ x.op = 3 ∨ x.op = 4 ∨ x.op = 5 ∨ x.op = 6 ∨ x.op = 7 ∨ x.op = 8 ∨ x.op = 9 ∨ x.op = 10) ∧ (0 ≤ x.r ∧ x.r ≤ 3) ∧ (0 ≤ x.a ∧ x.a ≤ 3) ∧ (0 ≤ x.b ∧ x.b ≤ 3) ∧ 0 ≤ x.n ∧ x.n ≤ 63 := by
  unfold insOk fld inR at h
  simp only [Bool.and_eq_true, decide_eq_true_eq] at h
  omega
theorem insText_spec {x : GIns} (h : insOk x = true) : insText x = insP4 x := by
  unfold insText
  rw [if_pos h]
  obtain ⟨op, r, a, b, n⟩ := x
  have ho := (insOk_ops h).1
  clear h
  simp only at ho
  rcases ho with rfl | rfl | rfl | rfl | rfl | rfl | rfl | rfl | rfl | rfl <;>
    simp [wordsI, insP4, insP3, insP2, insP1, hasR, hasA, hasB, hasN, formS, ByteArray.size, List.range_succ, chr, wordI, fieldI, joinT_cons, joinT_one, sp_r, ba_assoc, spB]
theorem insP_size {x : GIns} (h : insOk x = true) : (insP1 x).size ≤ 30 ∧ (insP2 x).size ≤ 60 ∧ (insP3 x).size ≤ 90 ∧ (insP4 x).size ≤ 120 := by
  obtain ⟨-, hr, ha, hb, hn⟩ := insOk_ops h
  have s1 := dgB_small (n := x.r.toNat) (by omega)
  have s2 := dgB_small (n := x.a.toNat) (by omega)
  have s3 := dgB_small (n := x.b.toNat) (by omega)
  have s4 := dgB_small (n := x.n.toNat) (by omega)
  have s0 := opName_size x.op
  have e1 : (⟨#[32, 114]⟩ : ByteArray).size = 2 := rfl
  have e2 : (⟨#[32]⟩ : ByteArray).size = 1 := rfl
  have h1 : (insP1 x).size ≤ 30 := by unfold insP1; split <;> (try simp only [ba_size, e1]) <;> omega
  have h2 : (insP2 x).size ≤ 60 := by unfold insP2; split <;> (try simp only [ba_size, e1]) <;> omega
  have h3 : (insP3 x).size ≤ 90 := by unfold insP3; split <;> (try simp only [ba_size, e1]) <;> omega
  exact ⟨h1, h2, h3, by unfold insP4; split <;> (try simp only [ba_size, e2]) <;> omega⟩
theorem wordI_size {x : GIns} (h : insOk x = true) (c : Int) : (wordI x c).size ≤ 20 := by
  obtain ⟨-, hr, ha, hb, hn⟩ := insOk_ops h
  have hf : 0 ≤ fieldI x c ∧ fieldI x c ≤ 63 := by unfold fieldI; split; omega; split; omega; split <;> omega
  have s := dgB_small (n := (fieldI x c).toNat) (by omega)
  have e : (⟨#[114]⟩ : ByteArray).size = 1 := rfl
  unfold wordI
  split <;> (try simp only [ba_size, e]) <;> omega
theorem wordsI_each {x : GIns} (h : insOk x = true) (i : Nat) : ∀ s ∈ wordsI x i, s.size ≤ 20 := by
  intro s hs
  unfold wordsI at hs
  rcases List.mem_cons.1 hs with rfl | hs
  · have := opName_size x.op; omega
  · obtain ⟨k, _, rfl⟩ := List.mem_map.1 hs; exact wordI_size h _
def stName (s : Int) : ByteArray := if s = 0 then ⟨#[114, 117, 110]⟩ else if s = 1 then ⟨#[104, 97, 108, 116]⟩ else ⟨#[102, 97, 117, 108, 116]⟩
theorem stName_size (s : Int) : (stName s).size ≤ 5 := by unfold stName; split; decide; split <;> decide
def hartB (h : GHart) : ByteArray := stName h.state ++ spB ++ dgB h.pc.toNat
def hartN (h : GHart) : Nat → ByteArray
  | 0 => hartB h
  | i + 1 => hartN h i ++ spB ++ dgB (h.regs.getD i 0).toNat
def hartText (h : GHart) : ByteArray := if hartOk h = true then hartN h 4 else ⟨#[]⟩
theorem hartText_join {h : GHart} (q : hartOk h = true) : hartB h ++ spB ++ joinT (h.regs.map fun r => dgB r.toNat) spB = hartText h := by
  obtain ⟨-, hl, -, -⟩ := hart_facts q
  unfold hartText
  rw [if_pos q]
  obtain ⟨regs, pc, st⟩ := h
  simp only at hl
  match regs, hl with
  | [a, b, c, d], _ => simp [hartN, joinT_cons, joinT_one, ba_assoc]
theorem reg_word {h : GHart} (q : hartOk h = true) {i : Nat} (hi : i < h.regs.length) : 0 ≤ h.regs[i] ∧ h.regs[i] ≤ 65535 := wordsOk_get (hart_facts q).1 hi
theorem hartB_size {h : GHart} (q : hartOk h = true) : (hartB h).size ≤ 25 := by
  obtain ⟨-, -, hp, -⟩ := hart_facts q
  have s := dgB_small (n := h.pc.toNat) (by omega)
  have t := stName_size h.state
  have e : spB.size = 1 := rfl
  unfold hartB
  simp only [ba_size, e]; omega
theorem hartN_size {h : GHart} (q : hartOk h = true) : ∀ i, i ≤ 4 → (hartN h i).size ≤ 25 + 20 * i
  | 0, _ => by have := hartB_size q; simpa [hartN] using this
  | i + 1, hi => by
    have ih := hartN_size q i (by omega)
    have hl := (hart_facts q).2.1
    have hw := reg_word q (i := i) (by omega)
    have s := dgB_small (n := (h.regs.getD i 0).toNat) (by rw [List.getD_eq_getElem?_getD, List.getElem?_eq_getElem (by omega)]; simp only [Option.getD_some]; omega)
    have e : spB.size = 1 := rfl
    simp only [hartN, ba_size, e]; omega
def dgN (xs : List Int) (i : Nat) : List ByteArray := (xs.take i).map fun n => dgB n.toNat
theorem dgN_zero (xs : List Int) : dgN xs 0 = [] := rfl
theorem dgN_succ {xs : List Int} {i : Nat} (h : i < xs.length) : dgN xs i ++ [dgB xs[i].toNat] = dgN xs (i + 1) := by unfold dgN; rw [← List.take_append_getElem h, List.map_append]; rfl
theorem dgN_len {xs : List Int} {i : Nat} (h : i ≤ xs.length) : (dgN xs i).length = i := by unfold dgN; simp; omega
theorem dgN_full (xs : List Int) : dgN xs xs.length = xs.map fun n => dgB n.toNat := by unfold dgN; rw [List.take_length]
theorem bits_has {op : Int} (h : op = 1 ∨ op = 2 ∨ op = 3 ∨ op = 4 ∨ op = 5 ∨ op = 6 ∨ op = 7 ∨ op = 8 ∨ op = 9 ∨ op = 10) : bitN (hasBits op) 1 = hasR op ∧ bitN (hasBits op) 2 = hasA op ∧ bitN (hasBits op) 4 = hasB op ∧ bitN (hasBits op) 8 = hasN op := by
  rcases h with rfl | rfl | rfl | rfl | rfl | rfl | rfl | rfl | rfl | rfl <;> decide
end Go.Tw
namespace Go.Tw
def opNames : List ByteArray := [⟨#[]⟩, ⟨#[115, 101, 116]⟩, ⟨#[97, 100, 100]⟩, ⟨#[109, 111, 114, 101]⟩, ⟨#[108, 111, 97, 100]⟩, ⟨#[115, 116, 111, 114, 101]⟩, ⟨#[115, 119, 97, 112]⟩, ⟨#[122, 101, 114, 111]⟩, ⟨#[106, 117, 109, 112]⟩, ⟨#[104, 97, 108, 116]⟩, ⟨#[115, 117, 98]⟩]
theorem opNames_at {op : Int} (h : op = 1 ∨ op = 2 ∨ op = 3 ∨ op = 4 ∨ op = 5 ∨ op = 6 ∨ op = 7 ∨ op = 8 ∨ op = 9 ∨ op = 10) : ∃ k : Nat, op = (k : Int) ∧ ∃ hk : k < opNames.length, opNames[k] = opName op := by
  rcases h with rfl | rfl | rfl | rfl | rfl | rfl | rfl | rfl | rfl | rfl
  · exact ⟨1, rfl, by decide, rfl⟩
  · exact ⟨2, rfl, by decide, rfl⟩
  · exact ⟨3, rfl, by decide, rfl⟩
  · exact ⟨4, rfl, by decide, rfl⟩
  · exact ⟨5, rfl, by decide, rfl⟩
  · exact ⟨6, rfl, by decide, rfl⟩
  · exact ⟨7, rfl, by decide, rfl⟩
  · exact ⟨8, rfl, by decide, rfl⟩
  · exact ⟨9, rfl, by decide, rfl⟩
  · exact ⟨10, rfl, by decide, rfl⟩
end Go.Tw
namespace Go.Tw
theorem opNames_to {op : Int} (h : op = 1 ∨ op = 2 ∨ op = 3 ∨ op = 4 ∨ op = 5 ∨ op = 6 ∨ op = 7 ∨ op = 8 ∨ op = 9 ∨ op = 10) : 0 ≤ op ∧ op < (opNames.length : Int) ∧ ∃ hk : op.toNat < opNames.length, opNames[op.toNat] = opName op := by
  obtain ⟨k, rfl, hk, e⟩ := opNames_at h
  exact ⟨by omega, by omega, hk, e⟩
end Go.Tw

