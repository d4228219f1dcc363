/- The layer: trees, states, rules; plain functions. -/
import Derived.Test.YtjfjnpbeboafkaaGreatBaseF
set_option linter.unusedSimpArgs false
set_option linter.unusedVariables false
set_option linter.unnecessarySimpa false
namespace Go.Tw
def zCore : GCore := ⟨⟨[], 0, 0⟩, []⟩
def coreOkB (c : GCore) (n : GNode) (nodes : Int) : Bool := nodeOk n nodes && (hartOk c.hart && cacheOk c.cache n.frames)
def frameAtI (n : GNode) (p : Int) : GFrame := n.frames.getD p.toNat zFrame
def csCache (c : GCore) (n : GNode) : List GBlock := if cfB c.cache c.hart.pc = true then c.cache else cacheAdd c.cache (blockOf (frameAtI n (c.hart.pc / 4)).list c.hart.pc)
def csIns (c : GCore) (n : GNode) : GIns := cfI (csCache c n) c.hart.pc
def csAt (c : GCore) (n : GNode) : Int := target (csIns c n) c.hart.regs
def csOwn (c : GCore) (n : GNode) : Bool := decide ((csIns c n).op ≠ 4)
def csGot (c : GCore) (n : GNode) : Int := if 0 ≤ csAt c n then (frameAtI n (csAt c n / 4)).list.getD (csAt c n % 4).toNat 0 else 0
def csWork (c : GCore) (n : GNode) : GHart × Int := work c.hart (csIns c n) (csGot c n)
def csPut (c : GCore) (n : GNode) : GNode :=
  if 0 ≤ (csWork c n).2 then setFrame n (csAt c n / 4).toNat { frameAtI n (csAt c n / 4) with list := (frameAtI n (csAt c n / 4)).list.set (csAt c n % 4).toNat (csWork c n).2 } else n
def csCore (c : GCore) (n : GNode) : GCore := ⟨(csWork c n).1, if 0 ≤ (csWork c n).2 then purge (csCache c n) (csAt c n / 4) else csCache c n⟩
def coreDo (c : GCore) (n : GNode) (nodes : Int) : GCore × GNode × Int :=
  if c.hart.state ≠ 0 then (c, n, 2)
  else if (frameAtI n (c.hart.pc / 4)).state = 0 then (c, want n nodes (c.hart.pc / 4) false, 3)
  else if 0 ≤ csAt c n ∧ lacks (frameAtI n (csAt c n / 4)) (csOwn c n) = true then (⟨c.hart, csCache c n⟩, want n nodes (csAt c n / 4) (csOwn c n), 3)
  else (csCore c n, csPut c n, 0)
def coreStep (c : GCore) (n : GNode) (nodes : Int) : GCore × GNode × Int := if coreOkB c n nodes = true then coreDo c n nodes else (zCore, zNode, 1)
end Go.Tw

namespace Go.Tw
def lessB (f : GFrame) (own : Bool) : Bool := decide (f.state = 0) || (own && decide (f.state = 1))
theorem frameOk_st {f : GFrame} (h : frameOk f = true) : f.state = 0 ∧ f.list.length = 0 ∨ (f.state = 1 ∨ f.state = 2) ∧ f.list.length = 4 := by
  by_cases h0 : f.state = 0
  · rw [frameOk_none h0] at h; simp at h; exact Or.inl ⟨h0, by simp [h]⟩
  · rw [frameOk_some h0] at h
    simp only [Bool.and_eq_true, inR_iff] at h
    have := wordsOk_len h.2
    exact Or.inr ⟨by omega, by omega⟩
theorem lessB_eq {f : GFrame} (h : frameOk f = true) (own : Bool) : lessB f own = lacks f own := by
  unfold lessB lacks
  rcases frameOk_st h with ⟨h0, -⟩ | ⟨h1 | h1, -⟩ <;> simp [*]
theorem queueB_wrap {s : GSender} (h : senderOk s = true) : IntKind.wrap .i64 (s.base + s.queue.length) = s.base + s.queue.length := by
  obtain ⟨h1, h2, -⟩ := senderOk_facts h
  exact wrap_ok (by omega) (by omega)
theorem queueB_test (s : GSender) (m : GMsg) : queueB s m = !(!senderOk s || !msgOk m || decide ((s.queue.length : Int) = 30) || decide (IntKind.wrap .i64 (s.base + s.queue.length) = 100000)) := by
  unfold queueB
  cases hk : senderOk s with
  | false => rfl
  | true =>
    rw [queueB_wrap hk]
    cases msgOk m with
    | false => rfl
    | true =>
      rw [Bool.eq_iff_iff]
      simp
      omega
theorem queueS_yes {s : GSender} {m : GMsg} (h : queueB s m = true) : queueS s m = ⟨s.base, s.queue ++ [m]⟩ := if_pos h
theorem queueS_no {s : GSender} {m : GMsg} (h : queueB s m = false) : queueS s m = s := if_neg (by simp [h])
theorem queueB_ok {s : GSender} {m : GMsg} (h : queueB s m = true) : senderOk s = true ∧ msgOk m = true ∧ s.queue.length < 30 ∧ s.base + s.queue.length < 100000 := by
  unfold queueB at h
  simp only [Bool.and_eq_true, decide_eq_true_eq] at h
  obtain ⟨⟨⟨h1, h2⟩, h3⟩, h4⟩ := h
  obtain ⟨k1, k2, -⟩ := senderOk_facts h1
  have k3 := h1
  unfold senderOk sendHd at k3
  simp only [Bool.and_eq_true, decide_eq_true_eq] at k3
  rw [queueB_wrap h1] at k3
  exact ⟨h1, h2, by omega, by omega⟩
theorem getD_at {α : Type} {xs : List α} {i : Nat} {z : α} (h : i < xs.length) : xs.getD i z = xs[i] := by
  rw [List.getD_eq_getElem?_getD, List.getElem?_eq_getElem h]; rfl
theorem want_split (n : GNode) (nodes page : Int) : nodeOk n nodes = false ∨ (nodeOk n nodes = true ∧ inR page 0 5 = false) ∨
    (nodeOk n nodes = true ∧ inR page 0 5 = true ∧ ∃ p d : Nat, page = (p : Int) ∧ p < n.frames.length ∧ d < n.out.length ∧ (page % nodes).toNat = d ∧ page.tmod nodes = (d : Int) ∧ n.frames.length = 6 ∧ (n.out.length : Int) ≤ 4 ∧ nodes ≠ 0 ∧ p < 6 ∧ page.toNat = p) := by
  cases hk : nodeOk n nodes with
  | false => exact Or.inl rfl
  | true =>
    refine Or.inr ?_
    cases hp : inR page 0 5 with
    | false => exact Or.inl ⟨rfl, rfl⟩
    | true =>
      refine Or.inr ⟨rfl, rfl, page.toNat, (page % nodes).toNat, ?_⟩
      rw [inR_iff] at hp
      obtain ⟨h1, h2, h3, -⟩ := nodeOk_facts hk
      have hn : 1 ≤ nodes ∧ nodes ≤ 4 := by
        unfold nodeOk nodeHd at hk
        simp only [Bool.and_eq_true, inR_iff] at hk
        exact hk.1.1.1.1.1.1.1.1.1
      have hm := Int.emod_nonneg page (b := nodes) (by omega)
      have hl := Int.emod_lt_of_pos page (b := nodes) (by omega)
      refine ⟨by omega, by omega, by omega, rfl, ?_, h1, by omega, by omega, by omega, rfl⟩
      rw [Int.tmod_eq_emod_of_nonneg (by omega)]
      omega
theorem wantOk_no1 {n : GNode} {nodes page : Int} {own : Bool} (h : nodeOk n nodes = false) : wantOk n nodes page own = false := by unfold wantOk; rw [h]; rfl
theorem wantOk_no2 {n : GNode} {nodes page : Int} {own : Bool} (h : inR page 0 5 = false) : wantOk n nodes page own = false := by unfold wantOk; rw [h, Bool.and_false]; rfl
theorem wantOk_at {n : GNode} {nodes page : Int} {own : Bool} {p d : Nat} (h1 : nodeOk n nodes = true) (h2 : inR page 0 5 = true) (h3 : page.toNat = p) (h4 : p < n.frames.length) (h5 : (page % nodes).toNat = d) (h6 : d < n.out.length) :
    wantOk n nodes page own = (!n.frames[p].asked && lacks n.frames[p] own && queueB n.out[d] (wantMsg page own)) := by
  unfold wantOk
  rw [h1, h2, h3, h5, getD_at h4, getD_at h6]
  rfl
theorem want_no {n : GNode} {nodes page : Int} {own : Bool} (h : wantOk n nodes page own = false) : want n nodes page own = n := if_neg (by simp [h])
theorem want_yes {n : GNode} {nodes page : Int} {own : Bool} {p d : Nat} (h : wantOk n nodes page own = true) (h3 : page.toNat = p) (h4 : p < n.frames.length) (h5 : (page % nodes).toNat = d) (h6 : d < n.out.length) :
    want n nodes page own = ⟨n.id, n.frames.set p ⟨n.frames[p].state, n.frames[p].list, true⟩, n.homes, n.out.set d (queueS n.out[d] (wantMsg page own)), n.in_⟩ := by
  unfold want
  rw [if_pos h, h3, h5, getD_at h4, getD_at h6]
theorem want_small {n : GNode} {nodes page : Int} {own : Bool} (h : n.small) : (want n nodes page own).small := by
  cases hk : wantOk n nodes page own with
  | false => rw [want_no hk]; exact h
  | true =>
    rcases want_split n nodes page with h1 | ⟨-, h1⟩ | ⟨k1, k2, p, d, e1, e2, e3, e4, e5, e6, -⟩
    · rw [wantOk_no1 h1] at hk; cases hk
    · rw [wantOk_no2 h1] at hk; cases hk
    · have e9 : page.toNat = p := by omega
      rw [want_yes hk e9 e2 e4 e3]
      rw [wantOk_at k1 k2 e9 e2 e4 e3] at hk
      simp only [Bool.and_eq_true] at hk
      obtain ⟨-, hq⟩ := hk
      obtain ⟨hq1, hq2, hq3, -⟩ := queueB_ok hq
      unfold GNode.small at h ⊢
      obtain ⟨s1, s2, s3, s4, s5, s6, s7⟩ := h
      refine ⟨by simpa using s1, ?_, s3, s4, by simpa using s5, ?_, s7⟩
      · intro a ha
        rcases List.mem_or_eq_of_mem_set ha with ha | rfl
        · exact s2 a ha
        · have h9 := s2 n.frames[p] (List.getElem_mem e2); exact h9
      · intro a ha
        rcases List.mem_or_eq_of_mem_set ha with ha | rfl
        · exact s6 a ha
        · rw [queueS_yes hq]
          have := s6 _ (List.getElem_mem e3)
          unfold GSender.small at this ⊢
          refine ⟨by simp; omega, fun b hb => ?_⟩
          rcases List.mem_append.1 hb with hb | hb
          · exact this.2 b hb
          · obtain rfl := List.mem_singleton.1 hb
            unfold GMsg.small wantMsg; simp
def frB (f : GFrame) (i : Int) : Bool := frameOk f && inR i 0 (IntKind.wrap .i64 (f.list.length - 1))
def frV (f : GFrame) (i : Int) : Int := if frB f i = true then f.list.getD i.toNat 0 else 0
def fwB (f : GFrame) (i w : Int) : Bool := frameOk f && decide (f.state = 2) && inR i 0 3 && inR w 0 65535
theorem fw_facts {f : GFrame} {i w : Int} (h : fwB f i w = true) : 0 ≤ i ∧ i ≤ 3 ∧ i < (f.list.length : Int) ∧ i.toNat < f.list.length := by
  unfold fwB at h
  simp only [Bool.and_eq_true, inR_iff, decide_eq_true_eq] at h
  obtain ⟨⟨⟨h1, h2⟩, h3⟩, -⟩ := h
  rcases frameOk_st h1 with h4 | h4 <;> omega
def fwF (f : GFrame) (i w : Int) : GFrame := if fwB f i w = true then { f with list := f.list.set i.toNat w } else f
end Go.Tw

namespace Go.Tw
theorem bne_dec (x y : Int) : (x != y) = !decide (x = y) := by rw [Bool.eq_iff_iff]; simp
theorem coreOkB_facts {c : GCore} {n : GNode} {nodes : Int} (h : coreOkB c n nodes = true) : nodeOk n nodes = true ∧ hartOk c.hart = true ∧ cacheOk c.cache n.frames = true := by
  unfold coreOkB at h
  simp only [Bool.and_eq_true] at h
  exact h
theorem page_nat {x : Int} (h0 : 0 ≤ x) (h1 : x ≤ 23) {n : GNode} (hf : n.frames.length = 6) : ∃ k r : Nat, ∃ hk : k < n.frames.length,
    x.tdiv 4 = (k : Int) ∧ IntKind.wrap .i64 (k : Int) = (k : Int) ∧ x / 4 = (k : Int) ∧ x.tmod 4 = (r : Int) ∧ (x % 4).toNat = r ∧ r < 4 ∧ frameAtI n (x / 4) = n.frames[k] ∧ k ≤ 5 ∧ (x / 4).toNat = k ∧ IntKind.wrap .i64 (x.tdiv 4) = (k : Int) := by
  refine ⟨(x / 4).toNat, (x % 4).toNat, by omega, ?_, wrap_ok (by omega) (by omega), by omega, ?_, rfl, by omega, ?_, by omega, rfl, ?_⟩
  · rw [tdiv_pos h0]; omega
  · rw [tmod_pos h0]; omega
  · unfold frameAtI; rw [getD_at (by omega)]
  · rw [tdiv_pos h0, wrap_ok (by omega) (by omega)]; omega
theorem fr_at {f : GFrame} {r : Nat} (h1 : frameOk f = true) (h3 : r < 4) (h : r < f.list.length) : frV f (r : Int) = f.list[r] := by
  have hl : f.list.length = 4 := by rcases frameOk_st h1 with h4 | h4 <;> omega
  have hk : frB f (r : Int) = true := by
    unfold frB
    rw [h1, wrap_ok (by omega) (by omega), (inR_iff _ _ _).2 (show (0 : Int) ≤ r ∧ (r : Int) ≤ (f.list.length : Int) - 1 by omega)]
    rfl
  unfold frV
  rw [if_pos hk]
  exact getD_at h
theorem fw_at {f : GFrame} {r : Nat} {w : Int} (h1 : frameOk f = true) (h2 : f.state = 2) (h3 : r < 4) (h4 : isW w = true) : fwF f (r : Int) w = ⟨f.state, f.list.set r w, f.asked⟩ := by
  have hk : fwB f (r : Int) w = true := by
    unfold fwB
    rw [h1, (inR_iff _ _ _).2 (show (0 : Int) ≤ r ∧ (r : Int) ≤ 3 by omega), (inR_iff _ _ _).2 ((isW_iff _).1 h4)]
    simp [h2]
  unfold fwF
  rw [if_pos hk]
  rfl
section
variable {c : GCore} {n : GNode} {nodes : Int}
theorem coreStep_bad (h : coreOkB c n nodes = false) : coreStep c n nodes = (zCore, zNode, 1) := if_neg (by simp [h])
theorem coreStep_over (h : coreOkB c n nodes = true) (hs : ¬ c.hart.state = 0) : coreStep c n nodes = (c, n, 2) := by
  unfold coreStep coreDo; rw [if_pos h, if_pos hs]
theorem coreStep_wait1 (h : coreOkB c n nodes = true) (hs : c.hart.state = 0) (h1 : (frameAtI n (c.hart.pc / 4)).state = 0) : coreStep c n nodes = (c, want n nodes (c.hart.pc / 4) false, 3) := by
  unfold coreStep coreDo; rw [if_pos h, if_neg (by simp [hs]), if_pos h1]
theorem coreStep_wait2 (h : coreOkB c n nodes = true) (hs : c.hart.state = 0) (h1 : ¬ (frameAtI n (c.hart.pc / 4)).state = 0) (h2 : 0 ≤ csAt c n) (h3 : lacks (frameAtI n (csAt c n / 4)) (csOwn c n) = true) :
    coreStep c n nodes = (⟨c.hart, csCache c n⟩, want n nodes (csAt c n / 4) (csOwn c n), 3) := by
  unfold coreStep coreDo; rw [if_pos h, if_neg (by simp [hs]), if_neg h1, if_pos ⟨h2, h3⟩]
theorem coreStep_done (h : coreOkB c n nodes = true) (hs : c.hart.state = 0) (h1 : ¬ (frameAtI n (c.hart.pc / 4)).state = 0) (h2 : 0 ≤ csAt c n → lacks (frameAtI n (csAt c n / 4)) (csOwn c n) = false) :
    coreStep c n nodes = (csCore c n, csPut c n, 0) := by
  unfold coreStep coreDo
  rw [if_pos h, if_neg (by simp [hs]), if_neg h1, if_neg]
  rintro ⟨h3, h4⟩
  rw [h2 h3] at h4; cases h4
theorem lacks_no {f : GFrame} {own : Bool} (h : lacks f own = false) (hf : frameOk f = true) : f.state ≠ 0 ∧ f.list.length = 4 ∧ (own = true → f.state = 2) := by
  unfold lacks at h
  simp only [Bool.or_eq_false_iff, decide_eq_false_iff_not, Bool.and_eq_false_iff] at h
  obtain ⟨h1, h2⟩ := h
  rcases frameOk_st hf with h3 | h3
  · exact absurd h3.1 h1
  · refine ⟨h1, h3.2, fun ho => ?_⟩
    rcases h2 with h2 | h2
    · rw [ho] at h2; cases h2
    · omega
theorem csWork_put (hp : 0 ≤ (csWork c n).2) : 0 ≤ csAt c n ∧ csOwn c n = true ∧ isW (csWork c n).2 = true := by
  have h1 := work_aim (h := c.hart) (x := csIns c n) (got := csGot c n) hp
  have h2 := work_put (h := c.hart) (x := csIns c n) (got := csGot c n) hp
  refine ⟨h1, ?_, h2.2.2.2.2.2⟩
  unfold csOwn
  simp only [decide_eq_true_eq]
  rcases h2.2.2.2.2.1 with h3 | h3 <;> omega
theorem csAt_range (c : GCore) (n : GNode) : csAt c n = -1 ∨ (0 ≤ csAt c n ∧ csAt c n ≤ 23) := target_range _ _
theorem csCore_put (hp : 0 ≤ (csWork c n).2) {k : Nat} (hk : csAt c n / 4 = (k : Int)) : csCore c n = ⟨(csWork c n).1, purge (csCache c n) (k : Int)⟩ := by
  unfold csCore; rw [if_pos hp, hk]
theorem csCore_keep (hp : ¬ 0 ≤ (csWork c n).2) : csCore c n = ⟨(csWork c n).1, csCache c n⟩ := by
  unfold csCore; rw [if_neg hp]
theorem csPut_put (hp : 0 ≤ (csWork c n).2) {k r : Nat} (hk : (csAt c n / 4).toNat = k) (hl : k < n.frames.length) (hr : (csAt c n % 4).toNat = r) (hf : frameAtI n (csAt c n / 4) = n.frames[k]) :
    csPut c n = ⟨n.id, n.frames.set k ⟨n.frames[k].state, n.frames[k].list.set r (csWork c n).2, n.frames[k].asked⟩, n.homes, n.out, n.in_⟩ := by
  unfold csPut setFrame; rw [if_pos hp, hk, hr, hf]
theorem csPut_keep (hp : ¬ 0 ≤ (csWork c n).2) : csPut c n = n := by unfold csPut; rw [if_neg hp]
theorem csCache_hit (h : cfB c.cache c.hart.pc = true) : c.cache = csCache c n := (if_pos h).symm
theorem csCache_miss (h : cfB c.cache c.hart.pc = false) {k : Nat} (hl : k < n.frames.length) (hf : frameAtI n (c.hart.pc / 4) = n.frames[k]) : cacheAdd c.cache (blockOf n.frames[k].list c.hart.pc) = csCache c n := by
  unfold csCache; rw [if_neg (by simp [h]), hf]
theorem csCache_few (c : GCore) (n : GNode) : (csCache c n).length ≤ max c.cache.length 5 := by
  unfold csCache
  split
  · omega
  · exact cacheAdd_len _ _
theorem frameAtI_len {n : GNode} {p : Int} {m : Nat} (h : ∀ a ∈ n.frames, a.list.length ≤ m) : (frameAtI n p).list.length ≤ m := by
  unfold frameAtI
  by_cases hp : p.toNat < n.frames.length
  · rw [getD_at hp]; exact h _ (List.getElem_mem hp)
  · rw [List.getD_eq_getElem?_getD, List.getElem?_eq_none (by omega)]; exact Nat.zero_le _
theorem csCache_small (hc : ∀ a ∈ c.cache, a.small) (hn : n.small) : ∀ a ∈ csCache c n, a.small := by
  intro a ha
  unfold csCache at ha
  split at ha
  · exact hc a ha
  · rcases cacheAdd_mem ha with h | h
    · exact hc a h
    · rw [h]
      unfold GBlock.small
      refine blockOf_len (frameAtI_len fun f hf => ?_)
      have := hn.2.1 f hf
      exact this
theorem csCore_small (hc : c.small) (hn : n.small) : (csCore c n).small := by
  unfold GCore.small GHart.small at hc ⊢
  obtain ⟨h1, h2, h3⟩ := hc
  have hl := csCache_few c n
  have hs := csCache_small h3 hn
  unfold csCore
  refine ⟨by show (csWork c n).1.regs.length ≤ _; unfold csWork; rw [work_regs]; exact h1, ?_, ?_⟩
  · show (if _ then _ else _ : List GBlock).length ≤ _
    split
    · have := purge_len (csCache c n) (csAt c n / 4); omega
    · omega
  · intro a ha
    have ha2 : a ∈ (if 0 ≤ (csWork c n).2 then purge (csCache c n) (csAt c n / 4) else csCache c n) := ha
    split at ha2
    · exact hs a (purge_mem ha2)
    · exact hs a ha2
theorem csPut_small (hn : n.small) : (csPut c n).small := by
  unfold csPut
  split
  · unfold GNode.small setFrame at *
    obtain ⟨s1, s2, s3, s4, s5, s6, s7⟩ := hn
    refine ⟨by simpa using s1, ?_, s3, s4, s5, s6, s7⟩
    intro a ha
    rcases List.mem_or_eq_of_mem_set ha with ha | rfl
    · exact s2 a ha
    · show (List.set _ _ _).length ≤ _
      rw [List.length_set]
      exact frameAtI_len fun f hf => s2 f hf
  · exact hn
theorem coreStep_small (hc : c.small) (hn : n.small) : (coreStep c n nodes).1.small ∧ (coreStep c n nodes).2.1.small := by
  unfold coreStep
  split
  · unfold coreDo
    split
    · exact ⟨hc, hn⟩
    · split
      · exact ⟨hc, want_small hn⟩
      · split
        · refine ⟨?_, want_small hn⟩
          unfold GCore.small at hc ⊢
          have hl := csCache_few c n
          exact ⟨hc.1, by show (csCache c n).length ≤ _; omega, csCache_small hc.2.2 hn⟩
        · exact ⟨csCore_small hc hn, csPut_small hn⟩
  · exact ⟨by unfold GCore.small GHart.small zCore; simp, by unfold GNode.small zNode; simp⟩
end
end Go.Tw

namespace Go.Tw
theorem sum_set {α : Type} (f : α → Nat) : ∀ (xs : List α) (i : Nat) (y : α) (h : i < xs.length), ((xs.set i y).map f).sum + f xs[i] = (xs.map f).sum + f y
  | [], _, _, h => absurd h (Nat.not_lt_zero _)
  | x :: xs, 0, y, _ => by simp; omega
  | x :: xs, i + 1, y, h => by
    have := sum_set f xs i y (by simpa using h)
    simp at this ⊢
    omega
section
variable {c : GCore} {n : GNode} {nodes : Int}
theorem want_nv {page : Int} {own : Bool} : nvNode (want n nodes page own) ≤ nvNode n + 100 := by
  cases hk : wantOk n nodes page own with
  | false => rw [want_no hk]; omega
  | true =>
    rcases want_split n nodes page with h1 | ⟨-, h1⟩ | ⟨k1, k2, p, d, e1, e2, e3, e4, e5, e6, -⟩
    · rw [wantOk_no1 h1] at hk; cases hk
    · rw [wantOk_no2 h1] at hk; cases hk
    · have e9 : page.toNat = p := by omega
      rw [want_yes hk e9 e2 e4 e3]
      rw [wantOk_at k1 k2 e9 e2 e4 e3] at hk
      simp only [Bool.and_eq_true] at hk
      obtain ⟨-, hq⟩ := hk
      rw [queueS_yes hq]
      have s1 := sum_set nFrame n.frames p ⟨n.frames[p].state, n.frames[p].list, true⟩ e2
      have s2 := sum_set nSender n.out d ⟨n.out[d].base, n.out[d].queue ++ [wantMsg page own]⟩ e3
      unfold nvNode
      simp only [nFrame, nSender, List.map_append, List.sum_append, List.map_cons, List.map_nil, List.sum_cons, List.sum_nil, nMsg, wantMsg, List.length_nil] at s1 s2 ⊢
      omega
theorem csCache_nv (hn : n.small) : ((csCache c n).map nBlock).sum ≤ (c.cache.map nBlock).sum + 5242881 := by
  unfold csCache
  split
  · omega
  · have h1 := cacheAdd_sum nBlock c.cache (blockOf (frameAtI n (c.hart.pc / 4)).list c.hart.pc)
    have h2 : (blockOf (frameAtI n (c.hart.pc / 4)).list c.hart.pc).list.length ≤ 1048576 := blockOf_len (frameAtI_len fun f hf => hn.2.1 f hf)
    unfold nBlock at h1 ⊢
    omega
theorem csPut_nv : nvNode (csPut c n) ≤ nvNode n := by
  unfold csPut
  split
  · unfold setFrame nvNode
    by_cases hk : (csAt c n / 4).toNat < n.frames.length
    · have s1 := sum_set nFrame n.frames (csAt c n / 4).toNat { frameAtI n (csAt c n / 4) with list := (frameAtI n (csAt c n / 4)).list.set (csAt c n % 4).toNat (csWork c n).2 } hk
      have e1 : frameAtI n (csAt c n / 4) = n.frames[(csAt c n / 4).toNat] := getD_at hk
      rw [e1] at s1 ⊢
      simp only [nFrame, List.length_set] at s1 ⊢
      omega
    · rw [List.set_eq_of_length_le (by omega)]; exact Nat.le_refl _
  · omega
theorem coreStep_nv (hn : n.small) : nvCore (coreStep c n nodes).1 ≤ nvCore c + 5242881 ∧ nvNode (coreStep c n nodes).2.1 ≤ nvNode n + 100 := by
  have hcn := csCache_nv (c := c) hn
  unfold coreStep
  split
  · unfold coreDo
    split
    · exact ⟨by simp only; omega, by simp only; omega⟩
    · split
      · exact ⟨by simp only; omega, want_nv⟩
      · split
        · refine ⟨?_, want_nv⟩
          unfold nvCore
          simp only
          omega
        · refine ⟨?_, Nat.le_trans csPut_nv (by omega)⟩
          unfold nvCore csCore csWork
          simp only [work_regs]
          have := purge_sum nBlock (csAt c n / 4) (csCache c n)
          split <;> omega
  · exact ⟨by simp [nvCore, zCore], by simp [nvNode, zNode]⟩
end
end Go.Tw

