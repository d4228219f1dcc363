/- The layer: trees, states, rules; plain functions. -/
import Derived.Test.YtjfjnpbeboafkaaGreatBaseA
import Derived.Laws.MakeOwn
set_option linter.unusedSimpArgs false
set_option linter.unusedVariables false
set_option linter.unnecessarySimpa false
namespace Go.Tw
theorem del_nil {α : Type} (xs : List (Nat × α)) : del [] xs = xs := by
  unfold del
  rw [List.filter_eq_self]
  intro x _
  rfl
theorem killLs_no (ls : List L) : killLs (fun _ => false) ls = ls := by simp [killLs]
theorem killB_no (bs : List (Nat × List L)) : killB (fun _ => false) bs = bs := by simp [killB, killLs_no]
theorem killE_no (env : List (Nat × Bool × V)) : killE (fun _ => false) env = env := by
  unfold killE
  rw [List.filter_eq_self]
  intro x _
  simp
theorem killS_no (sav : List (List (Nat × Bool × V) × Act)) : killS (fun _ => false) sav = sav := by
  unfold killS
  conv => rhs; rw [← List.map_id sav]
  exact List.map_congr_left fun x _ => by rw [killE_no]; rfl
structure Saved (w : World) (g : Gh) (σ : St) (env : List (Nat × Bool × V)) (a : Act) : Prop where
  yes : ∀ t c v, get env t = some (c, v) → c = true → RepV w g σ v (a.tmps.getD t undef)
  no : ∀ t c v, get env t = some (c, v) → c = false → a.tmps.getD t undef = undef
  unq : env.Pairwise fun x y => x.1 ≠ y.1
structure Rel (w0 : World) (Al : Blks) (N : Nat) (σ : St) (a : Act) (w : World) (g : Gh) : Prop where
  slots : Slots w g σ a
  unq : σ.env.Pairwise fun x y => x.1 ≠ y.1
  mem : Mem w g σ
  own : ∀ b, Owned g σ b → w0.heap.size ≤ b ∨ Al b
  frm : ∀ b, b < w0.heap.size → ¬ Al b → w.heap[b]? = w0.heap[b]?
  siz : w0.heap.size ≤ w.heap.size
  os : w.os = w0.os
  tape : w.tape = w0.tape
  out : w.output = w0.output
  dfr : a.defers = []
  tsz : a.tmps.size = N
  sav : ∀ x ∈ σ.sav, Saved w g σ x.1 x.2
def St.set (σ : St) (d : Option Nat) (c : Bool) (v : V) : St := match d with
  | some d => { σ with env := (d, c, v) :: del [d] σ.env }
  | none => σ
theorem get_of_mem {α : Type} : ∀ {xs : List (Nat × α)}, xs.Pairwise (fun x y => x.1 ≠ y.1) → ∀ {n : Nat} {x : α}, (n, x) ∈ xs → get xs n = some x
  | [], _, _, _, h => by simp at h
  | (k, y) :: xs, hp, n, x, h => by
    obtain ⟨h1, h2⟩ := List.pairwise_cons.1 hp
    rcases List.mem_cons.1 h with h | h
    · simp only [Prod.mk.injEq] at h
      obtain ⟨rfl, rfl⟩ := h
      simp [get]
    · have := h1 _ h
      simp only [get]
      rw [if_neg (fun e => this e.symm)]
      exact get_of_mem h2 h
theorem Slots.congr {w : World} {g : Gh} {σ σ' : St} {a : Act} (h : Slots w g σ a) (he : σ'.env = σ.env) (hb : σ'.box = σ.box) (hr : σ'.row = σ.row) : Slots w g σ' a := by
  obtain ⟨h1, h2⟩ := h
  obtain ⟨env, box, row, nxt, sav⟩ := σ
  obtain ⟨env', box', row', nxt', sav'⟩ := σ'
  simp only at he hb hr
  subst he hb hr
  refine ⟨fun t c v hg hc => ?_, h2⟩
  exact (h1 t c v hg hc).stays fun l _ => ⟨fun r p _ row h => ⟨row, h, rfl, fun z es u h1 h2 => ⟨es, h1, rfl, h2⟩⟩, fun b _ h => ⟨h, rfl⟩⟩
theorem stays_same {w : World} {g : Gh} {σ σ' : St} (hb : σ'.box = σ.box) (hr : σ'.row = σ.row) (l : L) : StaysL w w g g σ σ' l :=
  ⟨fun r p _ row h => ⟨row, by rw [hr]; exact h, rfl, fun z es u h1 h2 => ⟨es, h1, rfl, h2⟩⟩, fun b _ h => ⟨by rw [hb]; exact h, rfl⟩⟩
theorem RepV.same {w : World} {g : Gh} {σ σ' : St} {v : V} {x : Value} (h : RepV w g σ v x) (hb : σ'.box = σ.box) (hr : σ'.row = σ.row) : RepV w g σ' v x := h.stays fun l _ => stays_same hb hr l
theorem RepLs.same {w : World} {g : Gh} {σ σ' : St} {v : List L} {x : List Value} (h : RepLs w g σ v x) (hb : σ'.box = σ.box) (hr : σ'.row = σ.row) : RepLs w g σ' v x := h.stays fun l _ => stays_same hb hr l
theorem Owned.same {g : Gh} {σ σ' : St} (hb : σ'.box = σ.box) (hr : σ'.row = σ.row) : Owned g σ' = Owned g σ := by
  funext b
  simp only [Owned, hb, hr]
theorem Mem.same {w : World} {g : Gh} {σ σ' : St} (m : Mem w g σ) (hb : σ'.box = σ.box) (hr : σ'.row = σ.row) : Mem w g σ' := by
  obtain ⟨h1, h2, h3, h4, h5, h6, h7, h8⟩ := m
  have ho := Owned.same (g := g) hb hr
  refine ⟨?_, ?_, ?_, ?_, ?_, ?_, ?_, ?_⟩
  · rw [hb]
    intro k ls h
    obtain ⟨cs, e, hc, hl⟩ := h1 k ls h
    exact ⟨cs, e, hc, hl.same hb hr⟩
  · rw [hr]; exact h2
  · rw [hr, ho]; exact h3
  · rw [hr, ho]; exact h4
  · rw [hb]; exact h5
  · rw [hb, hr]; exact h6
  · rw [hr]; exact h7
  · rw [ho]; exact h8
section
variable {w0 w w' : World} {Al : Blks} {N : Nat} {g g' : Gh} {σ σ' σ1 : St} {a : Act} {DR DB : List Nat} {nr : List (Nat × Row)} {nb : List (Nat × List L)} {kill : L → Bool}
theorem pairwise_del {α : Type} {xs : List (Nat × α)} (h : xs.Pairwise fun x y => x.1 ≠ y.1) (ns : List Nat) : (del ns xs).Pairwise fun x y => x.1 ≠ y.1 := h.sublist List.filter_sublist
theorem pairwise_set {α : Type} {xs : List (Nat × α)} (h : xs.Pairwise fun x y => x.1 ≠ y.1) (d : Nat) (x : α) : ((d, x) :: del [d] xs).Pairwise fun x y => x.1 ≠ y.1 := by
  refine List.pairwise_cons.2 ⟨fun y hy => ?_, pairwise_del h [d]⟩
  have := (List.mem_filter.1 hy).2
  simp at this
  exact fun e => this e.symm
theorem Rel.put (r : Rel w0 Al N σ a w g) {d : Option Nat} (hd : ∀ t, d = some t → t < N) {c : Bool} {v : V} {x : Value} (hy : c = true → RepV w g σ v x) (hn : c = false → x = undef) : Rel w0 Al N (σ.set d c v) (a.put d x) w g := by
  cases d with
  | none =>
    exact r
  | some d =>
    have hlt : d < a.tmps.size := r.tsz ▸ hd d rfl
    have hs : ∀ t, (a.put (some d) x).tmps.getD t undef = if t = d then x else a.tmps.getD t undef := by
      intro t
      simp only [Act.put, Array.getD_eq_getD_getElem?, Array.getElem?_setIfInBounds]
      by_cases e : d = t
      · subst e; simp [hlt]
      · simp [e, Ne.symm e]
    refine ⟨⟨fun t c' v' h hc => ?_, fun t c' v' h hc => ?_⟩, pairwise_set r.unq d _, r.mem.same rfl rfl, ?_, r.frm, r.siz, r.os, r.tape, r.out, r.dfr, by simp [Act.put, r.tsz], fun x hx => ?_⟩
    · rw [hs]
      simp only [St.set, get] at h
      split at h
      · rename_i e
        simp only [Option.some.injEq, Prod.mk.injEq] at h
        obtain ⟨rfl, rfl⟩ := h
        rw [if_pos e]
        exact (hy hc).same rfl rfl
      · rename_i e
        rw [if_neg e]
        rw [get_del] at h
        split at h
        · cases h
        · exact (r.slots.yes t c' v' h hc).same rfl rfl
    · rw [hs]
      simp only [St.set, get] at h
      split at h
      · rename_i e
        simp only [Option.some.injEq, Prod.mk.injEq] at h
        obtain ⟨rfl, rfl⟩ := h
        rw [if_pos e]
        exact hn hc
      · rename_i e
        rw [if_neg e]
        rw [get_del] at h
        split at h
        · cases h
        · exact r.slots.no t c' v' h hc
    · rw [Owned.same (g := g) (σ' := σ.set (some d) c v) (σ := σ) rfl rfl]; exact r.own
    · obtain ⟨h1, h2, h3⟩ := r.sav x hx
      exact ⟨fun t c' v' h hc => (h1 t c' v' h hc).same rfl rfl, h2, h3⟩
theorem Rel.turn (r : Rel w0 Al N σ a w g) (n : NewIn w w' g g' σ σ1 DR DB nr nb kill) (hes : σ1.env = killE kill σ.env ∧ σ1.sav = killS kill σ.sav) (hos : w'.os = w.os) (ht : w'.tape = w.tape) (ho : w'.output = w.output) : Rel w0 Al N σ1 a w' g' := by
  obtain ⟨he, hv⟩ := hes
  refine ⟨⟨fun t c v h hc => ?_, fun t c v h hc => ?_⟩, ?_, n.mem r.mem, fun b h => ?_, fun b hb hA => ?_, Nat.le_trans r.siz n.siz, hos.trans r.os, ht.trans r.tape, ho.trans r.out, r.dfr, r.tsz, fun x hx => ?_⟩
  · rw [he] at h
    obtain ⟨h1, h2⟩ := get_killE kill _ _ _ h
    refine (r.slots.yes t c v (get_of_mem r.unq h1) hc).stays fun l hl => n.stays r.mem ?_
    have := List.any_eq_false.1 h2 l hl
    simpa using this
  · rw [he] at h
    exact r.slots.no t c v (get_of_mem r.unq (get_killE kill _ _ _ h).1) hc
  · rw [he]
    exact r.unq.sublist List.filter_sublist
  · rcases (n.owned r.mem h).1 with h | h
    · exact r.own b h
    · exact Or.inl (Nat.le_trans r.siz h)
  · rw [← r.frm b hb hA]
    refine n.old b (Nat.lt_of_lt_of_le hb r.siz) fun hp => ?_
    rcases r.own b (pool_owned hp) with h | h
    · omega
    · exact hA h
  · rw [hv] at hx
    obtain ⟨y, hy, rfl⟩ := List.mem_map.1 hx
    obtain ⟨h1, h2, h3⟩ := r.sav y hy
    refine ⟨fun t c v h hc => ?_, fun t c v h hc => ?_, h3.sublist List.filter_sublist⟩
    · obtain ⟨q1, q2⟩ := get_killE kill _ _ _ h
      refine (h1 t c v (get_of_mem h3 q1) hc).stays fun l hl => n.stays r.mem ?_
      have := List.any_eq_false.1 q2 l hl
      simpa using this
    · exact h2 t c v (get_of_mem h3 (get_killE kill _ _ _ h).1) hc
theorem Rel.drew (r : Rel w0 Al N σ a w g) : Rel w0 Al N σ a { w with drawn := w.drawn + 1 } g := by
  have hn : NewIn w { w with drawn := w.drawn + 1 } g g σ { σ with env := killE (fun _ => false) σ.env } [] [] [] [] (fun _ => false) := by
    refine ⟨by simp [del_nil], by simp [del_nil, killB_no], fun b _ _ => rfl, Nat.le_refl _, fun _ _ _ => ⟨rfl, rfl⟩, fun _ _ _ => rfl, ?_, ?_, ?_, ?_, ?_, ?_, ?_, ?_, ?_, ?_, ?_, ?_, ?_⟩ <;> intros <;> simp_all [get]
  have := r.turn hn ⟨rfl, (killS_no _).symm⟩ rfl rfl rfl
  rwa [killE_no] at this
theorem newBox_in (m : Mem w g σ) {k : Nat} (hk : get σ.box k = none) {cs : Array Value} {e : TypeId} {ls : List L} (hr : RepLs w g σ ls cs.toList) :
    NewIn w { w with heap := w.heap.push (.cells cs e) } g { g with bx := fun b => if b = k then w.heap.size else g.bx b } σ { σ with box := (k, ls) :: σ.box } [] [] [] [(k, ls)] (fun _ => false) := by
  have hold : ∀ b, b < w.heap.size → (w.heap.push (.cells cs e))[b]? = w.heap[b]? := fun b hb => by rw [Array.getElem?_push, if_neg (by omega)]
  refine ⟨by simp [del_nil], by simp [del_nil, killB_no], fun b hb _ => hold b hb, by simp, fun r _ _ => ⟨rfl, rfl⟩, fun b _ hb => ?_, ?_, ?_, ?_, ?_, ?_, ?_, ?_, ?_, ?_, ?_, ?_, ?_, ?_⟩
  · simp only
    rw [if_neg]
    intro e
    subst e
    rw [hk] at hb
    cases hb
  · intro k row h; simp [get] at h
  · intro k' ls' h
    simp only [get] at h
    split at h
    · rename_i e; subst e; exact Or.inr hk
    · cases h
  · intro k row h; simp [get] at h
  · intro k row h; simp [get] at h
  · intro k row h; simp [get] at h
  · intro k row b h; simp [get] at h
  · intro k' ls' h
    simp only [get] at h
    split at h
    · rename_i e; subst e; simp
    · cases h
  · intro r r' row row' b h; simp [get] at h
  · intro k ls r row _ h; simp [get] at h
  · intro k1 k2 l1 l2 h1 h2 _
    simp only [get] at h1 h2
    split at h1
    · split at h2
      · simp_all
      · cases h2
    · cases h1
  · intro k' ls' h
    simp only [get] at h
    split at h
    · rename_i e'
      simp only [Option.some.injEq] at h
      subst e'; subst h
      refine ⟨cs, e, by simp, ?_⟩
      refine hr.stays fun l hl => ⟨fun r p _ => ?_, fun b _ hb => ?_⟩
      · exact .of_same m (fun row h => h) (fun _ _ => rfl) (fun row h b _ _ hlt => hold b hlt)
      · refine ⟨?_, ?_⟩
        · simp only [get]; split
          · rfl
          · exact hb
        · simp only
          rw [if_neg]
          intro e
          subst e
          rw [hk] at hb
          cases hb
    · cases h
  · intro l _ r p _ _ h; simp at h
  · intro l _ b _ _ h; simp at h
end
end Go.Tw

namespace Go.Tw
section
variable {P : Program} {w : World}
def Holds (w : World) (z : Nat) (oa : Option Addr) (n cap : Nat) (olds : List Value) : Prop :=
  (cap = 0 ∧ n = 0 ∧ olds = []) ∨ ∃ a cs e0, oa = some a ∧ a.spot = none ∧ w.heap[a.block]? = some (.cells cs e0 (0, 0)) ∧ a.off + cap * z ≤ cs.size ∧ n ≤ cap ∧ olds = (cs.toList.drop a.off).take (n * z)
theorem setRow_cells {w : World} {g : Nat} {cs cs' : Array Value} {e : TypeId} (h : w.heap[g]? = some (.cells cs e (0, 0))) : (w.setRow g cs').heap[g]? = some (.cells cs' e (0, 0)) := setRow_heap w g cs cs' e (0, 0) h
theorem setRow_ne {w : World} {g b : Nat} {cs' : Array Value} (h : b ≠ g) : (w.setRow g cs').heap[b]? = w.heap[b]? := by
  simp only [World.setRow, Array.getElem?_modify]
  rw [if_neg (Ne.symm h)]
theorem append_run {t e ty : TypeId} (hu : (tyOf P t).u = .sl e) (hk : (tyOf P e).known = true) {z : Nat} (hz : (tyOf P e).sz = z) {oa ob : Option Addr} {n cap m c : Nat} {olds news : List Value}
    (ho : Holds w z oa n cap olds) (hl : news.length = m * z) (hn : m = 0 ∨ ∃ b, ob = some b ∧ ∀ j v, news[j]? = some v → w.cell? (b.add j) = some v) (h1 : ∀ v ∈ news, v.oneCell' = true)
    (hb : (n + m) * (tyOf P e).by_ ≤ 140737488355328) (hm : n + m ≤ 9223372036854775807) :
    ∃ r w', (Builtin.append_ #[t, t] ty #[.slice oa n cap, .slice ob m c]).run P w = .ok r w' ∧ w'.os = w.os ∧ w'.tape = w.tape ∧ w'.output = w.output ∧ w.heap.size ≤ w'.heap.size ∧
      ((m = 0 ∧ r = .slice oa n cap ∧ w' = w) ∨
       ∃ a' cap' cs' e', 0 < m ∧ r = .slice (some a') (n + m) cap' ∧ a'.spot = none ∧ w'.heap[a'.block]? = some (.cells cs' e' (0, 0)) ∧ a'.off + cap' * z ≤ cs'.size ∧ n + m ≤ cap' ∧
         (cs'.toList.drop a'.off).take ((n + m) * z) = olds ++ news ∧ (∀ b, b < w.heap.size → b ≠ a'.block → w'.heap[b]? = w.heap[b]?) ∧ a'.block < w'.heap.size ∧
         ((∃ a cs e0, oa = some a ∧ w.heap[a.block]? = some (.cells cs e0 (0, 0)) ∧ a'.block = a.block ∧ cap ≠ 0) ∨ a'.block = w.heap.size)) := by
  obtain ⟨i, zv, hi, hzv, _, hsz, hby, _, hzs⟩ := info_of_known' hk
  have hsl := u_sl hu
  rw [hsz] at hz
  rw [hby] at hb
  subst hz
  have hncap : n ≤ cap := by
    rcases ho with ⟨h1, h2, _⟩ | ⟨a, cs, e0, _, _, _, _, h, _⟩ <;> omega
  by_cases hm0 : m = 0
  · subst hm0
    have hnil : news = [] := List.eq_nil_of_length_eq_zero (by simpa using hl)
    refine ⟨.slice oa n cap, w, ?_, rfl, rfl, rfl, Nat.le_refl _, Or.inl ⟨rfl, rfl, rfl⟩⟩
    have hf : (Builtin.firstCells i.size 0 (.slice ob 0 c)).run P w = .ok #[] w := by
      cases ob with
      | none => rfl
      | some b => simp [Builtin.firstCells, loadCells, loadCellsFrom]
    cases oa with
    | none => simp [Builtin.append_, run_underlying hsl, sizeOf, typeInfo, hi, Builtin.lenOf, hncap, hf]
    | some a => simp [Builtin.append_, run_underlying hsl, sizeOf, typeInfo, hi, Builtin.lenOf, hncap, hf, storeCells]
  · obtain ⟨b, rfl, hcell⟩ := hn.resolve_left hm0
    by_cases hroom : n + m ≤ cap
    · 
      rcases ho with ⟨h1, h2, _⟩ | ⟨a, cs, e0, rfl, hsp, hcs, hsize, _, rfl⟩
      · omega
      · have hmul : (n + m) * i.size ≤ cap * i.size := Nat.mul_le_mul_right _ hroom
        have hnm : (n + m) * i.size = n * i.size + m * i.size := Nat.add_mul ..
        have hf := run_firstCells_some (P := P) w i.size m b m c news hl hcell
        have hst := run_storeCells_at P a.block (a.off + n * i.size) e0 news 0 cs w hcs (by rw [hl]; omega) h1
        simp only [Nat.add_zero] at hst
        refine ⟨.slice (some a) (n + m) cap, w.setRow a.block (cs.toList.take (a.off + n * i.size) ++ news ++ cs.toList.drop (a.off + n * i.size + news.length)).toArray, ?_, rfl, rfl, rfl, by simp [World.setRow], Or.inr ?_⟩
        · have hadd : a.add (n * i.size) = ⟨a.block, a.off + n * i.size, none⟩ := Addr.add_plain hsp _
          simp [Builtin.append_, run_underlying hsl, sizeOf, typeInfo, hi, Builtin.lenOf, hroom, hf, hadd, hst]
        · refine ⟨a, cap, _, e0, by omega, rfl, hsp, setRow_cells hcs, ?_, hroom, ?_, fun x _ hx => setRow_ne hx, ?_, Or.inl ⟨a, cs, e0, rfl, hcs, rfl, by omega⟩⟩
          · simp; omega
          · simp only []
            apply List.ext_getElem?
            intro j
            have hlen : ((cs.toList.drop a.off).take (n * i.size)).length = n * i.size := by simp; omega
            have hR : ((cs.toList.drop a.off).take (n * i.size) ++ news)[j]? = if j < n * i.size then ((cs.toList.drop a.off).take (n * i.size))[j]? else news[j - n * i.size]? := by
              rw [List.getElem?_append, hlen]
            rw [List.getElem?_take, List.getElem?_drop, hR]
            have hpg := patch_get (ls := cs.toList) (off := a.off + n * i.size) (xs := news) (by simp; omega) (a.off + j)
            rw [hpg]
            by_cases h1 : j < n * i.size
            · rw [if_pos (by omega), if_pos (by omega), if_pos h1, List.getElem?_take, if_pos h1, List.getElem?_drop]
            · rw [if_neg h1]
              by_cases h2 : j < n * i.size + m * i.size
              · rw [if_pos (by omega), if_neg (by omega), if_pos (by omega)]
                congr 1
                omega
              · rw [if_neg (by omega), List.getElem?_eq_none (by omega)]
          · simp only [World.setRow, Array.size_modify]
            exact (Array.getElem?_eq_some_iff.1 hcs).1
    · 
      have main : ∀ (olds : List Value) (r : Value) (cp : Nat), olds.length = n * i.size → n + m ≤ cp →
          ∀ w', w' = w.drew.alloc (.cells (olds.toArray ++ news.toArray ++ Builtin.zeroCells zv.cells (cp - (n + m))) e) → r = .slice (some ⟨w.heap.size, 0, none⟩) (n + m) cp → zv.cells.size = i.size →
          w'.os = w.os ∧ w'.tape = w.tape ∧ w'.output = w.output ∧ w.heap.size ≤ w'.heap.size ∧ ((m = 0 ∧ r = .slice oa n cap ∧ w' = w) ∨
            ∃ a' cap' cs' e', 0 < m ∧ r = .slice (some a') (n + m) cap' ∧ a'.spot = none ∧ w'.heap[a'.block]? = some (.cells cs' e' (0, 0)) ∧ a'.off + cap' * i.size ≤ cs'.size ∧ n + m ≤ cap' ∧
              (cs'.toList.drop a'.off).take ((n + m) * i.size) = olds ++ news ∧ (∀ b, b < w.heap.size → b ≠ a'.block → w'.heap[b]? = w.heap[b]?) ∧ a'.block < w'.heap.size ∧
              ((∃ a cs e0, oa = some a ∧ w.heap[a.block]? = some (.cells cs e0 (0, 0)) ∧ a'.block = a.block ∧ cap ≠ 0) ∨ a'.block = w.heap.size)) := by
        intro olds r cp hlo hcp w' hw' hr hzs
        subst hw' hr
        refine ⟨rfl, rfl, rfl, by simp, Or.inr ⟨⟨w.heap.size, 0, none⟩, cp, _, e, by omega, rfl, rfl, heap_alloc_new w.drew _, ?_, hcp, ?_, fun x hx _ => heap_alloc_old w.drew _ x hx, by simp, Or.inr rfl⟩⟩
        · simp only [Array.size_append, List.size_toArray, size_zeroCells, hzs, hlo, hl, Nat.zero_add]
          rw [← Nat.add_mul, ← Nat.add_mul]
          exact Nat.mul_le_mul_right _ (by omega)
        · have hlen : (olds ++ news).length = (n + m) * i.size := by rw [List.length_append, hlo, hl, Nat.add_mul]
          simp only [Array.toList_append, List.append_assoc, List.drop_zero]
          rw [← List.append_assoc, ← hlen]
          exact List.take_left
      rcases ho with ⟨hc0, hn0, rfl⟩ | ⟨a, cs, e0, rfl, hsp, hcs, hsize, _, rfl⟩
      · subst hc0 hn0
        cases oa with
        | none =>
          have hr := run_append_nil (P := P) w t ty e i zv hsl hi hzv b m c news hl hcell (by omega) (by omega) (by have hb' := hb; simp only [Nat.zero_add] at hb'; omega)
          obtain ⟨h2, h3, h4, h5, h6⟩ := main [] _ (grownCap w m 0 e) (by simp) (by simpa using grownCap_ge w m 0 e) _ (by simp; rfl) (by simp; rfl) hzs
          refine ⟨_, _, ?_, h2, h3, h4, h5, h6⟩
          simpa using hr
        | some a =>
          have hr := run_append_grow (P := P) w t ty e i zv hsl hi hzv a 0 0 [] (by simp) (by simp) b m c news hl hcell (by omega) (by omega) (growslice_fits (by omega) hb)
          obtain ⟨h2, h3, h4, h5, h6⟩ := main [] _ (grownCap w (0 + m) 0 e) (by simp) (grownCap_ge w (0 + m) 0 e) _ rfl rfl hzs
          exact ⟨_, _, hr, h2, h3, h4, h5, h6⟩
      · have hlo : ((cs.toList.drop a.off).take (n * i.size)).length = n * i.size := by
          have : n * i.size ≤ cap * i.size := Nat.mul_le_mul_right _ hncap
          simp; omega
        have hr := run_append_grow (P := P) w t ty e i zv hsl hi hzv a n cap _ hlo (fun j v hv => by
          rw [List.getElem?_take] at hv
          split at hv
          · rw [List.getElem?_drop] at hv
            rw [Addr.add_plain hsp]
            simpa [World.cell?, hcs] using hv
          · cases hv) b m c news hl hcell (by omega) (by omega) (growslice_fits (by omega) hb)
        obtain ⟨h2, h3, h4, h5, h6⟩ := main _ _ (grownCap w (n + m) cap e) hlo (grownCap_ge w (n + m) cap e) _ rfl rfl hzs
        exact ⟨_, _, hr, h2, h3, h4, h5, h6⟩
end
end Go.Tw

namespace Go.Tw
def upd {α : Type} (f : Nat → α) (k : Nat) (x : α) : Nat → α := fun n => if n = k then x else f n
theorem upd_self {α : Type} (f : Nat → α) (k : Nat) (x : α) : upd f k x k = x := by simp [upd]
theorem upd_ne {α : Type} (f : Nat → α) {k n : Nat} (x : α) (h : n ≠ k) : upd f k x n = f n := by simp [upd, h]
def hits (rs : List Nat) (l : L) : Bool := match l.rowOf with
  | some (r, _) => rs.contains r
  | none => false
def St.swap (σ : St) (kill : L → Bool) (rs : List Nat) (k : Nat) (row : Row) : St :=
  { σ with env := killE kill σ.env, sav := killS kill σ.sav, box := killB kill σ.box, row := (k, row) :: del rs σ.row }
def Gh.row (g : Gh) (k : Nat) (hv : Value) (F : Blks) : Gh := { g with rw := upd g.rw k hv, fp := upd g.fp k F }
section
variable {w w' : World} {g : Gh} {σ : St}
theorem get_one {α : Type} {k n : Nat} {x y : α} (h : get [(k, x)] n = some y) : n = k ∧ x = y := by
  simp only [get] at h
  split at h
  · rename_i e; simp only [Option.some.injEq] at h; exact ⟨e, h⟩
  · cases h
theorem swap_in (m : Mem w g σ) {kill : L → Bool} {rs : List Nat} {k : Nat} {row : Row} {hv : Value} {F N : Blks} (hk : k ∈ rs ∨ get σ.row k = none) (hro : row.pm ≠ .ro)
    (hown : row.pm = .own → Rep w' true hv row.t F) (htop : row.pm = .top → RepTop w' hv row.z row.es F N) (hN : ∀ b, N b → b < w.heap.size ∧ (¬ Owned g σ b ∨ RowsFp g σ rs b) ∧ ¬ F b)
    (hF : ∀ b, F b → (RowsFp g σ rs b ∨ w.heap.size ≤ b) ∧ b < w'.heap.size) (hold : ∀ b, b < w.heap.size → ¬ RowsFp g σ rs b → w'.heap[b]? = w.heap[b]?) (hsz : w.heap.size ≤ w'.heap.size)
    (hkeep : ∀ l, kill l = false → ∀ r p, l.rowOf = some (r, p) → (get σ.row r).isSome → r ∈ rs → Stays w w' g (g.row k hv F) σ (σ.swap kill rs k row) r p) :
    NewIn w w' g (g.row k hv F) σ (σ.swap kill rs k row) rs [] [(k, row)] [] kill := by
  have pool : ∀ b, Pool g σ rs [] b ↔ RowsFp g σ rs b := fun b => by simp [Pool, RowsFp]
  have rne : ∀ r, r ∉ rs → (get σ.row r).isSome → r ≠ k := by
    rintro r h1 h2 rfl
    rcases hk with h | h
    · exact h1 h
    · rw [h] at h2; cases h2
  have own' : ∀ b, Owned (g.row k hv F) (σ.swap kill rs k row) b → (Owned g σ b ∧ ¬ RowsFp g σ rs b) ∨ F b := by
    rintro b (⟨k', ls, h1, h2⟩ | ⟨r, row', h1, h2, h3⟩)
    · simp only [St.swap, get_killB, Option.map_eq_some_iff] at h1
      obtain ⟨ls0, h1, _⟩ := h1
      refine Or.inl ⟨Or.inl ⟨k', ls0, h1, h2⟩, fun ⟨r, row, _, h4, h5, h6⟩ => ?_⟩
      subst h2
      exact m.br k' ls0 r row h1 h4 h5 h6
    · simp only [St.swap, get] at h1
      split at h1
      · rename_i e
        subst e
        right
        simpa [Gh.row, upd_self] using h3
      · rename_i e
        rw [get_del] at h1
        split at h1
        · cases h1
        · rename_i hr
          simp only [Gh.row, upd_ne _ _ e] at h3
          exact Or.inl ⟨Or.inr ⟨r, row', h1, h2, h3⟩, fun ⟨r2, row2, h4, h5, h6, h7⟩ => hr (m.rr r r2 row' row2 b h1 h5 h2 h6 h3 h7 ▸ h4)⟩
  refine ⟨rfl, by simp [St.swap, del_nil], fun b hb hp => hold b hb fun h => hp ((pool b).2 h), hsz, fun r hr hs => ?_, fun _ _ _ => rfl, ?_, ?_, ?_, ?_, ?_, ?_, ?_, ?_, ?_, ?_, ?_, hkeep, ?_⟩
  · have := rne r hr hs
    exact ⟨by simp [Gh.row, upd_ne _ _ this], by simp [Gh.row, upd_ne _ _ this]⟩
  · intro k' row' h
    obtain ⟨rfl, _⟩ := get_one h
    exact hk
  · intro k' ls h; simp [get] at h
  · intro k' row' h hp
    obtain ⟨rfl, rfl⟩ := get_one h
    simpa [Gh.row, upd_self] using hown hp
  · intro k' row' h hp
    obtain ⟨rfl, rfl⟩ := get_one h
    have := htop hp
    simp only [Gh.row, upd_self]
    rcases this with h | ⟨a, cap, cs, h1, h2, h3, h4⟩
    · exact Or.inl h
    · refine Or.inr ⟨a, cap, cs, h1, h2, h3, fun i j x c hx hc => (h4 i j x c hx hc).mono fun b hb ho => ?_⟩
      obtain ⟨_, h6, h7⟩ := hN b hb
      exact (own' b ho).elim (fun ⟨h8, h9⟩ => h6.elim (fun h => h h8) h9) h7
  · intro k' row' h hp
    obtain ⟨rfl, rfl⟩ := get_one h
    exact absurd hp hro
  · intro k' row' b h hp hb
    obtain ⟨rfl, rfl⟩ := get_one h
    simp only [Gh.row, upd_self] at hb
    exact ⟨(hF b hb).1.imp (pool b).2 id, (hF b hb).2⟩
  · intro k' ls h; simp [get] at h
  · intro r r' row1 row2 b h h' _ _ _ _
    exact (get_one h).1.trans (get_one h').1.symm
  · intro k' ls r row' h; simp [get] at h
  · intro k1 k2 l1 l2 h; simp [get] at h
  · intro k' ls h; simp [get] at h
  · intro l _ b _ _ h; simp at h
def frz (rs : List Nat) (rows : List (Nat × Row)) : List (Nat × Row) := (rows.filter fun x => rs.contains x.1).map fun x => (x.1, { x.2 with pm := .ro })
def St.freeze (σ : St) (rs : List Nat) : St := { σ with row := frz rs σ.row ++ del rs σ.row }
theorem get_frz (rs : List Nat) (rows : List (Nat × Row)) (n : Nat) : get (frz rs rows) n = if n ∈ rs then (get rows n).map fun x => { x with pm := .ro } else none := by
  induction rows with
  | nil => simp [frz, get]
  | cons x xs ih =>
    obtain ⟨k, x⟩ := x
    unfold frz at ih ⊢
    simp only [List.filter_cons]
    by_cases hk : k ∈ rs
    · have : rs.contains k = true := by simpa using hk
      simp only [this, if_true, List.map_cons, get, ih]
      by_cases hn : n = k
      · subst hn; simp [hk]
      · simp [hn]
    · have : rs.contains k = false := by simpa using hk
      simp only [this, Bool.false_eq_true, if_false, ih, get]
      by_cases hn : n ∈ rs
      · have : n ≠ k := fun e => hk (e ▸ hn)
        simp [hn, this]
      · simp [hn]
theorem Mem.lentRow (m : Mem w g σ) {r : Nat} {row : Row} (h : get σ.row r = some row) : Rep w false (g.rw r) row.t fun b => RowsFp g σ [r] b ∨ ¬ Owned g σ b := by
  cases hp : row.pm with
  | own => exact (m.own r row h hp).lent.mono fun b hb => Or.inl ⟨r, row, by simp, h, by simp [hp], hb⟩
  | ro => exact (m.ro r row h hp).mono fun b hb => Or.inr hb
  | top =>
    rcases m.top r row h hp with ⟨e, oa, hv⟩ | ⟨a, cap, cs, hv, hl, hF, hc⟩
    · rw [hv, Row.t, e]
      cases oa with
      | none => exact .nils
      | some a => exact .bare
    · rw [hv]
      exact .sl (fun _ _ b => RowsFp g σ [r] b ∨ ¬ Owned g σ b) ⟨let ⟨e, fr, h, _⟩ := hl.blk; ⟨e, fr, h, fun h => by cases h⟩, hl.spot, hl.len, hl.room, hl.each⟩ (Or.inl ⟨r, row, by simp, h, by simp [hp], hF⟩)
        (fun _ _ _ h => h) (fun h => by cases h) (fun h => by cases h) (fun i j x c hx hcc => (hc i j x c hx hcc).mono fun b hb => Or.inr hb)
theorem freeze_in (m : Mem w g σ) (rs : List Nat) : NewIn w w g g σ (σ.freeze rs) rs [] (frz rs σ.row) [] (fun _ => false) := by
  have ownS : ∀ b, Owned g (σ.freeze rs) b → Owned g σ b ∧ ¬ RowsFp g σ rs b := by
    rintro b (⟨k', ls, h1, h2⟩ | ⟨r, row', h1, h2, h3⟩)
    · exact ⟨Or.inl ⟨k', ls, h1, h2⟩, fun ⟨r, row, _, h4, h5, h6⟩ => by subst h2; exact m.br k' ls r row h1 h4 h5 h6⟩
    · simp only [St.freeze, get_append, get_frz, get_del] at h1
      by_cases hr : r ∈ rs
      · simp only [hr, if_true] at h1
        cases hg : get σ.row r with
        | none => simp [hg] at h1
        | some row0 =>
          simp only [hg, Option.map_some, Option.some.injEq] at h1
          subst h1
          exact absurd rfl h2
      · simp only [hr, if_false] at h1
        exact ⟨Or.inr ⟨r, row', h1, h2, h3⟩, fun ⟨r2, row2, h4, h5, h6, h7⟩ => hr (m.rr r r2 row' row2 b h1 h5 h2 h6 h3 h7 ▸ h4)⟩
  have fro : ∀ k row, get (frz rs σ.row) k = some row → k ∈ rs ∧ ∃ row0, get σ.row k = some row0 ∧ row = { row0 with pm := .ro } := by
    intro k row h
    rw [get_frz] at h
    split at h
    · rename_i hk
      simp only [Option.map_eq_some_iff] at h
      obtain ⟨row0, h1, h2⟩ := h
      exact ⟨hk, row0, h1, h2.symm⟩
    · cases h
  refine ⟨rfl, by simp [St.freeze, del_nil, killB_no], fun b hb hp => rfl, Nat.le_refl _, fun r hr hs => ⟨rfl, rfl⟩, fun _ _ _ => rfl, ?_, ?_, ?_, ?_, ?_, ?_, ?_, ?_, ?_, ?_, ?_, ?_, ?_⟩
  · intro k row h; exact Or.inl (fro k row h).1
  · intro k ls h; simp [get] at h
  · intro k row h hp; obtain ⟨_, row0, _, rfl⟩ := fro k row h; cases hp
  · intro k row h hp; obtain ⟨_, row0, _, rfl⟩ := fro k row h; cases hp
  · intro k row h hp
    obtain ⟨hk, row0, h0, rfl⟩ := fro k row h
    refine (m.lentRow h0).mono fun b hb ho => ?_
    obtain ⟨h1, h2⟩ := ownS b ho
    rcases hb with ⟨r, row, hr, h3, h4, h5⟩ | hb
    · simp only [List.mem_singleton] at hr
      subst hr
      exact h2 ⟨r, row, hk, h3, h4, h5⟩
    · exact hb h1
  · intro k row b h hp; obtain ⟨_, row0, _, rfl⟩ := fro k row h; exact absurd rfl hp
  · intro k ls h; simp [get] at h
  · intro r r' row row' b h _ hp; obtain ⟨_, row0, _, rfl⟩ := fro r row h; exact absurd rfl hp
  · intro k ls r row h; simp [get] at h
  · intro k k' l l' h; simp [get] at h
  · intro k ls h; simp [get] at h
  · intro l _ r p _ _ hr row h
    refine ⟨{ row with pm := .ro }, ?_, rfl, fun z es u h1 h2 => ⟨es, h1, rfl, h2⟩⟩
    simp [St.freeze, get_append, get_frz, hr, h]
  · intro l _ b _ _ h; simp at h
end
end Go.Tw

namespace Go.Tw
structure CellsRep (w : World) (o : Bool) (z : Nat) (es : Els) (vals : List Value) (f : Nat → Nat → Blks) : Prop where
  len : vals.length = es.length * z
  each : ∀ x ∈ es, x.length = z
  rep : ∀ i j x c, es[i]? = some x → x[j]? = some c → ∃ v, vals[i * z + j]? = some v ∧ Rep w o v c (f i j)
theorem cell_lt {z i j n : Nat} (hi : i < n) (hj : j < z) : i * z + j < n * z := by
  have h1 : i * z + j < (i + 1) * z := by rw [Nat.add_mul, Nat.one_mul]; omega
  exact Nat.lt_of_lt_of_le h1 (Nat.mul_le_mul_right z (by omega))
theorem CellsRep.append {w : World} {o : Bool} {z : Nat} {es es' : Els} {vals vals' : List Value} {f f' : Nat → Nat → Blks} (h : CellsRep w o z es vals f) (h' : CellsRep w o z es' vals' f') :
    CellsRep w o z (es ++ es') (vals ++ vals') fun i j => if i < es.length then f i j else f' (i - es.length) j := by
  refine ⟨by simp [h.len, h'.len, Nat.add_mul], fun x hx => (List.mem_append.1 hx).elim (h.each x) (h'.each x), fun i j x c hx hc => ?_⟩
  rw [List.getElem?_append] at hx
  split at hx
  · rename_i hi
    obtain ⟨v, hv, hr⟩ := h.rep i j x c hx hc
    refine ⟨v, ?_, by simpa [hi] using hr⟩
    have : i * z + j < vals.length := (List.getElem?_eq_some_iff.1 hv).1
    rw [List.getElem?_append_left this]
    exact hv
  · rename_i hi
    obtain ⟨v, hv, hr⟩ := h'.rep (i - es.length) j x c hx hc
    refine ⟨v, ?_, by simpa [hi] using hr⟩
    have e : i * z + j = vals.length + ((i - es.length) * z + j) := by
      rw [h.len]
      have : i = es.length + (i - es.length) := by omega
      rw [this, Nat.add_mul]
      have : es.length + (i - es.length) - es.length = i - es.length := by omega
      rw [this]
      omega
    rw [e, List.getElem?_append_right (by omega), Nat.add_sub_cancel_left]
    exact hv
theorem CellsRep.mono {w w' : World} {o o' : Bool} {z : Nat} {es : Els} {vals : List Value} {f f' : Nat → Nat → Blks} (h : CellsRep w o z es vals f)
    (hf : ∀ i j v c, Rep w o v c (f i j) → Rep w' o' v c (f' i j)) : CellsRep w' o' z es vals f' :=
  ⟨h.len, h.each, fun i j x c hx hc => let ⟨v, hv, hr⟩ := h.rep i j x c hx hc; ⟨v, hv, hf i j v c hr⟩⟩
theorem CellsRep.part {w : World} {o : Bool} {z : Nat} {es : Els} {vals : List Value} {f : Nat → Nat → Blks} (h : CellsRep w o z es vals f) (off n : Nat) (hn : off + n ≤ es.length) :
    CellsRep w o z ((es.drop off).take n) ((vals.drop (off * z)).take (n * z)) fun i j => f (i + off) j := by
  have hl := h.len
  have h1 : (off + n) * z ≤ es.length * z := Nat.mul_le_mul_right z hn
  rw [Nat.add_mul] at h1
  refine ⟨by simp; rw [Nat.min_eq_left (by omega), Nat.min_eq_left (by omega)], fun x hx => h.each x (List.mem_of_mem_drop (List.mem_of_mem_take hx)), fun i j x c hx hc => ?_⟩
  rw [List.getElem?_take] at hx
  split at hx
  · rename_i hi
    rw [List.getElem?_drop] at hx
    have hz : x.length = z := h.each x (List.mem_of_getElem? hx)
    have hj : j < z := hz ▸ (List.getElem?_eq_some_iff.1 hc).1
    obtain ⟨v, hv, hr⟩ := h.rep (off + i) j x c hx hc
    refine ⟨v, ?_, by rw [Nat.add_comm i off]; exact hr⟩
    rw [List.getElem?_take, if_pos (cell_lt hi hj), List.getElem?_drop, ← hv]
    congr 1
    rw [Nat.add_mul]
    omega
  · cases hx
section
variable {w : World} {o : Bool} {z : Nat} {es : Els} {F : Blks}
theorem Rep.open {oa : Option Addr} {n cap : Nat} (h : Rep w o (.slice oa n cap) (.sl z es) F) :
    n = es.length ∧ n ≤ cap ∧ ∃ vals f, CellsRep w o z es vals f ∧ (∀ i j b, f i j b → F b) ∧ (o = true → ∀ i j i' j' b, f i j b → f i' j' b → i = i' ∧ j = j') ∧
      (o = true → ∀ a, oa = some a → cap ≠ 0 → F a.block ∧ ∀ i j, ¬ f i j a.block) ∧ (o = true → Holds w z oa n cap vals) ∧
      (n = 0 ∨ ∃ a, oa = some a ∧ ∀ j v, vals[j]? = some v → w.cell? (a.add j) = some v) := by
  cases h with
  | nils => exact ⟨rfl, Nat.le_refl _, [], fun _ _ _ => False, ⟨by simp, by simp, by simp⟩, fun _ _ _ h => h.elim, fun _ _ _ _ _ _ h => h.elim, fun _ a h => (by cases h), fun _ => Or.inl ⟨rfl, rfl, rfl⟩, Or.inl rfl⟩
  | bare => exact ⟨rfl, Nat.le_refl _, [], fun _ _ _ => False, ⟨by simp, by simp, by simp⟩, fun _ _ _ h => h.elim, fun _ _ _ _ _ _ h => h.elim, fun _ a _ h => absurd rfl h, fun _ => Or.inl ⟨rfl, rfl, rfl⟩, Or.inl rfl⟩
  | @sl a _ _ _ _ cs f hl hF hsub hd hdd hr =>
    have hroom := hl.room
    have hmul : es.length * z ≤ cap * z := Nat.mul_le_mul_right z hl.len
    have hcell : ∀ j v, ((cs.toList.drop a.off).take (es.length * z))[j]? = some v → w.cell? (a.add j) = some v := by
      intro j v hv
      rw [List.getElem?_take] at hv
      split at hv
      · rw [List.getElem?_drop] at hv
        obtain ⟨e, fr, hb, _⟩ := hl.blk
        rw [Addr.add_plain hl.spot]
        simpa [World.cell?, hb] using hv
      · cases hv
    refine ⟨rfl, hl.len, (cs.toList.drop a.off).take (es.length * z), f, ⟨by simp; omega, hl.each, fun i j x c hx hc => ?_⟩, hsub, hdd, fun ho a' ha hc => ?_, fun ho => Or.inr ⟨a, cs, ?_⟩, Or.inr ⟨a, rfl, hcell⟩⟩
    · obtain ⟨hi, hj, hlt⟩ := hl.idx hx hc
      refine ⟨_, ?_, hr i j x c hx hc⟩
      rw [List.getElem?_take, if_pos (cell_lt hi hj), List.getElem?_drop, Array.getD_eq_getD_getElem?, ← Nat.add_assoc, Array.getElem?_toList, Array.getElem?_eq_getElem (by omega)]
      rfl
    · cases ha
      exact ⟨hF, hd ho⟩
    · obtain ⟨e, fr, hb, hfr⟩ := hl.blk
      refine ⟨e, rfl, hl.spot, ?_, hl.room, hl.len, rfl⟩
      rw [hb, hfr ho]
theorem CellsRep.close {a : Addr} {cap : Nat} {cs : Array Value} {e : TypeId} {vals : List Value} {f : Nat → Nat → Blks} (h : CellsRep w o z es vals f) (hsp : a.spot = none) (hb : w.heap[a.block]? = some (.cells cs e (0, 0)))
    (hroom : a.off + cap * z ≤ cs.size) (hcap : es.length ≤ cap) (hv : (cs.toList.drop a.off).take (es.length * z) = vals) (hF : F a.block) (hsub : ∀ i j b, f i j b → F b) (hd : o = true → ∀ i j, ¬ f i j a.block)
    (hdd : o = true → ∀ i j i' j' b, f i j b → f i' j' b → i = i' ∧ j = j') : Rep w o (.slice (some a) es.length cap) (.sl z es) F := by
  refine .sl f (cs := cs) ⟨⟨e, (0, 0), hb, fun _ => rfl⟩, hsp, hcap, hroom, h.each⟩ hF hsub hd hdd fun i j x c hx hc => ?_
  obtain ⟨v, hv', hr⟩ := h.rep i j x c hx hc
  have hz : x.length = z := h.each x (List.mem_of_getElem? hx)
  have hj : j < z := hz ▸ (List.getElem?_eq_some_iff.1 hc).1
  have hi : i < es.length := (List.getElem?_eq_some_iff.1 hx).1
  rw [← hv, List.getElem?_take, if_pos (cell_lt hi hj), List.getElem?_drop] at hv'
  rw [Array.getD_eq_getD_getElem?, Nat.add_assoc, ← Array.getElem?_toList, hv']
  exact hr
theorem CellsRep.closeTop {a : Addr} {cap : Nat} {cs : Array Value} {e : TypeId} {vals : List Value} {N : Blks} (h : CellsRep w false z es vals fun _ _ => N) (hsp : a.spot = none) (hb : w.heap[a.block]? = some (.cells cs e (0, 0)))
    (hroom : a.off + cap * z ≤ cs.size) (hcap : es.length ≤ cap) (hv : (cs.toList.drop a.off).take (es.length * z) = vals) (hF : F a.block) : RepTop w (.slice (some a) es.length cap) z es F N := by
  refine Or.inr ⟨a, cap, cs, rfl, ⟨⟨e, (0, 0), hb, fun _ => rfl⟩, hsp, hcap, hroom, h.each⟩, hF, fun i j x c hx hc => ?_⟩
  obtain ⟨v, hv', hr⟩ := h.rep i j x c hx hc
  have hz : x.length = z := h.each x (List.mem_of_getElem? hx)
  have hj : j < z := hz ▸ (List.getElem?_eq_some_iff.1 hc).1
  have hi : i < es.length := (List.getElem?_eq_some_iff.1 hx).1
  rw [← hv, List.getElem?_take, if_pos (cell_lt hi hj), List.getElem?_drop] at hv'
  rw [Array.getD_eq_getD_getElem?, Nat.add_assoc, ← Array.getElem?_toList, hv']
  exact hr
theorem RepTop.open {oa : Option Addr} {n cap : Nat} {N : Blks} (h : RepTop w (.slice oa n cap) z es F N) :
    n = es.length ∧ n ≤ cap ∧ ∃ vals, CellsRep w false z es vals (fun _ _ => N) ∧ (∀ a, oa = some a → cap ≠ 0 → F a.block) ∧ Holds w z oa n cap vals ∧
      (n = 0 ∨ ∃ a, oa = some a ∧ ∀ j v, vals[j]? = some v → w.cell? (a.add j) = some v) := by
  rcases h with ⟨rfl, oa', e⟩ | ⟨a, cap', cs, e, hl, hF, hc⟩
  · injection e with e1 e2 e3
    subst e1 e2 e3
    exact ⟨rfl, Nat.le_refl _, [], ⟨by simp, by simp, by simp⟩, fun _ _ h => absurd rfl h, Or.inl ⟨rfl, rfl, rfl⟩, Or.inl rfl⟩
  · injection e with e1 e2 e3
    subst e1 e2 e3
    have hroom := hl.room
    have hmul : es.length * z ≤ cap * z := Nat.mul_le_mul_right z hl.len
    have hcell : ∀ j v, ((cs.toList.drop a.off).take (es.length * z))[j]? = some v → w.cell? (a.add j) = some v := by
      intro j v hv
      rw [List.getElem?_take] at hv
      split at hv
      · rw [List.getElem?_drop] at hv
        obtain ⟨e, fr, hb, _⟩ := hl.blk
        rw [Addr.add_plain hl.spot]
        simpa [World.cell?, hb] using hv
      · cases hv
    refine ⟨rfl, hl.len, (cs.toList.drop a.off).take (es.length * z), ⟨by simp; omega, hl.each, fun i j x c hx hc' => ?_⟩, fun a' ha _ => (by cases ha; exact hF), Or.inr ⟨a, cs, ?_⟩, Or.inr ⟨a, rfl, hcell⟩⟩
    · obtain ⟨hi, hj, hlt⟩ := hl.idx hx hc'
      refine ⟨_, ?_, hc i j x c hx hc'⟩
      rw [List.getElem?_take, if_pos (cell_lt hi hj), List.getElem?_drop, Array.getD_eq_getD_getElem?, ← Nat.add_assoc, Array.getElem?_toList, Array.getElem?_eq_getElem (by omega)]
      rfl
    · obtain ⟨e, fr, hb, hfr⟩ := hl.blk
      refine ⟨e, rfl, hl.spot, ?_, hl.room, hl.len, rfl⟩
      rw [hb, hfr rfl]
end
end Go.Tw

namespace Go.Tw
def appT (σ : St) (z : Nat) : V → Option (Prop × List Nat × Pm × Els)
  | .l .nil => some (True, [], .own, [])
  | .l (.ref r [] z' off len) => match get σ.row r with
    | some row => match row.pm with
      | .own => some (z' = z ∧ off + len = row.es.length, [r], .own, row.es.drop off)
      | .top => some (z' = z ∧ off = 0 ∧ len = row.es.length, [r], .top, row.es)
      | .ro => none
    | none => none
  | _ => none
def appS (σ : St) (z : Nat) : V → Option (Prop × Option (Nat × Path) × Els)
  | .l .nil => some (True, none, [])
  | .l (.ref r p z' off len) => match nodeOf σ r p with
    | some (_, es) => some (z' = z, some (r, p), (es.drop off).take len)
    | none => none
  | _ => none
def T.flat : T → Bool
  | .sl .. => false
  | _ => true
def Flat (es : Els) : Prop := ∀ x ∈ es, ∀ c ∈ x, c.flat = true
theorem Rep.flat {w : World} {o o' : Bool} {v : Value} {c : T} {F G : Blks} (h : Rep w o v c F) (hf : c.flat = true) : Rep w o' v c G := by
  cases h with
  | int => exact .int
  | bool => exact .bool
  | str => exact .str
  | hole h => exact .hole h
  | nils => cases hf
  | bare => cases hf
  | sl => cases hf
section
variable {w : World} {g : Gh} {σ : St}
structure TgtOk (w : World) (g : Gh) (σ : St) (z : Nat) (rs : List Nat) (pm : Pm) (es : Els) (oa : Option Addr) (n cap : Nat) (olds : List Value) : Prop where
  len : n = es.length
  cap_ : n ≤ cap
  holds : Holds w z oa n cap olds
  blk : ∀ a, oa = some a → cap ≠ 0 → RowsFp g σ rs a.block
  live : ∀ r ∈ rs, (get σ.row r).isSome
  own : pm = .own → ∃ f, CellsRep w true z es olds f ∧ (∀ i j b, f i j b → RowsFp g σ rs b) ∧ (∀ i j i' j' b, f i j b → f i' j' b → i = i' ∧ j = j') ∧ ∀ a, oa = some a → cap ≠ 0 → ∀ i j, ¬ f i j a.block
  top : pm = .top → CellsRep w false z es olds fun _ _ b => ¬ Owned g σ b
theorem appT_ok (m : Mem w g σ) {z : Nat} {x : V} {v : Value} {c : Prop} {rs : List Nat} {pm : Pm} {es : Els} (h : appT σ z x = some (c, rs, pm, es)) (hc : c) (hv : RepV w g σ x v) :
    pm ≠ .ro ∧ ∃ oa n cap olds, v = .slice oa n cap ∧ TgtOk w g σ z rs pm es oa n cap olds := by
  unfold appT at h
  split at h
  · simp only [Option.some.injEq, Prod.mk.injEq] at h
    obtain ⟨rfl, rfl, rfl, rfl⟩ := h
    obtain ⟨oa, rfl⟩ := hv
    refine ⟨by simp, oa, 0, 0, [], rfl, rfl, Nat.le_refl _, Or.inl ⟨rfl, rfl, rfl⟩, fun _ _ h => absurd rfl h, by simp, fun _ => ⟨fun _ _ _ => False, ⟨by simp, by simp, by simp⟩, fun _ _ _ h => h.elim, fun _ _ _ _ _ h => h.elim, fun _ _ _ _ _ h => h⟩, fun h => by cases h⟩
  · rename_i r z' off len
    split at h
    · rename_i row hrow
      obtain ⟨row', es', u, h1, h2, h3, h4, h5⟩ := hv
      rw [hrow] at h1
      cases h1
      simp only [T.at?, Option.some.injEq, T.sl.injEq, valAt] at h2 h3
      obtain ⟨hz, rfl⟩ := h2
      subst h3
      split at h
      · rename_i hpm
        simp only [Option.some.injEq, Prod.mk.injEq] at h
        obtain ⟨rfl, rfl, rfl, rfl⟩ := h
        obtain ⟨rfl, hl⟩ := hc
        have hrep := m.own r row hrow hpm
        rw [Row.t, hz] at hrep
        have hvw := hrep.view h5 h4
        have e : (row.es.drop off).take len = row.es.drop off := List.take_of_length_le (by simp; omega)
        rw [e] at hvw
        obtain ⟨oa, n, cap, oa', _, rfl, _⟩ := h5
        obtain ⟨g1, g2, vals, f, g3, g4, g5, g6, g7, g8⟩ := hvw.open
        have fps : ∀ b, g.fp r b → RowsFp g σ [r] b := fun b hb => ⟨r, row, by simp, hrow, by simp [hpm], hb⟩
        exact ⟨by simp, oa', len, cap - off, vals, rfl, g1, g2, g7 rfl, fun a ha hc => fps _ (g6 rfl a ha hc).1, by simp [hrow], fun _ => ⟨f, g3, fun i j b hb => fps b (g4 i j b hb), g5 rfl, fun a ha hc => (g6 rfl a ha hc).2⟩, fun h => by cases h⟩
      · rename_i hpm
        simp only [Option.some.injEq, Prod.mk.injEq] at h
        obtain ⟨rfl, rfl, rfl, rfl⟩ := h
        obtain ⟨rfl, rfl, rfl⟩ := hc
        have hrep := m.top r row hrow hpm
        rw [hz] at hrep
        obtain ⟨oa, n, cap, oa', hu, rfl, hoa⟩ := h5
        rw [hu] at hrep
        obtain ⟨g1, g2, vals, g3, g4, g5, g6⟩ := hrep.open
        have fps : ∀ b, g.fp r b → RowsFp g σ [r] b := fun b hb => ⟨r, row, by simp, hrow, by simp [hpm], hb⟩
        by_cases hcap : cap = 0
        · subst hcap
          have hn0 : row.es.length = 0 := by omega
          refine ⟨by simp, oa', row.es.length, 0 - 0, vals, rfl, rfl, by omega, Or.inl ⟨rfl, hn0, ?_⟩, fun _ _ h => absurd rfl h, by simp [hrow], fun h => (by cases h), fun _ => g3⟩
          exact List.eq_nil_of_length_eq_zero (by rw [g3.len, hn0]; simp)
        · have hoa' : oa' = oa := by
            rcases hoa with h | h
            · exact absurd h hcap
            · rw [h]; cases oa <;> simp [Addr.add]
          subst hoa'
          rw [g1] at g2 g5
          exact ⟨by simp, oa', row.es.length, cap - 0, vals, rfl, rfl, g2, g5, fun a ha hc => fps _ (g4 a ha hc), by simp [hrow], fun h => (by cases h), fun _ => g3⟩
      · cases h
    · cases h
  · cases h
structure SrcOk (w : World) (z : Nat) (els : Els) (ob : Option Addr) (m : Nat) (news : List Value) : Prop where
  len : m = els.length
  cells : CellsRep w false z els news fun _ _ _ => True
  there : m = 0 ∨ ∃ b, ob = some b ∧ ∀ j v, news[j]? = some v → w.cell? (b.add j) = some v
  one : ∀ v ∈ news, v.oneCell' = true
theorem CellsRep.one {o : Bool} {z : Nat} {es : Els} {vals : List Value} {f : Nat → Nat → Blks} (h : CellsRep w o z es vals f) : ∀ v ∈ vals, v.oneCell' = true := by
  intro v hv
  obtain ⟨k, hk⟩ := List.getElem?_of_mem hv
  have hlt : k < es.length * z := by rw [← h.len]; exact (List.getElem?_eq_some_iff.1 hk).1
  have hz : 0 < z := by
    rcases Nat.eq_zero_or_pos z with rfl | h
    · simp at hlt
    · exact h
  have hi : k / z < es.length := Nat.div_lt_of_lt_mul (by rwa [Nat.mul_comm])
  obtain ⟨x, hx⟩ : ∃ x, es[k / z]? = some x := ⟨_, List.getElem?_eq_getElem hi⟩
  have hj : k % z < x.length := by rw [h.each x (List.mem_of_getElem? hx)]; exact Nat.mod_lt _ hz
  obtain ⟨c, hc⟩ : ∃ c, x[k % z]? = some c := ⟨_, List.getElem?_eq_getElem hj⟩
  obtain ⟨u, hu, hr⟩ := h.rep _ _ x c hx hc
  have : k / z * z + k % z = k := by rw [Nat.mul_comm]; exact Nat.div_add_mod k z
  rw [this, hk] at hu
  cases hu
  exact hr.one
theorem appS_ok (m : Mem w g σ) {z : Nat} {x : V} {v : Value} {c : Prop} {who : Option (Nat × Path)} {els : Els} (h : appS σ z x = some (c, who, els)) (hc : c) (hv : RepV w g σ x v) :
    ∃ ob k cap news, v = .slice ob k cap ∧ SrcOk w z els ob k news ∧
      ∀ r row, who = some (r, []) → get σ.row r = some row → row.pm = .own → ∃ f, CellsRep w true z els news f ∧ (∀ i j b, f i j b → RowsFp g σ [r] b) ∧ (∀ i j i' j' b, f i j b → f i' j' b → i = i' ∧ j = j') := by
  unfold appS at h
  split at h
  · simp only [Option.some.injEq, Prod.mk.injEq] at h
    obtain ⟨rfl, rfl, rfl⟩ := h
    obtain ⟨oa, rfl⟩ := hv
    exact ⟨oa, 0, 0, [], rfl, ⟨rfl, ⟨by simp, by simp, by simp⟩, Or.inl rfl, by simp⟩, fun r row h => by cases h⟩
  · rename_i r p z' off len
    split at h
    · rename_i zz es hn
      simp only [Option.some.injEq, Prod.mk.injEq] at h
      obtain ⟨rfl, rfl, rfl⟩ := h
      subst hc
      obtain ⟨row', es', u, h1, h2, h3, h4, h5⟩ := hv
      have hn' : nodeOf σ r p = some (z', es') := by simp [nodeOf, h1, h2]
      rw [hn] at hn'
      simp only [Option.some.injEq, Prod.mk.injEq] at hn'
      obtain ⟨rfl, rfl⟩ := hn'
      obtain ⟨u', hu', hru⟩ := m.at h1 h2
      rw [h3] at hu'
      cases hu'
      have hvw := hru.view h5 h4
      obtain ⟨oa, n, cap, oa', hu, rfl, hoa⟩ := id h5
      obtain ⟨g1, g2, vals, f, g3, g4, g5, g6, g7, g8⟩ := hvw.open
      refine ⟨oa', len, cap - off, vals, rfl, ⟨g1, g3.mono fun _ _ _ _ h => h.mono fun _ _ => trivial, g8, g3.one⟩, fun r2 row2 hw hrow hpm => ?_⟩
      simp only [Option.some.injEq, Prod.mk.injEq] at hw
      obtain ⟨rfl, rfl⟩ := hw
      rw [h1] at hrow
      cases hrow
      simp only [T.at?, Option.some.injEq, T.sl.injEq, valAt] at h2 h3
      obtain ⟨hz, rfl⟩ := h2
      subst h3
      have hrep := m.own r row' h1 hpm
      rw [Row.t, hz] at hrep
      have hvw2 := hrep.view h5 h4
      obtain ⟨q1, q2, vals2, f2, q3, q4, q5, q6, q7, q8⟩ := hvw2.open
      have hsame : vals2 = vals := by
        rcases g8 with h0 | ⟨a, ha, hcell⟩
        · rw [List.eq_nil_of_length_eq_zero (l := vals) (by rw [g3.len, ← g1, h0]; simp), List.eq_nil_of_length_eq_zero (l := vals2) (by rw [q3.len, ← q1, h0]; simp)]
        · rcases q8 with h0 | ⟨a2, ha2, hcell2⟩
          · rw [List.eq_nil_of_length_eq_zero (l := vals) (by rw [g3.len, ← g1, h0]; simp), List.eq_nil_of_length_eq_zero (l := vals2) (by rw [q3.len, ← q1, h0]; simp)]
          · rw [ha] at ha2
            cases ha2
            apply List.ext_getElem?
            intro j
            by_cases hj : j < vals.length
            · have hj2 : j < vals2.length := by rw [q3.len, ← g3.len]; exact hj
              have e1 := hcell j _ (List.getElem?_eq_getElem hj)
              have e2 := hcell2 j _ (List.getElem?_eq_getElem hj2)
              rw [e1] at e2
              rw [List.getElem?_eq_getElem hj, List.getElem?_eq_getElem hj2, e2]
            · have heq : vals2.length = vals.length := by rw [q3.len, g3.len]
              rw [List.getElem?_eq_none (by omega), List.getElem?_eq_none (by omega)]
      rw [hsame] at q3
      exact ⟨f2, q3, fun i j b hb => ⟨r, row', by simp, h1, by simp [hpm], q4 i j b hb⟩, q5 rfl⟩
    · cases h
  · cases h
end
end Go.Tw

namespace Go.Tw
section
variable {P : Program} {w0 w w' : World} {Al : Blks} {N : Nat} {g : Gh} {σ : St} {a : Act}
theorem Holds.close {z : Nat} {oa : Option Addr} {n cap : Nat} {vals : List Value} {es : Els} {f : Nat → Nat → Blks} {F : Blks} (h : Holds w z oa n cap vals) (hn : n = es.length) (hc : CellsRep w true z es vals f)
    (hF : ∀ x, oa = some x → cap ≠ 0 → F x.block ∧ ∀ i j, ¬ f i j x.block) (hsub : ∀ i j b, f i j b → F b) (hdd : ∀ i j i' j' b, f i j b → f i' j' b → i = i' ∧ j = j') : Rep w true (.slice oa n cap) (.sl z es) F := by
  subst hn
  by_cases h0 : cap = 0
  · rcases h with ⟨_, h2, _⟩ | ⟨x, cs, e0, _, _, _, _, h2, _⟩
    · have : es = [] := List.eq_nil_of_length_eq_zero h2
      subst this; subst h0
      cases oa with
      | none => exact .nils
      | some x => exact .bare
    · have : es = [] := List.eq_nil_of_length_eq_zero (by omega)
      subst this; subst h0
      cases oa with
      | none => exact .nils
      | some x => exact .bare
  · rcases h with ⟨h1, _⟩ | ⟨x, cs, e0, rfl, h1, h2, h3, h4, h5⟩
    · exact absurd h1 h0
    · exact hc.close h1 h2 h3 h4 h5.symm (hF x rfl h0).1 hsub (fun _ => (hF x rfl h0).2) fun _ => hdd
theorem Holds.closeTop {z : Nat} {oa : Option Addr} {n cap : Nat} {vals : List Value} {es : Els} {F K : Blks} (h : Holds w z oa n cap vals) (hn : n = es.length) (hc : CellsRep w false z es vals fun _ _ => K)
    (hF : ∀ x, oa = some x → cap ≠ 0 → F x.block) : RepTop w (.slice oa n cap) z es F K := by
  subst hn
  by_cases h0 : cap = 0
  · rcases h with ⟨_, h2, _⟩ | ⟨x, cs, e0, _, _, _, _, h2, _⟩
    · have : es = [] := List.eq_nil_of_length_eq_zero h2
      subst this; subst h0
      exact Or.inl ⟨rfl, oa, rfl⟩
    · have : es = [] := List.eq_nil_of_length_eq_zero (by omega)
      subst this; subst h0
      exact Or.inl ⟨rfl, oa, rfl⟩
  · rcases h with ⟨h1, _⟩ | ⟨x, cs, e0, rfl, h1, h2, h3, h4, h5⟩
    · exact absurd h1 h0
    · exact hc.closeTop h1 h2 h3 h4 h5.symm (hF x rfl h0)
theorem append_run' {t e ty : TypeId} (hu : (tyOf P t).u = .sl e) (hk : (tyOf P e).known = true) {z : Nat} (hz : (tyOf P e).sz = z) {oa ob : Option Addr} {n cap m c : Nat} {olds news : List Value}
    (ho : Holds w z oa n cap olds) (hl : news.length = m * z) (hn : m = 0 ∨ ∃ b, ob = some b ∧ ∀ j v, news[j]? = some v → w.cell? (b.add j) = some v) (h1 : ∀ v ∈ news, v.oneCell' = true)
    (hb : (n + m) * (tyOf P e).by_ ≤ 140737488355328) (hm : n + m ≤ 9223372036854775807) :
    ∃ oa' cap' w', (Builtin.append_ #[t, t] ty #[.slice oa n cap, .slice ob m c]).run P w = .ok (.slice oa' (n + m) cap') w' ∧ w'.os = w.os ∧ w'.tape = w.tape ∧ w'.output = w.output ∧ w.heap.size ≤ w'.heap.size ∧
      Holds w' z oa' (n + m) cap' (olds ++ news) ∧
      (∀ x, oa' = some x → cap' ≠ 0 → x.block < w'.heap.size ∧ ((∃ y, oa = some y ∧ cap ≠ 0 ∧ x.block = y.block) ∨ x.block = w.heap.size)) ∧
      (∀ b, b < w.heap.size → (∀ y, oa = some y → cap ≠ 0 → b ≠ y.block) → w'.heap[b]? = w.heap[b]?) := by
  obtain ⟨r, w', hr, h2, h3, h4, h5, h6⟩ := append_run (ty := ty) (c := c) hu hk hz ho hl hn h1 hb hm
  rcases h6 with ⟨rfl, rfl, rfl⟩ | ⟨a', cap', cs', e', g1, rfl, g3, g4, g5, g6, g7, g8, g9, g10⟩
  · have hnil : news = [] := List.eq_nil_of_length_eq_zero (by simpa using hl)
    subst hnil
    refine ⟨oa, cap, w', hr, h2, h3, h4, h5, by simpa using ho, fun x hx hc => ⟨?_, Or.inl ⟨x, hx, hc, rfl⟩⟩, fun _ _ _ => rfl⟩
    rcases ho with ⟨h, _⟩ | ⟨y, cs, e0, hy, _, hcs, _⟩
    · exact absurd h hc
    · rw [hx] at hy; cases hy
      exact (Array.getElem?_eq_some_iff.1 hcs).1
  · refine ⟨some a', cap', w', hr, h2, h3, h4, h5, Or.inr ⟨a', cs', e', rfl, g3, g4, g5, g6, g7.symm⟩, fun x hx hc => ?_, fun b hb' hy => ?_⟩
    · cases hx
      refine ⟨g9, g10.imp (fun ⟨y, cs, e0, h1, h2, h3, h4⟩ => ⟨y, h1, h4, h3⟩) id⟩
    · refine g8 b hb' ?_
      rcases g10 with ⟨y, cs, e0, q1, _, q3, q4⟩ | q
      · rw [q3]; exact hy y q1 q4
      · rw [q]; omega
theorem RowsFp.lt (m : Mem w g σ) {rs : List Nat} {b : Nat} (h : RowsFp g σ rs b) : b < w.heap.size := let ⟨r, row, _, h1, h2, h3⟩ := h; m.lt b (Or.inr ⟨r, row, h1, h2, h3⟩)
theorem RowsFp.dis (m : Mem w g σ) {rs rs' : List Nat} (hd : ∀ r ∈ rs, r ∉ rs') {b : Nat} (h : RowsFp g σ rs b) (h' : RowsFp g σ rs' b) : False := by
  obtain ⟨r, row, h1, h2, h3, h4⟩ := h
  obtain ⟨r', row', h1', h2', h3', h4'⟩ := h'
  exact hd r h1 (m.rr r r' row row' b h2 h2' h3 h3' h4 h4' ▸ h1')
theorem append_own (R : Rel w0 Al N σ a w g) {t e ty : TypeId} (hu : (tyOf P t).u = .sl e) (hk : (tyOf P e).known = true) {z : Nat} (hz : (tyOf P e).sz = z) {rs rs2 : List Nat} {es els : Els} {oa ob : Option Addr} {n cap m c : Nat}
    {olds news : List Value} {f2 : Nat → Nat → Blks} {nm : Nat} (hT : TgtOk w g σ z rs .own es oa n cap olds) (hS : SrcOk w z els ob m news) (hf2 : CellsRep w true z els news f2) (s2 : ∀ i j b, f2 i j b → RowsFp g σ rs2 b)
    (d2 : ∀ i j i' j' b, f2 i j b → f2 i' j' b → i = i' ∧ j = j') (hd : ∀ r ∈ rs, r ∉ rs2) (hnm : get σ.row nm = none) (hb : (es.length + els.length) * (tyOf P e).by_ ≤ 140737488355328) (hm : es.length + els.length ≤ 9223372036854775807) :
    ∃ rv w' g', (Builtin.append_ #[t, t] ty #[.slice oa n cap, .slice ob m c]).run P w = .ok rv w' ∧ Rel w0 Al N (σ.swap (hits (rs ++ rs2)) (rs ++ rs2) nm ⟨.own, z, es ++ els⟩) a w' g' ∧
      RepV w' g' (σ.swap (hits (rs ++ rs2)) (rs ++ rs2) nm ⟨.own, z, es ++ els⟩) (.l (.ref nm [] z 0 (es.length + els.length))) rv := by
  obtain ⟨hn, hcap, hh, hblk, hlive, howns, _⟩ := hT
  obtain ⟨f, hf, s1, d1, hdf⟩ := howns rfl
  obtain ⟨oa', cap', w', hr, h2, h3, h4, h5, h6, h7, h8⟩ := append_run' (ty := ty) (c := c) hu hk hz hh (by rw [hf2.len, hS.len]) hS.there hS.one (by rw [hn, hS.len]; exact hb) (by rw [hn, hS.len]; exact hm)
  have hsum : n + m = (es ++ els).length := by rw [List.length_append, hn, hS.len]
  rw [hsum] at hr h6
  have mem := R.mem
  have hkeepf : ∀ i j b, f i j b → w'.heap[b]? = w.heap[b]? := fun i j b hb => h8 b (RowsFp.lt mem (s1 i j b hb)) fun y hy hc e => hdf y hy hc i j (e ▸ hb)
  have hkeep2 : ∀ i j b, f2 i j b → w'.heap[b]? = w.heap[b]? := fun i j b hb => h8 b (RowsFp.lt mem (s2 i j b hb)) fun y hy hc e => RowsFp.dis mem hd (hblk y hy hc) (e ▸ s2 i j b hb)
  have hcells : CellsRep w' true z (es ++ els) (olds ++ news) fun i j => if i < es.length then f i j else f2 (i - es.length) j :=
    CellsRep.append (hf.mono fun i j v c h => h.frame (hkeepf i j)) (hf2.mono fun i j v c h => h.frame (hkeep2 i j))
  let F : Blks := fun b => (∃ x, oa' = some x ∧ cap' ≠ 0 ∧ b = x.block) ∨ (∃ i j, f i j b) ∨ ∃ i j, f2 i j b
  have hrep : Rep w' true (.slice oa' (es ++ els).length cap') (.sl z (es ++ els)) F := by
    refine h6.close rfl hcells (fun x hx hc => ⟨Or.inl ⟨x, hx, hc, rfl⟩, fun i j hf' => ?_⟩) (fun i j b hb => ?_) (fun i j i' j' b hb hb' => ?_)
    · obtain ⟨_, h9⟩ := h7 x hx hc
      split at hf'
      · rcases h9 with ⟨y, hy, hc', e⟩ | e
        · exact hdf y hy hc' i j (e ▸ hf')
        · have := RowsFp.lt mem (s1 _ _ _ hf'); omega
      · rcases h9 with ⟨y, hy, hc', e⟩ | e
        · exact RowsFp.dis mem hd (hblk y hy hc') (e ▸ s2 _ _ _ hf')
        · have := RowsFp.lt mem (s2 _ _ _ hf'); omega
    · split at hb
      · exact Or.inr (Or.inl ⟨i, j, hb⟩)
      · exact Or.inr (Or.inr ⟨_, j, hb⟩)
    · split at hb <;> split at hb'
      · exact d1 _ _ _ _ b hb hb'
      · exact (RowsFp.dis mem hd (s1 _ _ _ hb) (s2 _ _ _ hb')).elim
      · exact (RowsFp.dis mem hd (s1 _ _ _ hb') (s2 _ _ _ hb)).elim
      · have := d2 _ _ _ _ b hb hb'
        omega
  have hrs : ∀ b, RowsFp g σ rs b → RowsFp g σ (rs ++ rs2) b := fun b ⟨r, row, h1, h⟩ => ⟨r, row, by simp [h1], h⟩
  have hrs2 : ∀ b, RowsFp g σ rs2 b → RowsFp g σ (rs ++ rs2) b := fun b ⟨r, row, h1, h⟩ => ⟨r, row, by simp [h1], h⟩
  have hin := swap_in (w' := w') mem (kill := hits (rs ++ rs2)) (rs := rs ++ rs2) (k := nm) (row := ⟨.own, z, es ++ els⟩) (hv := .slice oa' (es ++ els).length cap') (F := F) (N := fun _ => False) (Or.inr hnm) (by simp) (fun _ => hrep) (fun h => by cases h)
    (fun b h => h.elim) (fun b hb => ?_) (fun b hb hp => h8 b hb fun y hy hc e => hp (hrs _ (e ▸ hblk y hy hc))) h5 (fun l hl r p hr hs hm => ?_)
  · refine ⟨_, w', _, hr, R.turn hin ⟨rfl, rfl⟩ h2 h3 h4, ⟨.own, z, es ++ els⟩, es ++ els, .slice oa' (es ++ els).length cap', by simp [St.swap, get], rfl, by simp [valAt, Gh.row, upd_self], by simp, ?_⟩
    rw [List.length_append]
    exact View.whole oa' _ cap' z _
  · rcases hb with ⟨x, hx, hc, rfl⟩ | ⟨i, j, hb⟩ | ⟨i, j, hb⟩
    · obtain ⟨h9, h10⟩ := h7 x hx hc
      refine ⟨?_, h9⟩
      rcases h10 with ⟨y, hy, hc', e⟩ | e
      · exact Or.inl (hrs _ (e ▸ hblk y hy hc'))
      · exact Or.inr (by omega)
    · exact ⟨Or.inl (hrs _ (s1 i j b hb)), Nat.lt_of_lt_of_le (RowsFp.lt mem (s1 i j b hb)) h5⟩
    · exact ⟨Or.inl (hrs2 _ (s2 i j b hb)), Nat.lt_of_lt_of_le (RowsFp.lt mem (s2 i j b hb)) h5⟩
  · unfold hits at hl
    rw [hr] at hl
    simp at hl
    exact absurd (List.mem_append.1 hm) (by simp [hl])
theorem append_top (R : Rel w0 Al N σ a w g) {t e ty : TypeId} (hu : (tyOf P t).u = .sl e) (hk : (tyOf P e).known = true) {z : Nat} (hz : (tyOf P e).sz = z) {rs : List Nat} {es els : Els} {oa ob : Option Addr} {n cap m c : Nat}
    {olds news : List Value} {nm : Nat} {pm : Pm} (hpm : pm ≠ .ro) (hT : TgtOk w g σ z rs pm es oa n cap olds) (hS : SrcOk w z els ob m news) (hf2 : CellsRep w false z els news fun _ _ b => ¬ Owned g σ b)
    (hnm : get σ.row nm = none) (hb : (es.length + els.length) * (tyOf P e).by_ ≤ 140737488355328) (hm : es.length + els.length ≤ 9223372036854775807) :
    ∃ rv w' g', (Builtin.append_ #[t, t] ty #[.slice oa n cap, .slice ob m c]).run P w = .ok rv w' ∧ Rel w0 Al N (σ.swap (hits rs) rs nm ⟨.top, z, es ++ els⟩) a w' g' ∧
      RepV w' g' (σ.swap (hits rs) rs nm ⟨.top, z, es ++ els⟩) (.l (.ref nm [] z 0 (es.length + els.length))) rv := by
  obtain ⟨hn, hcap, hh, hblk, hlive, howns, htops⟩ := hT
  have mem := R.mem
  obtain ⟨oa', cap', w', hr, h2, h3, h4, h5, h6, h7, h8⟩ := append_run' (ty := ty) (c := c) hu hk hz hh (by rw [hf2.len, hS.len]) hS.there hS.one (by rw [hn, hS.len]; exact hb) (by rw [hn, hS.len]; exact hm)
  have hsum : n + m = (es ++ els).length := by rw [List.length_append, hn, hS.len]
  rw [hsum] at hr h6
  let K : Blks := fun b => (b < w.heap.size ∧ ¬ Owned g σ b) ∨ (RowsFp g σ rs b ∧ ∀ y, oa = some y → cap ≠ 0 → b ≠ y.block)
  have hKold : ∀ b, K b → w'.heap[b]? = w.heap[b]? := by
    rintro b (⟨hlt, hno⟩ | ⟨hb, hne⟩)
    · exact h8 b hlt fun y hy hc e => hno (by obtain ⟨r, row, _, q⟩ := hblk y hy hc; exact Or.inr ⟨r, row, e ▸ q⟩)
    · exact h8 b (RowsFp.lt mem hb) hne
  have toK : ∀ {v : Value} {c : T}, Rep w false v c (fun b => ¬ Owned g σ b) → Rep w' false v c K := fun h => by
    obtain ⟨G, hG, hs, hlt⟩ := h.lt
    have hGK : ∀ b, G b → K b := fun b hb => Or.inl ⟨hlt b hb, hs b hb⟩
    exact (hG.frame fun b hb => hKold b (hGK b hb)).mono hGK
  have hes : CellsRep w' false z es olds fun _ _ => K := by
    cases pm with
    | ro => exact absurd rfl hpm
    | top => exact (htops rfl).mono fun i j v c h => toK h
    | own =>
      obtain ⟨f, hf, s1, d1, hdf⟩ := howns rfl
      refine hf.mono fun i j v c h => ?_
      have hfK : ∀ b, f i j b → K b := fun b hb => Or.inr ⟨s1 i j b hb, fun y hy hc e => hdf y hy hc i j (e ▸ hb)⟩
      exact (h.lent.frame fun b hb => hKold b (hfK b hb)).mono hfK
  have hcells : CellsRep w' false z (es ++ els) (olds ++ news) fun _ _ => K := by
    have := CellsRep.append hes (hf2.mono fun i j v c h => toK h)
    exact this.mono fun i j v c h => by simpa using h
  let F : Blks := fun b => ∃ x, oa' = some x ∧ cap' ≠ 0 ∧ b = x.block
  have hrep : RepTop w' (.slice oa' (es ++ els).length cap') z (es ++ els) F K := h6.closeTop rfl hcells fun x hx hc => ⟨x, hx, hc, rfl⟩
  have hin := swap_in (w' := w') mem (kill := hits rs) (rs := rs) (k := nm) (row := ⟨.top, z, es ++ els⟩) (hv := .slice oa' (es ++ els).length cap') (F := F) (N := K) (Or.inr hnm) (by simp) (fun h => by cases h) (fun _ => hrep)
    (fun b hb => ?_) (fun b hb => ?_) (fun b hb hp => h8 b hb fun y hy hc e => hp (e ▸ hblk y hy hc)) h5 (fun l hl r p hr hs hm => ?_)
  · refine ⟨_, w', _, hr, R.turn hin ⟨rfl, rfl⟩ h2 h3 h4, ⟨.top, z, es ++ els⟩, es ++ els, .slice oa' (es ++ els).length cap', by simp [St.swap, get], rfl, by simp [valAt, Gh.row, upd_self], by simp, ?_⟩
    rw [List.length_append]
    exact View.whole oa' _ cap' z _
  · rcases hb with ⟨h9, h10⟩ | ⟨h9, h10⟩
    · refine ⟨h9, Or.inl h10, fun ⟨x, hx, hc, e⟩ => ?_⟩
      rcases (h7 x hx hc).2 with ⟨y, hy, hc', e'⟩ | e'
      · obtain ⟨r, row, _, q⟩ := hblk y hy hc'
        exact h10 (Or.inr ⟨r, row, by rw [e, e']; exact q⟩)
      · omega
    · refine ⟨RowsFp.lt mem h9, Or.inr h9, fun ⟨x, hx, hc, e⟩ => ?_⟩
      rcases (h7 x hx hc).2 with ⟨y, hy, hc', e'⟩ | e'
      · exact h10 y hy hc' (e.trans e')
      · have := RowsFp.lt mem h9; omega
  · obtain ⟨x, hx, hc, rfl⟩ := hb
    obtain ⟨h9, h10⟩ := h7 x hx hc
    refine ⟨?_, h9⟩
    rcases h10 with ⟨y, hy, hc', e⟩ | e
    · exact Or.inl (e ▸ hblk y hy hc')
    · exact Or.inr (by omega)
  · unfold hits at hl
    rw [hr] at hl
    simp at hl
    exact absurd hm hl
end
end Go.Tw

namespace Go.Tw
def patchT (x : List T) (j : Nat) (ts : List T) : List T := x.take j ++ ts ++ x.drop (j + ts.length)
theorem patchT_length {x : List T} {j : Nat} {ts : List T} (h : j + ts.length ≤ x.length) : (patchT x j ts).length = x.length := by simp [patchT]; omega
theorem patchT_get {x : List T} {j : Nat} {ts : List T} (h : j + ts.length ≤ x.length) (k : Nat) :
    (patchT x j ts)[k]? = if k < j then x[k]? else if k < j + ts.length then ts[k - j]? else x[k]? := patch_get h k
section
variable {P : Program} {w0 w w' : World} {Al : Blks} {N : Nat} {g : Gh} {σ : St} {a : Act}
def World.seg (w : World) (b o : Nat) (cs : Array Value) (vs : List Value) : World := w.setRow b (cs.toList.take o ++ vs ++ cs.toList.drop (o + vs.length)).toArray
theorem seg_self {b o : Nat} {cs : Array Value} {e : TypeId} {vs : List Value} (h : w.heap[b]? = some (.cells cs e (0, 0))) :
    (World.seg w b o cs vs).heap[b]? = some (.cells (cs.toList.take o ++ vs ++ cs.toList.drop (o + vs.length)).toArray e (0, 0)) := setRow_cells h
theorem seg_ne {b o c : Nat} {cs : Array Value} {vs : List Value} (h : c ≠ b) : (World.seg w b o cs vs).heap[c]? = w.heap[c]? := setRow_ne h
theorem seg_size {b o : Nat} {cs : Array Value} {vs : List Value} : (World.seg w b o cs vs).heap.size = w.heap.size := by simp [World.seg, World.setRow]
theorem seg_get {o k : Nat} {cs : Array Value} {vs : List Value} (h : o + vs.length ≤ cs.size) :
    (cs.toList.take o ++ vs ++ cs.toList.drop (o + vs.length)).toArray.getD k undef = if k < o then cs.getD k undef else if k < o + vs.length then vs.getD (k - o) undef else cs.getD k undef := by
  rw [Array.getD_eq_getD_getElem?, List.getElem?_toArray, patch_get (by simpa using h)]
  split
  · simp [Array.getD_eq_getD_getElem?]
  · split
    · rw [List.getD_eq_getElem?_getD]
    · simp [Array.getD_eq_getD_getElem?]
theorem run_storeVar' {t : TypeId} (hk : (P.info? t).isSome) {b o : Nat} {cs : Array Value} {e : TypeId} {v : Value} (hb : w.heap[b]? = some (.cells cs e (0, 0))) (hs : v.cells.size = P.cellsOf t) (ho : o + v.cells.size ≤ cs.size)
    (h1 : ∀ x ∈ v.cells.toList, x.oneCell' = true) : (storeVar t ⟨b, o, none⟩ v).run P w = .ok () (World.seg w b o cs v.cells.toList) := by
  have hst := run_storeCells_at P b o e v.cells.toList 0 cs w hb (by simpa using ho) h1
  simp only [Nat.add_zero] at hst
  simp only [storeVar, Sem.run_bind, run_sizeOf_info hk, Result.andThen_ok, hs, ne_eq, not_true_eq_false, if_false]
  exact hst
theorem node_store {oa : Option Addr} {n cap z : Nat} {es : Els} {G : Blks} (h : Rep w true (.slice oa n cap) (.sl z es) G) {i j : Nat} {x : List T} (hx : es[i]? = some x) {ts : List T} {vs : List Value} (hl : vs.length = ts.length)
    (hj : j + ts.length ≤ x.length) {fn : Nat → Blks} (hv : ∀ k t v, ts[k]? = some t → vs[k]? = some v → Rep w true v t (fn k)) (hd : ∀ k k' b, fn k b → fn k' b → k = k') (hG : ∀ k b, fn k b → ¬ G b) :
    ∃ ad cs e, oa = some ad ∧ ad.spot = none ∧ w.heap[ad.block]? = some (.cells cs e (0, 0)) ∧ ad.off + i * z + j + vs.length ≤ cs.size ∧ G ad.block ∧
      Rep (World.seg w ad.block (ad.off + i * z + j) cs vs) true (.slice oa n cap) (.sl z (es.set i (patchT x j ts))) fun b => G b ∨ ∃ k, fn k b := by
  cases h with
  | nils => simp at hx
  | bare => simp at hx
  | @sl ad _ _ _ _ cs f hlies hF hsub hdn hdd hr =>
    obtain ⟨e, fr, hb, hfr⟩ := hlies.blk
    rw [hfr rfl] at hb
    have hi : i < es.length := (List.getElem?_eq_some_iff.1 hx).1
    have hz : x.length = z := hlies.each x (List.mem_of_getElem? hx)
    have hroom := hlies.room
    have hmul : (i + 1) * z ≤ cap * z := Nat.mul_le_mul_right z (by have := hlies.len; omega)
    rw [Nat.add_mul, Nat.one_mul] at hmul
    have hfit : ad.off + i * z + j + vs.length ≤ cs.size := by omega
    refine ⟨ad, cs, e, rfl, hlies.spot, hb, hfit, hF, ?_⟩
    have hlen : (es.set i (patchT x j ts)).length = es.length := by simp
    rw [← hlen]
    refine .sl (fun i' j' b => if i' = i ∧ j ≤ j' ∧ j' < j + ts.length then fn (j' - j) b else f i' j' b) ⟨⟨e, (0, 0), seg_self hb, fun _ => rfl⟩, hlies.spot, by rw [hlen]; exact hlies.len, by simp; omega, fun y hy => ?_⟩ (Or.inl hF) (fun i' j' b hb' => ?_) (fun _ i' j' hb' => ?_) (fun _ i1 j1 i2 j2 b h1 h2 => ?_) (fun i' j' y c hy hc => ?_)
    · rcases List.mem_or_eq_of_mem_set hy with hy | rfl
      · exact hlies.each y hy
      · rw [patchT_length hj]; exact hz
    · split at hb'
      · exact Or.inr ⟨_, hb'⟩
      · exact Or.inl (hsub _ _ b hb')
    · split at hb'
      · exact hG _ _ hb' hF
      · exact hdn rfl _ _ hb'
    · split at h1 <;> split at h2
      · rename_i e1 e2; have := hd _ _ b h1 h2; omega
      · exact absurd (hsub _ _ b h2) (hG _ b h1)
      · exact absurd (hsub _ _ b h1) (hG _ b h2)
      · exact hdd rfl _ _ _ _ b h1 h2
    · rw [seg_get hfit]
      have hj'z : j' < z := by
        have hy' : y.length = z := by
          rcases List.mem_or_eq_of_mem_set (List.mem_of_getElem? hy) with hy | rfl
          · exact hlies.each y hy
          · rw [patchT_length hj]; exact hz
        exact hy' ▸ (List.getElem?_eq_some_iff.1 hc).1
      by_cases hi' : i' = i
      · subst hi'
        rw [List.getElem?_set_self hi] at hy
        cases hy
        rw [patchT_get hj] at hc
        by_cases h1 : j' < j
        · rw [if_pos h1] at hc
          rw [if_pos (by omega)]
          refine ((hr i' j' x c hx hc).frame (w' := World.seg w ad.block (ad.off + i' * z + j) cs vs) fun b hb' => seg_ne fun e => hdn rfl i' j' (e ▸ hb')).mono fun b hb' => ?_
          rw [if_neg (by omega)]
          exact hb'
        · rw [if_neg h1] at hc
          by_cases h2 : j' < j + ts.length
          · rw [if_pos h2] at hc
            rw [if_neg (by omega), if_pos (by omega)]
            have hk : j' - j < vs.length := by omega
            have e1 : ad.off + i' * z + j' - (ad.off + i' * z + j) = j' - j := by omega
            rw [e1, List.getD_eq_getElem?_getD, List.getElem?_eq_getElem hk]
            refine ((hv (j' - j) c _ hc (List.getElem?_eq_getElem hk)).frame (w' := World.seg w ad.block (ad.off + i' * z + j) cs vs) fun b hb' => seg_ne fun e => hG _ b hb' (e ▸ hF)).mono fun b hb' => ?_
            rw [if_pos ⟨rfl, by omega, h2⟩]
            exact hb'
          · rw [if_neg h2] at hc
            rw [if_neg (by omega), if_neg (by omega)]
            refine ((hr i' j' x c hx hc).frame (w' := World.seg w ad.block (ad.off + i' * z + j) cs vs) fun b hb' => seg_ne fun e => hdn rfl i' j' (e ▸ hb')).mono fun b hb' => ?_
            rw [if_neg (by omega)]
            exact hb'
      · rw [List.getElem?_set_ne (Ne.symm hi')] at hy
        have hout : ¬ (ad.off + i * z + j ≤ ad.off + i' * z + j' ∧ ad.off + i' * z + j' < ad.off + i * z + j + vs.length) := by
          rintro ⟨q1, q2⟩
          rcases Nat.lt_or_gt_of_ne hi' with h | h
          · have : (i' + 1) * z ≤ i * z := Nat.mul_le_mul_right z h
            rw [Nat.add_mul, Nat.one_mul] at this
            omega
          · have : (i + 1) * z ≤ i' * z := Nat.mul_le_mul_right z h
            rw [Nat.add_mul, Nat.one_mul] at this
            omega
        have hfr := ((hr i' j' y c hy hc).frame (w' := World.seg w ad.block (ad.off + i * z + j) cs vs) fun b hb' => seg_ne fun e => hdn rfl i' j' (e ▸ hb')).mono (G := fun b => if i' = i ∧ j ≤ j' ∧ j' < j + ts.length then fn (j' - j) b else f i' j' b) fun b hb' => by rw [if_neg (by omega)]; exact hb'
        split
        · exact hfr
        · rw [if_neg (by omega)]
          exact hfr
theorem top_store {oa : Option Addr} {n cap z : Nat} {es : Els} {F K : Blks} (h : RepTop w (.slice oa n cap) z es F K) {i j : Nat} {x : List T} (hx : es[i]? = some x) {ts : List T} {vs : List Value} (hl : vs.length = ts.length)
    (hj : j + ts.length ≤ x.length) (hv : ∀ (k : Nat) (t : T) (v : Value), ts[k]? = some t → vs[k]? = some v → Rep w false v t K) (hFK : ∀ b, F b → ¬ K b) :
    ∃ ad cs e, oa = some ad ∧ ad.spot = none ∧ w.heap[ad.block]? = some (.cells cs e (0, 0)) ∧ ad.off + i * z + j + vs.length ≤ cs.size ∧ F ad.block ∧
      RepTop (World.seg w ad.block (ad.off + i * z + j) cs vs) (.slice oa n cap) z (es.set i (patchT x j ts)) F K := by
  rcases h with ⟨rfl, _⟩ | ⟨ad, cap', cs, e0, hlies, hF, hr⟩
  · simp at hx
  · injection e0 with q1 q2 q3
    subst q1 q2 q3
    obtain ⟨e, fr, hb, hfr⟩ := hlies.blk
    rw [hfr rfl] at hb
    have hi : i < es.length := (List.getElem?_eq_some_iff.1 hx).1
    have hz : x.length = z := hlies.each x (List.mem_of_getElem? hx)
    have hroom := hlies.room
    have hmul : (i + 1) * z ≤ cap * z := Nat.mul_le_mul_right z (by have := hlies.len; omega)
    rw [Nat.add_mul, Nat.one_mul] at hmul
    have hfit : ad.off + i * z + j + vs.length ≤ cs.size := by omega
    refine ⟨ad, cs, e, rfl, hlies.spot, hb, hfit, hF, ?_⟩
    have hlen : (es.set i (patchT x j ts)).length = es.length := by simp
    have hkeep : ∀ {v : Value} {c : T}, Rep w false v c K → Rep (World.seg w ad.block (ad.off + i * z + j) cs vs) false v c K := fun h => h.frame fun b hb' => seg_ne fun e => hFK b (e ▸ hF) hb'
    refine Or.inr ⟨ad, cap, _, by rw [hlen], ⟨⟨e, (0, 0), seg_self hb, fun _ => rfl⟩, hlies.spot, by rw [hlen]; exact hlies.len, by simp; omega, fun y hy => ?_⟩, hF, fun i' j' y c hy hc => ?_⟩
    · rcases List.mem_or_eq_of_mem_set hy with hy | rfl
      · exact hlies.each y hy
      · rw [patchT_length hj]; exact hz
    · rw [seg_get hfit]
      have hj'z : j' < z := by
        have hy' : y.length = z := by
          rcases List.mem_or_eq_of_mem_set (List.mem_of_getElem? hy) with hy | rfl
          · exact hlies.each y hy
          · rw [patchT_length hj]; exact hz
        exact hy' ▸ (List.getElem?_eq_some_iff.1 hc).1
      by_cases hi' : i' = i
      · subst hi'
        rw [List.getElem?_set_self hi] at hy
        cases hy
        rw [patchT_get hj] at hc
        by_cases h1 : j' < j
        · rw [if_pos h1] at hc
          rw [if_pos (by omega)]
          exact hkeep (hr i' j' x c hx hc)
        · rw [if_neg h1] at hc
          by_cases h2 : j' < j + ts.length
          · rw [if_pos h2] at hc
            rw [if_neg (by omega), if_pos (by omega)]
            have hk : j' - j < vs.length := by omega
            have e1 : ad.off + i' * z + j' - (ad.off + i' * z + j) = j' - j := by omega
            rw [e1, List.getD_eq_getElem?_getD, List.getElem?_eq_getElem hk]
            exact hkeep (hv (j' - j) c _ hc (List.getElem?_eq_getElem hk))
          · rw [if_neg h2] at hc
            rw [if_neg (by omega), if_neg (by omega)]
            exact hkeep (hr i' j' x c hx hc)
      · rw [List.getElem?_set_ne (Ne.symm hi')] at hy
        have hout : ¬ (ad.off + i * z + j ≤ ad.off + i' * z + j' ∧ ad.off + i' * z + j' < ad.off + i * z + j + vs.length) := by
          rintro ⟨q1, q2⟩
          rcases Nat.lt_or_gt_of_ne hi' with h | h
          · have : (i' + 1) * z ≤ i * z := Nat.mul_le_mul_right z h
            rw [Nat.add_mul, Nat.one_mul] at this
            omega
          · have : (i + 1) * z ≤ i' * z := Nat.mul_le_mul_right z h
            rw [Nat.add_mul, Nat.one_mul] at this
            omega
        split
        · exact hkeep (hr i' j' y c hy hc)
        · rw [if_neg (by omega)]
          exact hkeep (hr i' j' y c hy hc)
end
end Go.Tw

namespace Go.Tw
def T.els : T → Els
  | .sl _ es => es
  | _ => []
theorem T.put_sl {z0 : Nat} {es0 : Els} : ∀ {p : Path} {z : Nat} {es n : Els}, (T.sl z0 es0).at? p = some (.sl z es) → (T.sl z0 es0).put p (.sl z n) = .sl z0 ((T.sl z0 es0).put p (.sl z n)).els
  | [], z, es, n, h => by
    simp only [T.at?, Option.some.injEq, T.sl.injEq] at h
    simp [T.put, T.els, h.1]
  | (i, j) :: p, z, es, n, h => by
    simp only [T.at?] at h
    split at h
    · rename_i x hx
      split at h
      · rename_i c hc
        simp [T.put, hx, hc, T.els]
      · cases h
    · cases h
def killSt (rs : List Nat) (r : Nat) (p : Path) (l : L) : Bool := hits rs l || match l.rowOf with
  | some (r', q) => r' == r && thru p q
  | none => false
def Row.store (row : Row) (p : Path) (z : Nat) (es : Els) (i j : Nat) (x : List T) (ts : List T) : Row :=
  { row with es := (row.t.put p (.sl z (es.set i (patchT x j ts)))).els }
section
variable {P : Program} {w0 w w' : World} {Al : Blks} {N : Nat} {g : Gh} {σ : St} {a : Act}
theorem store_own (R : Rel w0 Al N σ a w g) {t : TypeId} (hk : (P.info? t).isSome) {r : Nat} {p : Path} {i j : Nat} {row : Row} (hrow : get σ.row r = some row) (hpm : row.pm = .own) {z : Nat} {es : Els} (hn : row.t.at? p = some (.sl z es))
    {x : List T} (hx : es[i]? = some x) {ad v : Value} {d : Nat} (had : RepL w g σ (.ept r p i j d) ad) {xs : List L} {zs : List Nat} {ts : List T} {rs : List Nat} {c : Prop} (hts : takeLs σ zs xs = some (c, ts, rs)) (hc : c)
    (hv : RepLs w g σ xs v.cells.toList) (hsz : xs.length = P.cellsOf t) (hj : j + ts.length ≤ x.length) (hr : r ∉ rs) :
    ∃ w' g', (Instr.storeAt t ad v).run P w = .ok () w' ∧ Rel w0 Al N (σ.swap (killSt rs r p) (r :: rs) r (row.store p z es i j x ts)) a w' g' := by
  have mem := R.mem
  obtain ⟨row1, z1, es1, a1, n, cap, e1, e2, e3, e4, e5, rfl⟩ := had
  rw [hrow] at e1
  cases e1
  rw [hn] at e2
  cases e2
  obtain ⟨tlen, towns, fn, hfn, hsub, hdis⟩ := takeLs_rep mem hts hc hv
  have hvl := hv.length
  obtain ⟨u, G, hu, hru, hGF, hcont⟩ := (mem.own r row hrow hpm).focus hn
  rw [e3] at hu
  cases hu
  have hfnF : ∀ k b, fn k b → ¬ g.fp r b := fun k b hb hb' => RowsFp.dis mem (rs := [r]) (rs' := rs) (by simpa using hr) ⟨r, row, by simp, hrow, by simp [hpm], hb'⟩ (hsub k b hb)
  obtain ⟨ad', cs, e, q1, q2, q3, q4, q5, q6⟩ := node_store hru hx (ts := ts) (vs := v.cells.toList) (by rw [← hvl, ← tlen]) hj hfn hdis fun k b hb hb' => hfnF k b hb (hGF b hb')
  cases q1
  have hrun := run_storeVar' (P := P) (w := w) hk (b := a1.block) (o := a1.off + i * z + j) (v := v) q3 (by rw [← hsz, hvl]; simp) (by simpa using q4) (fun y hy => by
    obtain ⟨k, hk'⟩ := List.getElem?_of_mem hy
    have hlt : k < xs.length := by rw [hvl]; exact (List.getElem?_eq_some_iff.1 hk').1
    obtain ⟨y', hy', hyr⟩ := hv.nth (List.getElem?_eq_getElem hlt)
    rw [hk'] at hy'
    cases hy'
    exact hyr.one)
  have hold : ∀ b, b ≠ a1.block → (World.seg w a1.block (a1.off + i * z + j) cs v.cells.toList).heap[b]? = w.heap[b]? := fun b hb => seg_ne hb
  obtain ⟨c1, c2, c3⟩ := hcont _ _ _ (fun b hF hG => hold b fun e => hG (e ▸ q5)) q6 (fun b hb => hb.imp id fun ⟨k, hk⟩ => hfnF k b hk)
  have hput := T.put_sl (n := es.set i (patchT x j ts)) hn
  let F' : Blks := fun b => (g.fp r b ∧ ¬ G b) ∨ G b ∨ ∃ k, fn k b
  have hin := swap_in (w' := World.seg w a1.block (a1.off + i * z + j) cs v.cells.toList) mem (kill := killSt rs r p) (rs := r :: rs) (k := r) (row := row.store p z es i j x ts) (hv := g.rw r) (F := F') (N := fun _ => False) (Or.inl (by simp))
    (by simp [Row.store, hpm]) (fun _ => ?_) (fun h => by simp [Row.store, hpm] at h) (fun b h => h.elim) (fun b hb => ?_) (fun b hb hp => hold b fun e => hp ⟨r, row, by simp, hrow, by simp [hpm], e ▸ hGF _ q5⟩) (by rw [seg_size]; exact Nat.le_refl _)
    (fun l hl r' q hq hs hm => ?_)
  · exact ⟨_, _, by simp only [Instr.storeAt, Instr.sureAddr, Sem.run_bind, Sem.run_pure, Result.andThen_ok, hrun], R.turn hin ⟨rfl, rfl⟩ rfl rfl rfl⟩
  · show Rep _ true (g.rw r) (.sl row.z _) _
    simp only [Row.store]
    rw [← hput]
    exact c1
  · refine ⟨Or.inl ?_, ?_⟩
    · rcases hb with ⟨hb, _⟩ | hb | ⟨k, hb⟩
      · exact ⟨r, row, by simp, hrow, by simp [hpm], hb⟩
      · exact ⟨r, row, by simp, hrow, by simp [hpm], hGF b hb⟩
      · obtain ⟨r2, row2, h1, h2⟩ := hsub k b hb
        exact ⟨r2, row2, by simp [h1], h2⟩
    · rw [seg_size]
      rcases hb with ⟨hb, _⟩ | hb | ⟨k, hb⟩
      · exact mem.lt b (Or.inr ⟨r, row, hrow, by simp [hpm], hb⟩)
      · exact mem.lt b (Or.inr ⟨r, row, hrow, by simp [hpm], hGF b hb⟩)
      · exact RowsFp.lt mem (hsub k b hb)
  · unfold killSt hits at hl
    rw [hq] at hl
    simp only [Bool.or_eq_false_iff, Bool.and_eq_false_iff, List.contains_eq_mem, decide_eq_false_iff_not] at hl
    rcases List.mem_cons.1 hm with rfl | hm
    · have hth : thru p q = false := by
        rcases hl.2 with h | h
        · simp at h
        · exact h
      intro row2 hrow2
      rw [hrow] at hrow2
      cases hrow2
      refine ⟨row.store p z es i j x ts, by simp [St.swap, get], by simp [Gh.row, upd_self], fun z2 es2 u2 h1 h2 => ?_⟩
      obtain ⟨eq', d1, d2, d3⟩ := c3 q hth ⟨z, es, _, rfl, rfl⟩ z2 es2 h1
      refine ⟨eq', ?_, d2, ?_⟩
      · show (T.sl row.z _).at? q = _
        simp only [Row.store]
        rw [← hput]
        exact d1
      · show valAt _ _ (T.sl row.z _) q = _
        simp only [Row.store, Gh.row, upd_self]
        rw [← hput, d3]
        exact h2
    · exact absurd hm hl.1
theorem store_top (R : Rel w0 Al N σ a w g) {t : TypeId} (hk : (P.info? t).isSome) {r : Nat} {i j : Nat} {row : Row} (hrow : get σ.row r = some row) (hpm : row.pm = .top)
    {x : List T} (hx : row.es[i]? = some x) {ad v : Value} {d : Nat} (had : RepL w g σ (.ept r [] i j d) ad) {xs : List L} {ts : List T} (tlen : ts.length = xs.length)
    (hts : ∀ (k : Nat) (t : T) (y : Value), ts[k]? = some t → v.cells.toList[k]? = some y → Rep w false y t fun b => ¬ Owned g σ b)
    (hv : RepLs w g σ xs v.cells.toList) (hsz : xs.length = P.cellsOf t) (hj : j + ts.length ≤ x.length) :
    ∃ w' g', (Instr.storeAt t ad v).run P w = .ok () w' ∧ Rel w0 Al N (σ.swap (killSt [] r []) [r] r (row.store [] row.z row.es i j x ts)) a w' g' := by
  have mem := R.mem
  obtain ⟨row1, z1, es1, a1, n, cap, e1, e2, e3, e4, e5, rfl⟩ := had
  rw [hrow] at e1
  cases e1
  simp only [T.at?, Option.some.injEq, T.sl.injEq, valAt] at e2 e3
  obtain ⟨rfl, rfl⟩ := e2
  have hvl := hv.length
  have htop := mem.top r row hrow hpm
  rw [e3] at htop
  let K : Blks := fun b => b < w.heap.size ∧ ¬ Owned g σ b
  have toK : ∀ {v : Value} {c : T}, Rep w false v c (fun b => ¬ Owned g σ b) → Rep w false v c K := fun h => by
    obtain ⟨G, hG, hs, hlt⟩ := h.lt
    exact hG.mono fun b hb => ⟨hlt b hb, hs b hb⟩
  have htop' : RepTop w (.slice (some a1) n cap) row.z row.es (g.fp r) K := by
    rcases htop with h | ⟨b1, cap1, cs1, h1, h2, h3, h4⟩
    · exact Or.inl h
    · exact Or.inr ⟨b1, cap1, cs1, h1, h2, h3, fun i j x c hx hc => toK (h4 i j x c hx hc)⟩
  obtain ⟨ad', cs, e, q1, q2, q3, q4, q5, q6⟩ := top_store htop' hx (ts := ts) (vs := v.cells.toList) (by rw [← hvl, ← tlen]) hj (fun k t y h1 h2 => toK (hts k t y h1 h2)) fun b hb hk => hk.2 (Or.inr ⟨r, row, hrow, by simp [hpm], hb⟩)
  cases q1
  have hrun := run_storeVar' (P := P) (w := w) hk (b := a1.block) (o := a1.off + i * row.z + j) (v := v) q3 (by rw [← hsz, hvl]; simp) (by simpa using q4) (fun y hy => by
    obtain ⟨k, hk'⟩ := List.getElem?_of_mem hy
    have hlt : k < xs.length := by rw [hvl]; exact (List.getElem?_eq_some_iff.1 hk').1
    obtain ⟨y', hy', hyr⟩ := hv.nth (List.getElem?_eq_getElem hlt)
    rw [hk'] at hy'
    cases hy'
    exact hyr.one)
  have hold : ∀ b, b ≠ a1.block → (World.seg w a1.block (a1.off + i * row.z + j) cs v.cells.toList).heap[b]? = w.heap[b]? := fun b hb => seg_ne hb
  have hin := swap_in (w' := World.seg w a1.block (a1.off + i * row.z + j) cs v.cells.toList) mem (kill := killSt [] r []) (rs := [r]) (k := r) (row := row.store [] row.z row.es i j x ts) (hv := g.rw r) (F := g.fp r) (N := K) (Or.inl (by simp))
    (by simp [Row.store, hpm]) (fun h => by simp [Row.store, hpm] at h) (fun _ => by rw [e3]; exact q6) (fun b hb => ⟨hb.1, Or.inl hb.2, fun h => hb.2 (Or.inr ⟨r, row, hrow, by simp [hpm], h⟩)⟩)
    (fun b hb => ⟨Or.inl ⟨r, row, by simp, hrow, by simp [hpm], hb⟩, by rw [seg_size]; exact mem.lt b (Or.inr ⟨r, row, hrow, by simp [hpm], hb⟩)⟩)
    (fun b hb hp => hold b fun e => hp ⟨r, row, by simp, hrow, by simp [hpm], e ▸ q5⟩) (by rw [seg_size]; exact Nat.le_refl _) (fun l hl r' q hq hs hm => ?_)
  · exact ⟨_, _, by simp only [Instr.storeAt, Instr.sureAddr, Sem.run_bind, Sem.run_pure, Result.andThen_ok, hrun], R.turn hin ⟨rfl, rfl⟩ rfl rfl rfl⟩
  · unfold killSt hits at hl
    rw [hq] at hl
    simp only [Bool.or_eq_false_iff, Bool.and_eq_false_iff] at hl
    simp only [List.mem_singleton] at hm
    subst hm
    have hth : thru [] q = false := by
      rcases hl.2 with h | h
      · simp at h
      · exact h
    have hq0 : q = [] := by
      cases q with
      | nil => rfl
      | cons c q => simp [thru] at hth
    subst hq0
    intro row2 hrow2
    rw [hrow] at hrow2
    cases hrow2
    refine ⟨row.store [] row.z row.es i j x ts, by simp [St.swap, get], by simp [Gh.row, upd_self], fun z2 es2 u2 h1 h2 => ?_⟩
    simp only [T.at?, Option.some.injEq, T.sl.injEq, valAt] at h1 h2
    obtain ⟨rfl, rfl⟩ := h1
    exact ⟨row.es.set i (patchT x j ts), by simp [T.at?, Row.store, T.put, T.els], by simp, by simp [valAt, Gh.row, upd_self, h2]⟩
theorem store_box (R : Rel w0 Al N σ a w g) {t : TypeId} (hk : (P.info? t).isSome) {k j : Nat} {ls : List L} (hb : get σ.box k = some ls) {ad v : Value} (had : RepL w g σ (.ptr k j) ad) {xs : List L}
    (hv : RepLs w g σ xs v.cells.toList) (hsz : xs.length = P.cellsOf t) (hj : j + xs.length ≤ ls.length) :
    ∃ w', (Instr.storeAt t ad v).run P w = .ok () w' ∧ Rel w0 Al N { σ with box := (k, patch ls j xs) :: del [k] σ.box } a w' g := by
  have mem := R.mem
  obtain ⟨_, rfl⟩ := had
  obtain ⟨cs, e, hcs, hr⟩ := mem.box k ls hb
  have hvl := hv.length
  have hlv := hr.length
  have hfit : j + v.cells.toList.length ≤ cs.size := by simp at hlv ⊢; simp at hvl; omega
  have hrun := run_storeVar' (P := P) (w := w) hk (b := g.bx k) (o := j) (v := v) hcs (by rw [← hsz, hvl]; simp) (by simpa using hfit) (fun y hy => by
    obtain ⟨q, hk'⟩ := List.getElem?_of_mem hy
    have hlt : q < xs.length := by rw [hvl]; exact (List.getElem?_eq_some_iff.1 hk').1
    obtain ⟨y', hy', hyr⟩ := hv.nth (List.getElem?_eq_getElem hlt)
    rw [hk'] at hy'
    cases hy'
    exact hyr.one)
  have hold : ∀ b, b ≠ g.bx k → (World.seg w (g.bx k) j cs v.cells.toList).heap[b]? = w.heap[b]? := fun b hb => seg_ne hb
  have hst : ∀ l, StaysL w (World.seg w (g.bx k) j cs v.cells.toList) g g σ { σ with box := (k, patch ls j xs) :: del [k] σ.box } l := by
    intro l
    refine ⟨fun r p _ => .of_same mem (fun row h => h) (fun _ _ => rfl) (fun row h b h1 h2 _ => hold b fun e => ?_), fun b _ hs => ⟨?_, rfl⟩⟩
    · subst e
      by_cases hp : row.pm = .ro
      · exact h2 hp (Or.inl ⟨k, ls, hb, rfl⟩)
      · rcases h1 hp with h1 | ⟨_, h1⟩
        · exact mem.br k ls r row hb h hp h1
        · exact h1 (Or.inl ⟨k, ls, hb, rfl⟩)
    · simp only [get]
      split
      · rfl
      · rename_i hne
        rw [get_del]
        simpa [hne] using hs
  have hin : NewIn w (World.seg w (g.bx k) j cs v.cells.toList) g g σ { σ with box := (k, patch ls j xs) :: del [k] σ.box } [] [k] [] [(k, patch ls j xs)] (fun _ => false) := by
    refine ⟨by simp [del_nil], by simp [killB_no], fun b hlt hp => hold b fun e => hp (Or.inr ⟨k, ls, by simp, hb, e.symm⟩), by rw [seg_size]; exact Nat.le_refl _, fun r _ _ => ⟨rfl, rfl⟩, fun b _ _ => rfl, ?_, ?_, ?_, ?_, ?_, ?_, ?_, ?_, ?_, ?_, ?_, ?_, ?_⟩
    · intro k row h; simp [get] at h
    · intro k' ls' h; exact Or.inl (by simp [(get_one h).1])
    · intro k row h; simp [get] at h
    · intro k row h; simp [get] at h
    · intro k row h; simp [get] at h
    · intro k row b h; simp [get] at h
    · intro k' ls' h
      obtain ⟨rfl, _⟩ := get_one h
      exact ⟨Or.inl (Or.inr ⟨k', ls, by simp, hb, rfl⟩), by rw [seg_size]; exact mem.lt _ (Or.inl ⟨k', ls, hb, rfl⟩)⟩
    · intro r r' row row' b h; simp [get] at h
    · intro k ls r row _ h; simp [get] at h
    · intro k1 k2 l1 l2 h1 h2 _; exact (get_one h1).1.trans (get_one h2).1.symm
    · intro k' ls' h
      obtain ⟨rfl, rfl⟩ := get_one h
      refine ⟨_, e, seg_self hcs, ?_⟩
      simp only []
      exact (RepLs.patch hr hv hj).stays fun l _ => hst l
    · intro l _ r p _ _ h; simp at h
    · intro l _ b _ hs h
      simp only [List.mem_singleton] at h
      subst h
      exact ⟨by simp [get], rfl⟩
  refine ⟨World.seg w (g.bx k) j cs v.cells.toList, by simp only [Instr.storeAt, Instr.sureAddr, Sem.run_bind, Sem.run_pure, Result.andThen_ok, hrun], ?_⟩
  exact R.turn (σ1 := { σ with box := (k, patch ls j xs) :: del [k] σ.box }) hin ⟨by rw [killE_no], (killS_no _).symm⟩ rfl rfl rfl
end
end Go.Tw

namespace Go.Tw
def partsL (σ : St) (k : Nat) : List (Nat × Operand) → Option (Prop × List (List L))
  | [] => some (True, [])
  | (i, x) :: r => match evO σ x with
    | some (c, v) => match v.cells, partsL σ (k + 1) r with
      | some ls, some (c', lss) => some (c = true ∧ i = k ∧ c', ls :: lss)
      | _, _ => none
    | none => none
def takeLss (σ : St) (zs : List Nat) : List (List L) → Option (Prop × Els × List Nat)
  | [] => some (True, [], [])
  | ls :: r => match takeLs σ zs ls, takeLss σ zs r with
    | some (c, ts, rs), some (c', es, rs') => if rs.all fun r => !rs'.contains r then some (c ∧ c', ts :: es, rs ++ rs') else none
    | _, _ => none
def shareLss (σ : St) (zs : List Nat) : List (List L) → Option (Prop × Els × List Nat)
  | [] => some (True, [], [])
  | ls :: r => match shareLs σ zs ls, shareLss σ zs r with
    | some (c, ts, rs), some (c', es, rs') => some (c ∧ c', ts :: es, rs ++ rs')
    | _, _ => none
section
variable {P : Program} {w0 w w' : World} {Al : Blks} {N : Nat} {g : Gh} {σ : St} {a : Act}
inductive Rows (w : World) (g : Gh) (σ : St) : List (List L) → List Value → List Value → Prop
  | nil : Rows w g σ [] [] []
  | cons {ls : List L} {lss : List (List L)} {v : Value} {vs vals : List Value} (h : RepLs w g σ ls v.cells.toList) (t : Rows w g σ lss vs vals) : Rows w g σ (ls :: lss) (v :: vs) (v.cells.toList ++ vals)
theorem partsL_rows (hs : Slots w g σ a) : ∀ (parts : List (Nat × Operand)) (k : Nat) (c : Prop) (lss : List (List L)), partsL σ k parts = some (c, lss) → c →
    (∃ vals, Rows w g σ lss (parts.map fun q => a.eval q.2) vals) ∧ ∀ (i : Nat) q, parts[i]? = some q → q.1 = k + i
  | [], k, c, lss, h, hc => by
    simp only [partsL, Option.some.injEq, Prod.mk.injEq] at h
    obtain ⟨_, rfl⟩ := h
    exact ⟨⟨[], .nil⟩, by simp⟩
  | (i, x) :: r, k, c, lss, h, hc => by
    simp only [partsL] at h
    split at h
    · rename_i c1 v hx
      split at h
      · rename_i ls c' lss' hv hr
        simp only [Option.some.injEq, Prod.mk.injEq] at h
        obtain ⟨rfl, rfl⟩ := h
        obtain ⟨⟨vals, h1⟩, h2⟩ := partsL_rows hs r (k + 1) c' lss' hr hc.2.2
        refine ⟨⟨_, .cons (RepV.cells (evO_rep hs hx hc.1) hv) h1⟩, fun j q hq => ?_⟩
        cases j with
        | zero => simp at hq; subst hq; exact hc.2.1
        | succ j => rw [h2 j q (by simpa using hq)]; omega
      · cases h
    · cases h
theorem takeLs_len {zs : List Nat} : ∀ {ls : List L} {c : Prop} {ts : List T} {rs : List Nat}, takeLs σ zs ls = some (c, ts, rs) → ts.length = zs.length ∧ ls.length = zs.length := by
  induction zs with
  | nil =>
    intro ls c ts rs h
    cases ls with
    | nil => simp only [takeLs, Option.some.injEq, Prod.mk.injEq] at h; obtain ⟨_, rfl, _⟩ := h; exact ⟨rfl, rfl⟩
    | cons => simp [takeLs] at h
  | cons z zs ih =>
    intro ls c ts rs h
    cases ls with
    | nil => simp [takeLs] at h
    | cons l ls =>
      simp only [takeLs] at h
      split at h
      · rename_i h1 h2
        split at h
        · simp only [Option.some.injEq, Prod.mk.injEq] at h
          obtain ⟨_, rfl, _⟩ := h
          have := ih h2
          simp [this.1, this.2]
        · cases h
      · cases h
theorem shareLs_len {zs : List Nat} : ∀ {ls : List L} {c : Prop} {ts : List T} {rs : List Nat}, shareLs σ zs ls = some (c, ts, rs) → ts.length = zs.length ∧ ls.length = zs.length := by
  induction zs with
  | nil =>
    intro ls c ts rs h
    cases ls with
    | nil => simp only [shareLs, Option.some.injEq, Prod.mk.injEq] at h; obtain ⟨_, rfl, _⟩ := h; exact ⟨rfl, rfl⟩
    | cons => simp [shareLs] at h
  | cons z zs ih =>
    intro ls c ts rs h
    cases ls with
    | nil => simp [shareLs] at h
    | cons l ls =>
      simp only [shareLs] at h
      split at h
      · rename_i h1 h2
        simp only [Option.some.injEq, Prod.mk.injEq] at h
        obtain ⟨_, rfl, _⟩ := h
        have := ih h2
        simp [this.1, this.2]
      · cases h
theorem takeLss_rep (m : Mem w g σ) {zs : List Nat} : ∀ {lss : List (List L)} {vs vals : List Value} {c : Prop} {es : Els} {rs : List Nat}, takeLss σ zs lss = some (c, es, rs) → c → Rows w g σ lss vs vals →
    es.length = lss.length ∧ ∃ f, CellsRep w true zs.length es vals f ∧ (∀ i j b, f i j b → RowsFp g σ rs b) ∧ ∀ i j i' j' b, f i j b → f i' j' b → i = i' ∧ j = j'
  | [], vs, vals, c, es, rs, h, hc, hr => by
    simp only [takeLss, Option.some.injEq, Prod.mk.injEq] at h
    obtain ⟨_, rfl, rfl⟩ := h
    cases hr
    exact ⟨rfl, fun _ _ _ => False, ⟨by simp, by simp, by simp⟩, fun _ _ _ h => h.elim, fun _ _ _ _ _ h => h.elim⟩
  | ls :: lss, vs, vals, c, es, rs, h, hc, hr => by
    simp only [takeLss] at h
    split at h
    · rename_i c1 ts rs1 c2 es2 rs2 h1 h2
      split at h
      · rename_i hd
        simp only [Option.some.injEq, Prod.mk.injEq] at h
        obtain ⟨rfl, rfl, rfl⟩ := h
        cases hr with
        | @cons _ _ v vs' vals' hv ht =>
          obtain ⟨tl, _, fn, r1, s1, d1⟩ := takeLs_rep m h1 hc.1 hv
          obtain ⟨el, f, r2, s2, d2⟩ := takeLss_rep m h2 hc.2 ht
          obtain ⟨l1, l2⟩ := takeLs_len h1
          have dis : ∀ r ∈ rs1, r ∉ rs2 := fun r hr => by have := List.all_eq_true.1 hd r hr; simpa using this
          have hone : CellsRep w true zs.length [ts] v.cells.toList fun _ j => fn j := by
            refine ⟨by rw [← hv.length, l2]; simp, by simp [l1], fun i j x c hx hc => ?_⟩
            cases i with
            | zero =>
              simp only [List.getElem?_cons_zero, Option.some.injEq] at hx
              subst hx
              have hj : j < v.cells.toList.length := by rw [← hv.length, l2, ← l1]; exact (List.getElem?_eq_some_iff.1 hc).1
              exact ⟨_, by rw [Nat.zero_mul, Nat.zero_add]; exact List.getElem?_eq_getElem hj, r1 j c _ hc (List.getElem?_eq_getElem hj)⟩
            | succ i => simp at hx
          refine ⟨by simp [el], fun i j => if i < 1 then fn j else f (i - 1) j, ?_, fun i j b hb => ?_, fun i j i' j' b hb hb' => ?_⟩
          · have := hone.append r2
            simpa using this
          · dsimp only at hb
            split at hb
            · obtain ⟨r, row, q1, q2⟩ := s1 j b hb; exact ⟨r, row, by simp [q1], q2⟩
            · obtain ⟨r, row, q1, q2⟩ := s2 _ j b hb; exact ⟨r, row, by simp [q1], q2⟩
          · dsimp only at hb hb'
            split at hb <;> split at hb'
            · exact ⟨by omega, d1 _ _ b hb hb'⟩
            · exact (RowsFp.dis m dis (s1 _ _ hb) (s2 _ _ _ hb')).elim
            · exact (RowsFp.dis m dis (s1 _ _ hb') (s2 _ _ _ hb)).elim
            · have := d2 _ _ _ _ b hb hb'; omega
      · cases h
    · cases h
theorem shareLss_rep (m : Mem w g σ) {zs : List Nat} : ∀ {lss : List (List L)} {vs vals : List Value} {c : Prop} {es : Els} {rs : List Nat}, shareLss σ zs lss = some (c, es, rs) → c → Rows w g σ lss vs vals →
    es.length = lss.length ∧ CellsRep w false zs.length es vals fun _ _ b => RowsFp g σ rs b ∨ ¬ Owned g σ b
  | [], vs, vals, c, es, rs, h, hc, hr => by
    simp only [shareLss, Option.some.injEq, Prod.mk.injEq] at h
    obtain ⟨_, rfl, rfl⟩ := h
    cases hr
    exact ⟨rfl, ⟨by simp, by simp, by simp⟩⟩
  | ls :: lss, vs, vals, c, es, rs, h, hc, hr => by
    simp only [shareLss] at h
    split at h
    · rename_i c1 ts rs1 c2 es2 rs2 h1 h2
      simp only [Option.some.injEq, Prod.mk.injEq] at h
      obtain ⟨rfl, rfl, rfl⟩ := h
      cases hr with
      | @cons _ _ v vs' vals' hv ht =>
        obtain ⟨tl, r1⟩ := shareLs_rep m h1 hc.1 hv
        obtain ⟨el, r2⟩ := shareLss_rep m h2 hc.2 ht
        obtain ⟨l1, l2⟩ := shareLs_len h1
        have hone : CellsRep w false zs.length [ts] v.cells.toList fun _ _ b => RowsFp g σ (rs1 ++ rs2) b ∨ ¬ Owned g σ b := by
          refine ⟨by rw [← hv.length, l2]; simp, by simp [l1], fun i j x c hx hc => ?_⟩
          cases i with
          | zero =>
            simp only [List.getElem?_cons_zero, Option.some.injEq] at hx
            subst hx
            have hj : j < v.cells.toList.length := by rw [← hv.length, l2, ← l1]; exact (List.getElem?_eq_some_iff.1 hc).1
            exact ⟨_, by rw [Nat.zero_mul, Nat.zero_add]; exact List.getElem?_eq_getElem hj, (r1 j c _ hc (List.getElem?_eq_getElem hj)).mono fun b hb => hb.imp (fun ⟨r, row, q1, q2⟩ => ⟨r, row, by simp [q1], q2⟩) id⟩
          | succ i => simp at hx
        refine ⟨by simp [el], ?_⟩
        have := hone.append (r2.mono (f' := fun _ _ b => RowsFp g σ (rs1 ++ rs2) b ∨ ¬ Owned g σ b) fun i j v c h => h.mono fun b hb => hb.imp (fun ⟨r, row, q1, q2⟩ => ⟨r, row, by simp [q1], q2⟩) id)
        exact this.mono fun i j v c h => by simpa using h
    · cases h
theorem fresh_own (R : Rel w0 Al N σ a w g) {z : Nat} {es : Els} {cs : Array Value} {e : TypeId} {rs : List Nat} {f : Nat → Nat → Blks} (hc : CellsRep w true z es cs.toList f) (s1 : ∀ i j b, f i j b → RowsFp g σ rs b)
    (d1 : ∀ i j i' j' b, f i j b → f i' j' b → i = i' ∧ j = j') {nm : Nat} (hnm : get σ.row nm = none) :
    ∃ g', Rel w0 Al N (σ.swap (hits rs) rs nm ⟨.own, z, es⟩) a { w with heap := w.heap.push (.cells cs e) } g' ∧
      RepV { w with heap := w.heap.push (.cells cs e) } g' (σ.swap (hits rs) rs nm ⟨.own, z, es⟩) (.l (.ref nm [] z 0 es.length)) (.slice (some ⟨w.heap.size, 0, none⟩) es.length es.length) := by
  have mem := R.mem
  have hold : ∀ b, b < w.heap.size → (w.heap.push (.cells cs e))[b]? = w.heap[b]? := fun b hb => by rw [Array.getElem?_push, if_neg (by omega)]
  let w' : World := { w with heap := w.heap.push (.cells cs e) }
  let F : Blks := fun b => b = w.heap.size ∨ ∃ i j, f i j b
  have hfl : ∀ i j b, f i j b → b < w.heap.size := fun i j b hb => RowsFp.lt mem (s1 i j b hb)
  have hlen : cs.size = es.length * z := by simpa using hc.len
  have hrep : Rep w' true (.slice (some ⟨w.heap.size, 0, none⟩) es.length es.length) (.sl z es) F :=
    (hc.mono (w' := w') (o' := true) (f' := f) fun i j v c h => h.frame fun b hb => hold b (hfl i j b hb)).close (cs := cs) (e := e) rfl (by simp [w']) (by simp [hlen]) (Nat.le_refl _) (by simp [← hlen, List.take_of_length_le]) (Or.inl rfl)
      (fun i j b hb => Or.inr ⟨i, j, hb⟩) (fun _ i j hb => by have := hfl i j _ hb; simp at this) fun _ => d1
  have hin := swap_in (w' := w') mem (kill := hits rs) (rs := rs) (k := nm) (row := ⟨.own, z, es⟩) (hv := .slice (some ⟨w.heap.size, 0, none⟩) es.length es.length) (F := F) (N := fun _ => False) (Or.inr hnm) (by simp) (fun _ => hrep) (fun h => by cases h)
    (fun b h => h.elim) (fun b hb => ?_) (fun b hb _ => hold b hb) (by simp [w']) (fun l hl r p hr hs hm => ?_)
  · exact ⟨_, R.turn hin ⟨rfl, rfl⟩ rfl rfl rfl, ⟨.own, z, es⟩, es, .slice (some ⟨w.heap.size, 0, none⟩) es.length es.length, by simp [St.swap, get], rfl, by simp only [valAt, Gh.row, upd_self], by simp, View.whole _ _ _ z _⟩
  · rcases hb with rfl | ⟨i, j, hb⟩
    · exact ⟨Or.inr (Nat.le_refl _), by simp [w']⟩
    · exact ⟨Or.inl (s1 i j b hb), by have := hfl i j b hb; simp [w']; omega⟩
  · unfold hits at hl
    rw [hr] at hl
    simp at hl
    exact absurd hm hl
theorem fresh_top (R : Rel w0 Al N σ a w g) {z : Nat} {es : Els} {cs : Array Value} {e : TypeId} (hc : CellsRep w false z es cs.toList fun _ _ b => ¬ Owned g σ b) {nm : Nat} (hnm : get σ.row nm = none) :
    ∃ g', Rel w0 Al N (σ.swap (fun _ => false) [] nm ⟨.top, z, es⟩) a { w with heap := w.heap.push (.cells cs e) } g' ∧
      RepV { w with heap := w.heap.push (.cells cs e) } g' (σ.swap (fun _ => false) [] nm ⟨.top, z, es⟩) (.l (.ref nm [] z 0 es.length)) (.slice (some ⟨w.heap.size, 0, none⟩) es.length es.length) := by
  have mem := R.mem
  have hold : ∀ b, b < w.heap.size → (w.heap.push (.cells cs e))[b]? = w.heap[b]? := fun b hb => by rw [Array.getElem?_push, if_neg (by omega)]
  let w' : World := { w with heap := w.heap.push (.cells cs e) }
  let F : Blks := fun b => b = w.heap.size
  let K : Blks := fun b => b < w.heap.size ∧ ¬ Owned g σ b
  have hlen : cs.size = es.length * z := by simpa using hc.len
  have hrep : RepTop w' (.slice (some ⟨w.heap.size, 0, none⟩) es.length es.length) z es F K :=
    (hc.mono (w' := w') (o' := false) (f' := fun _ _ => K) fun i j v c h => by
      obtain ⟨G, hG, hs, hlt⟩ := h.lt
      exact (hG.frame fun b hb => hold b (hlt b hb)).mono fun b hb => ⟨hlt b hb, hs b hb⟩).closeTop (cs := cs) (e := e) rfl (by simp [w']) (by simp [hlen]) (Nat.le_refl _) (by simp [← hlen, List.take_of_length_le]) rfl
  have hin := swap_in (w' := w') mem (kill := fun _ => false) (rs := []) (k := nm) (row := ⟨.top, z, es⟩) (hv := .slice (some ⟨w.heap.size, 0, none⟩) es.length es.length) (F := F) (N := K) (Or.inr hnm) (by simp) (fun h => by cases h) (fun _ => hrep)
    (fun b hb => ⟨hb.1, Or.inl hb.2, fun h => by have := hb.1; simp [F] at h; omega⟩) (fun b hb => ⟨Or.inr (Nat.le_of_eq hb.symm), by simp [w', F] at hb ⊢; omega⟩) (fun b hb _ => hold b hb) (by simp [w']) (fun l hl r p hr hs hm => by simp at hm)
  exact ⟨_, R.turn hin ⟨by simp [St.swap, killE_no], by simp [St.swap, killS_no, St.freeze]⟩ rfl rfl rfl, ⟨.top, z, es⟩, es, .slice (some ⟨w.heap.size, 0, none⟩) es.length es.length, by simp [St.swap, get], rfl, by simp only [valAt, Gh.row, upd_self], by simp, View.whole _ _ _ z _⟩
end
end Go.Tw

namespace Go.Tw
def eff (P : Program) (σ : St) (nm : Nat) : Op → Option (Prop × St × Option V)
  | .alloc t => some ((tyOf P t).known = true ∧ get σ.box nm = none, { σ with box := (nm, (tyOf P t).ze) :: σ.box }, some (.l (.ptr nm 0)))
  | .box _ x => match evO σ x with
    | some (c, v) => match v.cells with
      | some ls => some (c = true ∧ get σ.box nm = none, { σ with box := (nm, ls) :: σ.box }, some (.l (.ptr nm 0)))
      | none => none
    | none => none
  | .buildSlice t n parts => match (tyOf P t).u with
    | .sl e => match partsL σ 0 parts.toList with
      | some (_, []) => some (n = 0 ∧ (tyOf P e).known = true, σ, some (.l .nil))
      | some (c, lss) => match takeLss σ (tyOf P e).cz lss with
        | some (c', es, rs) => some (c ∧ c' ∧ n = lss.length ∧ (tyOf P e).cz.length = (tyOf P e).sz ∧ 0 < (tyOf P e).sz ∧ (tyOf P e).known = true ∧ n * (tyOf P e).sz ≤ 16777216 ∧ get σ.row nm = none,
            σ.swap (hits rs) rs nm ⟨.own, (tyOf P e).sz, es⟩, some (.l (.ref nm [] (tyOf P e).sz 0 es.length)))
        | none => match shareLss σ (tyOf P e).cz lss with
          | some (c', es, rs) => some (c ∧ c' ∧ n = lss.length ∧ (tyOf P e).cz.length = (tyOf P e).sz ∧ 0 < (tyOf P e).sz ∧ (tyOf P e).known = true ∧ n * (tyOf P e).sz ≤ 16777216 ∧ get σ.row nm = none,
              (σ.freeze rs).swap (fun _ => false) [] nm ⟨.top, (tyOf P e).sz, es⟩, some (.l (.ref nm [] (tyOf P e).sz 0 es.length)))
          | none => none
      | none => none
    | _ => none
  | .makeSlice t l c => match (tyOf P t).u, evO σ l, evO σ c with
    | .sl e, some (c1, .l (.t (.int _ n))), some (c2, .l (.t (.int _ n'))) => match takeLs σ (tyOf P e).cz (tyOf P e).ze with
      | some (q, ts, []) => some (q ∧ c1 = true ∧ c2 = true ∧ n = n' ∧ (0 ≤ n ∧ n ≤ 9223372036854775807 ∧ n * (tyOf P e).by_ ≤ 281474976710656) ∧ (tyOf P e).known = true ∧ (tyOf P e).cz.length = (tyOf P e).sz ∧ 0 < (tyOf P e).sz ∧ get σ.row nm = none,
          σ.swap (fun _ => false) [] nm ⟨.own, (tyOf P e).sz, List.replicate n.toNat ts⟩, some (.l (.ref nm [] (tyOf P e).sz 0 n.toNat)))
      | _ => none
    | _, _, _ => none
  | .store t ad x => match evO σ ad, evO σ x with
    | some (c1, .l (.ptr k j)), some (c2, v) => match get σ.box k, v.cells with
      | some ls, some xs => some (c1 = true ∧ c2 = true ∧ xs.length = (tyOf P t).sz ∧ (tyOf P t).known = true ∧ j + xs.length ≤ ls.length, { σ with box := (k, patch ls j xs) :: del [k] σ.box }, none)
      | _, _ => none
    | some (c1, .l (.ept r p i j d)), some (c2, v) => match get σ.row r, v.cells with
      | some row, some xs => match row.t.at? p with
        | some (.sl z es) => match row.pm, p with
            | .own, p => match takeLs σ (tyOf P t).cz xs with
              | some (c, ts, rs) => some (c1 = true ∧ c2 = true ∧ c ∧ xs.length = (tyOf P t).sz ∧ (tyOf P t).known = true ∧ j + ts.length ≤ (es.getD i (tyOf P d).dz).length ∧ r ∉ rs, σ.swap (killSt rs r p) (r :: rs) r (row.store p z es i j (es.getD i (tyOf P d).dz) ts), none)
              | none => none
            | .top, [] => match shareLs σ (tyOf P t).cz xs with
              | some (c, ts, rs) => some (c1 = true ∧ c2 = true ∧ c ∧ xs.length = (tyOf P t).sz ∧ (tyOf P t).known = true ∧ j + ts.length ≤ (es.getD i (tyOf P d).dz).length ∧ r ∉ rs,
                  (σ.freeze rs).swap (killSt [] r []) [r] r (row.store [] row.z row.es i j (es.getD i (tyOf P d).dz) ts), none)
              | none => none
            | _, _ => none
        | _ => none
      | _, _ => none
    | _, _ => none
  | .call { callee := .builtin .append, args, argTypes } => match args.toList, argTypes.toList with
    | [s, x], [t, t'] => match (tyOf P t).u, evO σ s, evO σ x with
      | .sl e, some (c1, vs), some (c2, vx) => match appT σ (tyOf P e).sz vs, appS σ (tyOf P e).sz vx with
        | some (c3, rs, pm, es), some (c4, who, els) => match (tyOf P e).cz.all (· == 0), who, pm with
          | true, _, .own => some (t' = t ∧ c1 = true ∧ c2 = true ∧ c3 ∧ c4 ∧ Flat els ∧ (es.length + els.length) * (tyOf P e).by_ ≤ 140737488355328 ∧ 0 < (tyOf P e).by_ ∧ (tyOf P e).known = true ∧ get σ.row nm = none,
              σ.swap (hits (rs ++ [])) (rs ++ []) nm ⟨.own, (tyOf P e).sz, es ++ els⟩, some (.l (.ref nm [] (tyOf P e).sz 0 (es.length + els.length))))
          | true, _, pm => some (t' = t ∧ c1 = true ∧ c2 = true ∧ c3 ∧ c4 ∧ Flat els ∧ (es.length + els.length) * (tyOf P e).by_ ≤ 140737488355328 ∧ 0 < (tyOf P e).by_ ∧ (tyOf P e).known = true ∧ get σ.row nm = none ∧ pm ≠ .ro,
              σ.swap (hits rs) rs nm ⟨.top, (tyOf P e).sz, es ++ els⟩, some (.l (.ref nm [] (tyOf P e).sz 0 (es.length + els.length))))
          | false, some (r2, []), .own => match get σ.row r2 with
            | some row2 => match row2.pm with
              | .own => some (t' = t ∧ c1 = true ∧ c2 = true ∧ c3 ∧ c4 ∧ r2 ∉ rs ∧ (es.length + els.length) * (tyOf P e).by_ ≤ 140737488355328 ∧ 0 < (tyOf P e).by_ ∧ (tyOf P e).known = true ∧ get σ.row nm = none,
                  σ.swap (hits (rs ++ [r2])) (rs ++ [r2]) nm ⟨.own, (tyOf P e).sz, es ++ els⟩, some (.l (.ref nm [] (tyOf P e).sz 0 (es.length + els.length))))
              | _ => some (t' = t ∧ c1 = true ∧ c2 = true ∧ c3 ∧ c4 ∧ r2 ∉ rs ∧ (es.length + els.length) * (tyOf P e).by_ ≤ 140737488355328 ∧ 0 < (tyOf P e).by_ ∧ (tyOf P e).known = true ∧ get σ.row nm = none,
                  (σ.freeze [r2]).swap (hits rs) rs nm ⟨.top, (tyOf P e).sz, es ++ els⟩, some (.l (.ref nm [] (tyOf P e).sz 0 (es.length + els.length))))
            | none => none
          | false, some (r2, _), pm => some (t' = t ∧ c1 = true ∧ c2 = true ∧ c3 ∧ c4 ∧ r2 ∉ rs ∧ (es.length + els.length) * (tyOf P e).by_ ≤ 140737488355328 ∧ 0 < (tyOf P e).by_ ∧ (tyOf P e).known = true ∧ get σ.row nm = none ∧ pm ≠ .ro,
                  (σ.freeze [r2]).swap (hits rs) rs nm ⟨.top, (tyOf P e).sz, es ++ els⟩, some (.l (.ref nm [] (tyOf P e).sz 0 (es.length + els.length))))
          | false, none, .own => some (t' = t ∧ c1 = true ∧ c2 = true ∧ c3 ∧ c4 ∧ (es.length + els.length) * (tyOf P e).by_ ≤ 140737488355328 ∧ 0 < (tyOf P e).by_ ∧ (tyOf P e).known = true ∧ get σ.row nm = none,
              σ.swap (hits (rs ++ [])) (rs ++ []) nm ⟨.own, (tyOf P e).sz, es ++ els⟩, some (.l (.ref nm [] (tyOf P e).sz 0 (es.length + els.length))))
          | false, none, _ => none
        | _, _ => none
      | _, _, _ => none
    | _, _ => none
  | .call { callee := .builtin .clear, args, argTypes } => match args.toList, argTypes.toList with
    | [x], [t] => match (tyOf P t).u, evO σ x with
      | .sl e, some (c1, .l (.ref r p z off len)) => match get σ.row r with
        | some row => match row.t.at? p, takeLs σ (tyOf P e).cz (tyOf P e).ze with
          | some (.sl z' es), some (q, ts, []) => some (c1 = true ∧ row.pm = .own ∧ z' = z ∧ q ∧ z = (tyOf P e).sz ∧ (tyOf P e).cz.length = (tyOf P e).sz ∧ (tyOf P e).known = true ∧ off + len ≤ es.length,
              σ.swap (killSt [] r p) [r] r { row with es := (row.t.put p (.sl z (es.take off ++ List.replicate len ts ++ es.drop (off + len)))).els }, some (.tup []))
          | _, _ => none
        | none => none
      | _, _ => none
    | _, _ => none
  | _ => none
section
variable {P : Program} {w0 w w' : World} {Al : Blks} {N : Nat} {g : Gh} {σ : St} {a : Act}
theorem known_info {t : TypeId} (h : (tyOf P t).known = true) : (P.info? t).isSome := by
  obtain ⟨i, _, hi, _⟩ := info_of_known h
  simp [hi]
theorem ze_rep {t : TypeId} (h : (tyOf P t).known = true) : ∃ i z, P.info? t = some i ∧ i.zero = some z ∧ RepLs w g σ (tyOf P t).ze z.cells.toList ∧ z.cells.size = (tyOf P t).sz := by
  obtain ⟨i, z, hi, hz, hze, hsz, _, hone, hs⟩ := info_of_known' h
  refine ⟨i, z, hi, hz, ?_, by rw [hs, hsz]⟩
  rw [hze]
  refine .of_nth (by simp) fun j l v hl hv => ?_
  simp only [List.getElem?_map, hv, Option.map_some, Option.some.injEq] at hl
  subst hl
  exact zeroLeaf_rep v (hone v (List.mem_of_getElem? hv))
theorem rel_newBox (R : Rel w0 Al N σ a w g) {nm : Nat} (h : get σ.box nm = none) {cs : Array Value} {e : TypeId} {ls : List L} (hr : RepLs w g σ ls cs.toList) :
    ∃ g', Rel w0 Al N { σ with box := (nm, ls) :: σ.box } a { w with heap := w.heap.push (.cells cs e) } g' ∧ RepV { w with heap := w.heap.push (.cells cs e) } g' { σ with box := (nm, ls) :: σ.box } (.l (.ptr nm 0)) (.pointer (some ⟨w.heap.size, 0, none⟩)) := by
  have hin := newBox_in R.mem h (e := e) hr
  refine ⟨_, R.turn (σ1 := { σ with box := (nm, ls) :: σ.box }) hin ⟨by rw [killE_no], (killS_no _).symm⟩ rfl rfl rfl, ?_, ?_⟩
  · simp [get]
  · simp
theorem rel_push (R : Rel w0 Al N σ a w g) (o : Obj) : Rel w0 Al N σ a { w with heap := w.heap.push o } g := by
  have hold : ∀ b, b < w.heap.size → (w.heap.push o)[b]? = w.heap[b]? := fun b hb => by rw [Array.getElem?_push, if_neg (by omega)]
  have hn : NewIn w { w with heap := w.heap.push o } g g σ { σ with env := killE (fun _ => false) σ.env } [] [] [] [] (fun _ => false) := by
    refine ⟨by simp [del_nil], by simp [del_nil, killB_no], fun b hb _ => hold b hb, by simp, fun _ _ _ => ⟨rfl, rfl⟩, fun _ _ _ => rfl, ?_, ?_, ?_, ?_, ?_, ?_, ?_, ?_, ?_, ?_, ?_, ?_, ?_⟩ <;> intros <;> simp_all [get]
  have := R.turn hn ⟨rfl, (killS_no _).symm⟩ rfl rfl rfl
  rwa [killE_no] at this
theorem fill_seq (size : Nat) : ∀ (vs : List Value) (k : Nat) (cells : Array Value), (∀ v ∈ vs, v.cells.size = size) → (k + vs.length) * size ≤ cells.size →
    ∃ cs', Instr.fill (fun i => some (i * size, size)) cells (vs.zipIdx k |>.map fun q => (q.2, q.1)) = some cs' ∧
      cs'.toList = cells.toList.take (k * size) ++ vs.flatMap (fun v => v.cells.toList) ++ cells.toList.drop ((k + vs.length) * size)
  | [], k, cells, _, _ => ⟨cells, rfl, by simp⟩
  | v :: vs, k, cells, hv, hs => by
    have hvs : v.cells.size = size := hv v (by simp)
    have hk1 : (k + 1 + vs.length) * size ≤ cells.size := by simpa [Nat.add_assoc, Nat.add_comm 1] using hs
    have hk2 : (k + 1) * size ≤ cells.size := Nat.le_trans (Nat.mul_le_mul_right size (by omega)) hk1
    have hk3 : (k + 1) * size = k * size + size := by rw [Nat.add_mul, Nat.one_mul]
    have e := fold_set v.cells.toList 0 (k * size) cells (by simp; omega)
    simp only [Nat.add_zero] at e
    obtain ⟨cs', h1, h2⟩ := fill_seq size vs (k + 1) (v.cells.toList.zipIdx.foldl (fun (cs : Array Value) (p : Value × Nat) => cs.setIfInBounds (k * size + p.2) p.1) cells) (fun x hx => hv x (by simp [hx])) (by
      have : (v.cells.toList.zipIdx.foldl (fun (cs : Array Value) (p : Value × Nat) => cs.setIfInBounds (k * size + p.2) p.1) cells).size = cells.size := by
        rw [← Array.length_toList, e]; simp; omega
      rw [this]; exact hk1)
    refine ⟨cs', ?_, ?_⟩
    · simp only [List.zipIdx_cons, List.map_cons, Instr.fill]
      rw [if_neg (by simp; omega), ← Array.foldl_toList, Array.toList_zipIdx]
      exact h1
    · rw [h2, e]
      have l1 : (cells.toList.take (k * size)).length = k * size := by simp; omega
      have l2 : v.cells.toList.length = size := by simpa using hvs
      rw [List.flatMap_cons]
      have t1 : (cells.toList.take (k * size) ++ v.cells.toList ++ cells.toList.drop (k * size + v.cells.toList.length)).take ((k + 1) * size) = cells.toList.take (k * size) ++ v.cells.toList := by
        rw [List.take_append_of_le_length (by simp [l1]; omega)]
        exact List.take_of_length_le (by simp [l1]; omega)
      have t2 : (cells.toList.take (k * size) ++ v.cells.toList ++ cells.toList.drop (k * size + v.cells.toList.length)).drop ((k + 1 + vs.length) * size) = cells.toList.drop ((k + (vs.length + 1)) * size) := by
        have hge : (k + 1) * size ≤ (k + 1 + vs.length) * size := Nat.mul_le_mul_right size (by omega)
        rw [List.drop_append, List.drop_of_length_le (by simp [l1]; omega), List.nil_append, List.drop_drop]
        congr 1
        simp only [List.length_append, l1, l2]
        have : k + (vs.length + 1) = k + 1 + vs.length := by omega
        rw [this]
        omega
      rw [t1, t2]
      simp
theorem Rows.vals {lss : List (List L)} {vs vals : List Value} (h : Rows w g σ lss vs vals) : vals = vs.flatMap (fun v => v.cells.toList) ∧ vs.length = lss.length := by
  induction h with
  | nil => simp
  | cons h t ih => simp [ih.1, ih.2]
theorem Rows.sizes {lss : List (List L)} {vs vals : List Value} (h : Rows w g σ lss vs vals) {n : Nat} (hn : ∀ ls ∈ lss, ls.length = n) : ∀ v ∈ vs, v.cells.size = n := by
  induction h with
  | nil => simp
  | cons h t ih =>
    intro v hv
    rcases List.mem_cons.1 hv with rfl | hv
    · rw [← hn _ (List.mem_cons_self ..), h.length]; simp
    · exact ih (fun ls hl => hn ls (by simp [hl])) v hv
theorem parts_zip (parts : List (Nat × Operand)) (h : ∀ (i : Nat) q, parts[i]? = some q → q.1 = 0 + i) : parts.map (fun q => (q.1, a.eval q.2)) = ((parts.map fun q => a.eval q.2).zipIdx 0).map fun q => (q.2, q.1) := by
  apply List.ext_getElem?
  intro i
  simp only [List.getElem?_map, List.getElem?_zipIdx]
  cases hp : parts[i]? with
  | none => rfl
  | some q => simp [h i q hp]
theorem build_cells {t e : TypeId} (hu : (tyOf P t).u = .sl e) (hk : (tyOf P e).known = true) {n : Nat} {parts : Array (Nat × Operand)} {lss : List (List L)} {vals : List Value}
    (hr : Rows w g σ lss (parts.toList.map fun q => a.eval q.2) vals) (hi : ∀ (i : Nat) q, parts.toList[i]? = some q → q.1 = 0 + i) (hn : n = lss.length) (hl : ∀ ls ∈ lss, ls.length = (tyOf P e).sz) (hb : n * (tyOf P e).sz ≤ 16777216) :
    ∃ cs : Array Value, cs.toList = vals ∧ (Instr.buildSlice t n (parts.map fun q => (q.1, a.eval q.2))).run P w = .ok (.slice (some ⟨w.heap.size, 0, none⟩) n n) { w with heap := w.heap.push (.cells cs e) } := by
  obtain ⟨i, z, hi', hz, hze, hsz, _, hone, hzs⟩ := info_of_known' hk
  obtain ⟨hv1, hv2⟩ := hr.vals
  have hlen : (parts.toList.map fun q => a.eval q.2).length = n := by rw [hv2, hn]
  have hsizes := hr.sizes hl
  have main : ∀ zero : Array Value, ∃ cs' : Array Value, cs'.toList = vals ∧ Instr.fill (fun i => some (i * (tyOf P e).sz, (tyOf P e).sz)) ((Array.range (n * (tyOf P e).sz)).map fun x => zero[x % zero.size]!) (parts.map fun q => (q.1, a.eval q.2)).toList = some cs' := by
    intro zero
    obtain ⟨cs', h1, h2⟩ := fill_seq (tyOf P e).sz (parts.toList.map fun q => a.eval q.2) 0 ((Array.range (n * (tyOf P e).sz)).map fun x => zero[x % zero.size]!) hsizes (by rw [hlen]; simp)
    refine ⟨cs', ?_, ?_⟩
    · rw [h2, ← hv1, hlen]
      simp [List.drop_of_length_le]
    · rw [Array.toList_map, parts_zip parts.toList hi]
      exact h1
  have hnb : ¬ n * (tyOf P e).sz > 2 ^ 24 := by omega
  by_cases h0 : n * (tyOf P e).sz = 0
  · obtain ⟨cs', q1, q2⟩ := main #[]
    refine ⟨cs', q1, ?_⟩
    simp only [Instr.buildSlice, Sem.run_bind, run_underlying (u_sl hu), Result.andThen_ok, run_sizeOf' hk, hnb, if_false]
    rw [if_pos h0]
    simp only [Sem.run_bind, Sem.run_pure, Result.andThen_ok, q2]
    rfl
  · obtain ⟨cs', q1, q2⟩ := main z.cells
    refine ⟨cs', q1, ?_⟩
    simp only [Instr.buildSlice, Sem.run_bind, run_underlying (u_sl hu), Result.andThen_ok, run_sizeOf' hk, hnb, if_false]
    rw [if_neg h0]
    simp only [Sem.run_bind, zeroValue, typeInfo, run_program, Result.andThen_ok, hi', hz, Sem.run_pure, q2]
    rfl
end
end Go.Tw

namespace Go.Tw
section
variable {P : Program} {w0 w w' : World} {Al : Blks} {N : Nat} {g : Gh} {σ : St} {a : Act}
theorem kept_push (w : World) (o : Obj) : Kept w { w with heap := w.heap.push o } := fun b hb => by simp only; rw [Array.getElem?_push, if_neg (by omega)]
def Op.grows : Op → Bool
  | .alloc _ | .box .. | .makeSlice .. | .buildSlice .. => true
  | _ => false
def Leaves (w : World) (k : Bool) (w0 : World) (Al : Blks) (N : Nat) (σ : St) (a : Act) (rv : Option V) (r : Result Next) : Prop :=
  ∃ n w' g', r = .ok n w' ∧ (k = true → Kept w w') ∧ Rel w0 Al N σ a w' g' ∧ match rv with
    | some v => ∃ x, n = .value x ∧ RepV w' g' σ v x
    | none => n = .skip
theorem madeCells_rep {z : Nat} {ts : List T} {zc : Array Value} (n : Nat) (hz : zc.size = z) (hl : ts.length = z) (hr : ∀ (j : Nat) (t : T) (v : Value), ts[j]? = some t → zc.toList[j]? = some v → Rep w true v t fun _ => False) :
    CellsRep w true z (List.replicate n ts) (madeCells zc (n * z)).toList fun _ _ _ => False := by
  refine ⟨by simp [madeCells], fun x hx => by rw [List.eq_of_mem_replicate hx]; exact hl, fun i j x c hx hc => ?_⟩
  have hi : i < n := by simpa using (List.getElem?_eq_some_iff.1 hx).1
  have hx' : x = ts := List.eq_of_mem_replicate (List.mem_of_getElem? hx)
  subst hx'
  have hj : j < z := hl ▸ (List.getElem?_eq_some_iff.1 hc).1
  have hlt := cell_lt hi hj
  have hmod : (i * z + j) % z = j := by rw [Nat.mul_comm, Nat.mul_add_mod]; exact Nat.mod_eq_of_lt hj
  have hjz : j < zc.size := by omega
  refine ⟨zc[j], ?_, hr j c _ hc (by simp [hjz])⟩
  simp only [madeCells, Array.toList_map, Array.toList_range, List.getElem?_map, List.getElem?_range hlt, Option.map_some, hz, hmod]
  simp [hjz]
theorem eff_alloc (R : Rel w0 Al N σ a w g) {nm : Nat} {t : TypeId} (hk : (tyOf P t).known = true) (hnm : get σ.box nm = none) :
    Leaves w true w0 Al N { σ with box := (nm, (tyOf P t).ze) :: σ.box } a (some (.l (.ptr nm 0))) (((do pure (Next.value (← Instr.alloc t true (.tuple #[])))) : Sem Next).run P w) := by
  obtain ⟨i, z, hi, hz, hr, hs⟩ := ze_rep (w := w) (g := g) (σ := σ) hk
  obtain ⟨g', h1, h2⟩ := rel_newBox R hnm (e := t) hr
  refine ⟨_, _, g', ?_, fun _ => kept_push w _, h1, _, rfl, h2⟩
  simp only [Instr.alloc, Sem.run_bind, zeroValue, typeInfo, run_program, Result.andThen_ok, hi, hz, Sem.run_pure, newVar, newRow, run_newObj]
theorem eff_box (R : Rel w0 Al N σ a w g) {nm : Nat} {t : TypeId} {x : Operand} {v : V} {ls : List L} {c : Bool} (hx : evO σ x = some (c, v)) (hc : c = true) (hv : v.cells = some ls) (hnm : get σ.box nm = none) :
    Leaves w true w0 Al N { σ with box := (nm, ls) :: σ.box } a (some (.l (.ptr nm 0))) (((do pure (Next.value (← Instr.box t (a.eval x)))) : Sem Next).run P w) := by
  obtain ⟨g', h1, h2⟩ := rel_newBox R hnm (e := t) (cs := (a.eval x).cells) (RepV.cells (evO_rep R.slots hx hc) hv)
  refine ⟨_, _, g', ?_, fun _ => kept_push w _, h1, _, rfl, h2⟩
  simp only [Instr.box, Sem.run_bind, Result.andThen_ok, Sem.run_pure, newVar, newRow, run_newObj]
theorem eff_make (R : Rel w0 Al N σ a w g) {nm : Nat} {t e : TypeId} (hu : (tyOf P t).u = .sl e) {l c : Operand} {c1 c2 : Bool} {k1 k2 : IntKind} {n n' : Int} (hl : evO σ l = some (c1, .l (.t (.int k1 n)))) (hc : evO σ c = some (c2, .l (.t (.int k2 n'))))
    {q : Prop} {ts : List T} (hts : takeLs σ (tyOf P e).cz (tyOf P e).ze = some (q, ts, [])) (hq : q) (h1 : c1 = true) (h2 : c2 = true) (hn : n = n') (hb : 0 ≤ n ∧ n ≤ 9223372036854775807 ∧ n * (tyOf P e).by_ ≤ 281474976710656)
    (hk : (tyOf P e).known = true) (hz : (tyOf P e).cz.length = (tyOf P e).sz) (hnm : get σ.row nm = none) :
    Leaves w true w0 Al N (σ.swap (fun _ => false) [] nm ⟨.own, (tyOf P e).sz, List.replicate n.toNat ts⟩) a (some (.l (.ref nm [] (tyOf P e).sz 0 n.toNat))) (((do pure (Next.value (← Instr.makeSlice t (a.eval l) (a.eval c)))) : Sem Next).run P w) := by
  subst hn
  obtain ⟨i, z, hi, hzv, hze, hsz, hby, _, hzs⟩ := info_of_known' hk
  obtain ⟨i', z', hi', hzv', hr, hs⟩ := ze_rep (w := w) (g := g) (σ := σ) hk
  rw [hi] at hi'
  cases hi'
  rw [hzv] at hzv'
  cases hzv'
  have e1 := rep_int (g := g) (σ := σ) (evO_rep R.slots hl h1)
  have e2 := rep_int (g := g) (σ := σ) (evO_rep R.slots hc h2)
  have hrun := run_make (P := P) w t e i z (u_sl hu) hi hzv k1 k2 n n hb.1 (Int.le_refl n) (by rw [hby] at hb; rw [Int.mul_comm]; exact hb.2.2) hb.2.1
  obtain ⟨tl, _, f, r1, s1, d1⟩ := takeLs_rep R.mem hts hq hr
  obtain ⟨t1, t2⟩ := takeLs_len hts
  have hcells := madeCells_rep (w := w) (ts := ts) (zc := z.cells) n.toNat hs (by rw [t1, hz]) (fun j t v h1 h2 => by
    have := r1 j t v h1 h2
    exact this.mono fun b hb => by obtain ⟨r, row, hr, _⟩ := s1 j b hb; simp at hr)
  obtain ⟨g', h3, h4⟩ := fresh_own R (e := e) (rs := []) hcells (fun _ _ _ h => h.elim) (fun _ _ _ _ _ h => h.elim) hnm
  have hkill : hits [] = fun _ => false := by funext l; unfold hits; cases l.rowOf <;> simp
  rw [hkill] at h3 h4
  rw [List.length_replicate] at h4
  refine ⟨_, _, g', ?_, fun _ => kept_push w _, h3, _, rfl, h4⟩
  rw [← hsz] at hrun
  simp only [Sem.run_bind, e1, e2, hrun, Result.andThen_ok, Sem.run_pure]
  rfl
theorem eff_lit_nil (R : Rel w0 Al N σ a w g) {t e : TypeId} (hu : (tyOf P t).u = .sl e) (hk : (tyOf P e).known = true) {parts : Array (Nat × Operand)} {c : Prop} (hp : partsL σ 0 parts.toList = some (c, [])) :
    Leaves w true w0 Al N σ a (some (.l .nil)) (((do pure (Next.value (← Instr.buildSlice t 0 (parts.map fun q => (q.1, a.eval q.2))))) : Sem Next).run P w) := by
  have hpe : parts = #[] := by
    cases parts with
    | mk l =>
      cases l with
      | nil => rfl
      | cons q r =>
        simp only [partsL] at hp
        split at hp
        · split at hp <;> simp at hp
        · cases hp
  subst hpe
  obtain ⟨cs, q1, q2⟩ := build_cells (P := P) (w := w) (g := g) (σ := σ) (a := a) hu hk (n := 0) (parts := #[]) (lss := []) (vals := []) .nil (by simp) rfl (by simp) (by omega)
  refine ⟨_, _, g, ?_, fun _ => kept_push w _, rel_push R (.cells cs e), _, rfl, some ⟨w.heap.size, 0, none⟩, rfl⟩
  simp only [Sem.run_bind, q2, Result.andThen_ok, Sem.run_pure]
theorem eff_lit_own (R : Rel w0 Al N σ a w g) {nm : Nat} {t e : TypeId} (hu : (tyOf P t).u = .sl e) (hk : (tyOf P e).known = true) {n : Nat} {parts : Array (Nat × Operand)} {c c' : Prop} {lss : List (List L)} {es : Els} {rs : List Nat}
    (hp : partsL σ 0 parts.toList = some (c, lss)) (hc : c) (ht : takeLss σ (tyOf P e).cz lss = some (c', es, rs)) (hc' : c') (hn : n = lss.length) (hz : (tyOf P e).cz.length = (tyOf P e).sz) (hb : n * (tyOf P e).sz ≤ 16777216) (hnm : get σ.row nm = none) :
    Leaves w true w0 Al N (σ.swap (hits rs) rs nm ⟨.own, (tyOf P e).sz, es⟩) a (some (.l (.ref nm [] (tyOf P e).sz 0 es.length))) (((do pure (Next.value (← Instr.buildSlice t n (parts.map fun q => (q.1, a.eval q.2))))) : Sem Next).run P w) := by
  obtain ⟨⟨vals, hr⟩, hi⟩ := partsL_rows R.slots parts.toList 0 c lss hp hc
  obtain ⟨el, f, h1, h2, h3⟩ := takeLss_rep R.mem ht hc' hr
  have hl : ∀ ls ∈ lss, ls.length = (tyOf P e).sz := by
    intro ls hls
    have : ∀ (lss : List (List L)) (c : Prop) (es : Els) (rs : List Nat), takeLss σ (tyOf P e).cz lss = some (c, es, rs) → ∀ ls ∈ lss, ls.length = (tyOf P e).cz.length := by
      intro lss
      induction lss with
      | nil => simp
      | cons x xs ih =>
        intro c es rs h ls hls
        simp only [takeLss] at h
        split at h
        · rename_i h1 h2
          rcases List.mem_cons.1 hls with rfl | hls
          · exact (takeLs_len h1).2
          · exact ih _ _ _ h2 ls hls
        · cases h
    rw [this lss _ _ _ ht ls hls, hz]
  obtain ⟨cs, q1, q2⟩ := build_cells (P := P) hu hk hr hi hn hl hb
  rw [hz, ← q1] at h1
  obtain ⟨g', h4, h5⟩ := fresh_own R (e := e) (rs := rs) h1 h2 h3 hnm
  have hes : es.length = n := by rw [el, hn]
  refine ⟨_, _, g', ?_, fun _ => kept_push w _, h4, _, rfl, h5⟩
  simp only [Sem.run_bind, q2, Result.andThen_ok, Sem.run_pure, hes]
theorem RowsFp.ro {rs : List Nat} {b : Nat} (m : Mem w g σ) (h : RowsFp g σ rs b ∨ ¬ Owned g σ b) : ¬ Owned g (σ.freeze rs) b := by
  intro ho
  rcases ho with ⟨k', ls, h1, h2⟩ | ⟨r, row', h1, h2, h3⟩
  · rcases h with ⟨r, row, _, h4, h5, h6⟩ | h
    · subst h2; exact m.br k' ls r row h1 h4 h5 h6
    · exact h (Or.inl ⟨k', ls, h1, h2⟩)
  · simp only [St.freeze, get_append, get_frz, get_del] at h1
    by_cases hr : r ∈ rs
    · simp only [hr, if_true] at h1
      cases hg : get σ.row r with
      | none => simp [hg] at h1
      | some row0 =>
        simp only [hg, Option.map_some, Option.some.injEq] at h1
        subst h1
        exact absurd rfl h2
    · simp only [hr, if_false] at h1
      rcases h with ⟨r2, row2, h4, h5, h6, h7⟩ | h
      · exact hr (m.rr r r2 row' row2 b h1 h5 h2 h6 h3 h7 ▸ h4)
      · exact h (Or.inr ⟨r, row', h1, h2, h3⟩)
theorem rel_freeze (R : Rel w0 Al N σ a w g) (rs : List Nat) : Rel w0 Al N (σ.freeze rs) a w g := by
  have := R.turn (freeze_in R.mem rs) (σ1 := σ.freeze rs) ⟨by rw [killE_no]; rfl, (killS_no _).symm⟩ rfl rfl rfl
  exact this
theorem freeze_none {rs : List Nat} {k : Nat} (h : get σ.row k = none) : get (σ.freeze rs).row k = none := by
  simp [St.freeze, get_append, get_frz, get_del, h]
theorem eff_lit_top (R : Rel w0 Al N σ a w g) {nm : Nat} {t e : TypeId} (hu : (tyOf P t).u = .sl e) (hk : (tyOf P e).known = true) {n : Nat} {parts : Array (Nat × Operand)} {c c' : Prop} {lss : List (List L)} {es : Els} {rs : List Nat}
    (hp : partsL σ 0 parts.toList = some (c, lss)) (hc : c) (ht : shareLss σ (tyOf P e).cz lss = some (c', es, rs)) (hc' : c') (hn : n = lss.length) (hz : (tyOf P e).cz.length = (tyOf P e).sz) (hb : n * (tyOf P e).sz ≤ 16777216) (hnm : get σ.row nm = none) :
    Leaves w true w0 Al N ((σ.freeze rs).swap (fun _ => false) [] nm ⟨.top, (tyOf P e).sz, es⟩) a (some (.l (.ref nm [] (tyOf P e).sz 0 es.length))) (((do pure (Next.value (← Instr.buildSlice t n (parts.map fun q => (q.1, a.eval q.2))))) : Sem Next).run P w) := by
  obtain ⟨⟨vals, hr⟩, hi⟩ := partsL_rows R.slots parts.toList 0 c lss hp hc
  obtain ⟨el, h1⟩ := shareLss_rep R.mem ht hc' hr
  have hl : ∀ ls ∈ lss, ls.length = (tyOf P e).sz := by
    intro ls hls
    have : ∀ (lss : List (List L)) (c : Prop) (es : Els) (rs : List Nat), shareLss σ (tyOf P e).cz lss = some (c, es, rs) → ∀ ls ∈ lss, ls.length = (tyOf P e).cz.length := by
      intro lss
      induction lss with
      | nil => simp
      | cons x xs ih =>
        intro c es rs h ls hls
        simp only [shareLss] at h
        split at h
        · rename_i h1 h2
          rcases List.mem_cons.1 hls with rfl | hls
          · exact (shareLs_len h1).2
          · exact ih _ _ _ h2 ls hls
        · cases h
    rw [this lss _ _ _ ht ls hls, hz]
  obtain ⟨cs, q1, q2⟩ := build_cells (P := P) hu hk hr hi hn hl hb
  rw [hz, ← q1] at h1
  obtain ⟨g', h4, h5⟩ := fresh_top (rel_freeze R rs) (e := e) (h1.mono fun i j v c h => h.mono fun b hb => RowsFp.ro R.mem hb) (freeze_none hnm)
  have hes : es.length = n := by rw [el, hn]
  refine ⟨_, _, g', ?_, fun _ => kept_push w _, h4, _, rfl, h5⟩
  simp only [Sem.run_bind, q2, Result.andThen_ok, Sem.run_pure, hes]
end
end Go.Tw

namespace Go.Tw
section
variable {P : Program} {w0 w w' : World} {Al : Blks} {N : Nat} {g : Gh} {σ : St} {a : Act}
theorem run_append_op {t : TypeId} {s x : Operand} {dst : Option Tmp} {type : TypeId} {pos : String} {after : Array Edge} {guard : Option (Nat × Bool)} :
    (execOp a.eval { dst, op := .call { callee := .builtin .append, args := #[s, x], argTypes := #[t, t] }, type, pos, after, guard }).run P w =
      ((Builtin.append_ #[t, t] type #[a.eval s, a.eval x]).run P w).andThen fun v w' => .ok (.value v) w' := by
  simp only [execOp, resolve, invoke, builtin, Sem.run_bind, Sem.run_pure, Result.andThen_ok]
  rw [show Array.map a.eval #[s, x] = #[a.eval s, a.eval x] by simp]
theorem Flat.cells {o : Bool} {z : Nat} {els : Els} {vals : List Value} {f : Nat → Nat → Blks} (h : CellsRep w o z els vals f) (hf : Flat els) (o' : Bool) (f' : Nat → Nat → Blks) : CellsRep w o' z els vals f' := by
  refine ⟨h.len, h.each, fun i j x c hx hc => ?_⟩
  obtain ⟨v, hv, hr⟩ := h.rep i j x c hx hc
  exact ⟨v, hv, hr.flat (hf x (List.mem_of_getElem? hx) c (List.mem_of_getElem? hc))⟩
theorem small_sum {n by_ : Nat} (h : n * by_ ≤ 140737488355328) (h0 : 0 < by_) : n ≤ 9223372036854775807 := by
  have : n * 1 ≤ n * by_ := Nat.mul_le_mul_left n h0
  omega
theorem freeze_tgt {z : Nat} {rs rs2 : List Nat} {pm : Pm} {es : Els} {oa : Option Addr} {n cap : Nat} {olds : List Value} (m : Mem w g σ) (h : TgtOk w g σ z rs pm es oa n cap olds) (hd : ∀ r ∈ rs, r ∉ rs2) : TgtOk w g (σ.freeze rs2) z rs pm es oa n cap olds := by
  have hrow : ∀ r ∈ rs, get (σ.freeze rs2).row r = get σ.row r := fun r hr => by simp [St.freeze, get_append, get_frz, get_del, hd r hr]
  have hfp : ∀ b, RowsFp g σ rs b → RowsFp g (σ.freeze rs2) rs b := fun b ⟨r, row, h1, h2, h3⟩ => ⟨r, row, h1, by rw [hrow r h1]; exact h2, h3⟩
  refine ⟨h.len, h.cap_, h.holds, fun a ha hc => hfp _ (h.blk a ha hc), fun r hr => by rw [hrow r hr]; exact h.live r hr, fun hp => ?_, fun hp => ?_⟩
  · obtain ⟨f, h1, h2, h3, h4⟩ := h.own hp
    exact ⟨f, h1, fun i j b hb => hfp b (h2 i j b hb), h3, h4⟩
  · exact (h.top hp).mono fun i j v c hr => hr.mono fun b hb => RowsFp.ro m (Or.inr hb)
theorem src_frozen (m : Mem w g σ) {z : Nat} {x : V} {v : Value} {c : Prop} {r2 : Nat} {p2 : Path} {els : Els} (h : appS σ z x = some (c, some (r2, p2), els)) (hc : c) (hv : RepV w g σ x v) :
    ∃ ob k cap news, v = .slice ob k cap ∧ SrcOk w z els ob k news ∧ CellsRep w false z els news fun _ _ b => ¬ Owned g (σ.freeze [r2]) b := by
  unfold appS at h
  split at h
  · simp at h
  · rename_i r p z' off len
    split at h
    · rename_i zz es hn
      simp only [Option.some.injEq, Prod.mk.injEq] at h
      obtain ⟨rfl, ⟨rfl, rfl⟩, rfl⟩ := h
      subst hc
      obtain ⟨row', es', u, h1, h2, h3, h4, h5⟩ := hv
      have hn' : nodeOf σ r p = some (z', es') := by simp [nodeOf, h1, h2]
      rw [hn] at hn'
      simp only [Option.some.injEq, Prod.mk.injEq] at hn'
      obtain ⟨rfl, rfl⟩ := hn'
      obtain ⟨u', hu', hru⟩ := (m.lentRow h1).focus_ro h2
      rw [h3] at hu'
      cases hu'
      have hvw := hru.view h5 h4
      obtain ⟨oa, n, cap, oa', hu, rfl, hoa⟩ := id h5
      obtain ⟨g1, g2, vals, f, g3, g4, g5, g6, g7, g8⟩ := hvw.open
      exact ⟨oa', len, cap - off, vals, rfl, ⟨g1, g3.mono fun _ _ _ _ h => h.mono fun _ _ => trivial, g8, g3.one⟩, g3.mono fun i j v c h => h.mono fun b hb => RowsFp.ro m (g4 i j b hb)⟩
    · cases h
  · cases h
theorem eff_append (R : Rel w0 Al N σ a w g) {nm : Nat} {o : Oper} {args : Array Operand} {argTypes : Array TypeId} (ho : o.op = .call { callee := .builtin .append, args, argTypes }) {c : Prop} {σ' : St} {rv : Option V}
    (h : eff P σ nm (.call { callee := .builtin .append, args, argTypes }) = some (c, σ', rv)) (hc : c) : Leaves w false w0 Al N σ' a rv ((execOp a.eval o).run P w) := by
  obtain ⟨dst, op, type, pos, after, guard⟩ := o
  simp only at ho
  subst ho
  simp only [eff] at h
  split at h
  · rename_i s x t t' ha ht
    have ea : args = #[s, x] := by cases args; simpa using ha
    have et : argTypes = #[t, t'] := by cases argTypes; simpa using ht
    subst ea; subst et
    split at h
    · rename_i e c1 vs c2 vx hu hs hx
      split at h
      · rename_i c3 rs pm es c4 who els hT hS
        split at h
        · 
          simp only [Option.some.injEq, Prod.mk.injEq] at h
          obtain ⟨rfl, rfl, rfl⟩ := h
          obtain ⟨rfl, h1, h2, h3, h4, h5, h6, h7, h8, h9⟩ := hc
          obtain ⟨_, oa, n, cap, olds, q1, q2⟩ := appT_ok R.mem hT h3 (evO_rep R.slots hs h1)
          obtain ⟨ob, k, cap2, news, q3, q4, _⟩ := appS_ok R.mem hS h4 (evO_rep R.slots hx h2)
          obtain ⟨rv, w', g', d1, d2, d3⟩ := append_own (P := P) (ty := type) (c := cap2) R hu h8 rfl (rs2 := []) (f2 := fun _ _ _ => False) q2 q4 (Flat.cells q4.cells h5 true _) (fun _ _ _ h => h.elim) (fun _ _ _ _ _ h => h.elim) (by simp) h9 h6 (small_sum h6 h7)
          refine ⟨_, w', g', ?_, fun e => (by cases e), d2, rv, rfl, d3⟩
          rw [run_append_op, q1, q3, d1]
          rfl
        · 
          rename_i hne
          simp only [Option.some.injEq, Prod.mk.injEq] at h
          obtain ⟨rfl, rfl, rfl⟩ := h
          obtain ⟨rfl, h1, h2, h3, h4, h5, h6, h7, h8, h9, h10⟩ := hc
          obtain ⟨_, oa, n, cap, olds, q1, q2⟩ := appT_ok R.mem hT h3 (evO_rep R.slots hs h1)
          obtain ⟨ob, k, cap2, news, q3, q4, _⟩ := appS_ok R.mem hS h4 (evO_rep R.slots hx h2)
          obtain ⟨rv, w', g', d1, d2, d3⟩ := append_top (P := P) (ty := type) (c := cap2) R hu h8 rfl h10 q2 q4 (Flat.cells q4.cells h5 false _) h9 h6 (small_sum h6 h7)
          refine ⟨_, w', g', ?_, fun e => (by cases e), d2, rv, rfl, d3⟩
          rw [run_append_op, q1, q3, d1]
          rfl
        · rename_i r2 _
          split at h
          · rename_i row2 hrow2
            split at h
            · 
              rename_i hpm2
              simp only [Option.some.injEq, Prod.mk.injEq] at h
              obtain ⟨rfl, rfl, rfl⟩ := h
              obtain ⟨rfl, h1, h2, h3, h4, h5, h6, h7, h8, h9⟩ := hc
              obtain ⟨_, oa, n, cap, olds, q1, q2⟩ := appT_ok R.mem hT h3 (evO_rep R.slots hs h1)
              obtain ⟨ob, k, cap2, news, q3, q4, q5⟩ := appS_ok R.mem hS h4 (evO_rep R.slots hx h2)
              obtain ⟨f2, f3, f4, f5⟩ := q5 r2 row2 rfl hrow2 hpm2
              obtain ⟨rv, w', g', d1, d2, d3⟩ := append_own (P := P) (ty := type) (c := cap2) R hu h8 rfl (rs2 := [r2]) q2 q4 f3 f4 f5 (fun r hr e => h5 (by simp only [List.mem_singleton] at e; rw [← e]; exact hr)) h9 h6 (small_sum h6 h7)
              refine ⟨_, w', g', ?_, fun e => (by cases e), d2, rv, rfl, d3⟩
              rw [run_append_op, q1, q3, d1]
              rfl
            · 
              simp only [Option.some.injEq, Prod.mk.injEq] at h
              obtain ⟨rfl, rfl, rfl⟩ := h
              obtain ⟨rfl, h1, h2, h3, h4, h5, h6, h7, h8, h9⟩ := hc
              obtain ⟨_, oa, n, cap, olds, q1, q2⟩ := appT_ok R.mem hT h3 (evO_rep R.slots hs h1)
              obtain ⟨ob, k, cap2, news, q3, q4, q5⟩ := src_frozen R.mem hS h4 (evO_rep R.slots hx h2)
              obtain ⟨rv, w', g', d1, d2, d3⟩ := append_top (P := P) (ty := type) (c := cap2) (rel_freeze R [r2]) hu h8 rfl (by simp) (freeze_tgt R.mem q2 (fun r hr e => h5 (by simp only [List.mem_singleton] at e; rw [← e]; exact hr))) q4 q5 (freeze_none h9) h6 (small_sum h6 h7)
              refine ⟨_, w', g', ?_, fun e => (by cases e), d2, rv, rfl, d3⟩
              rw [run_append_op, q1, q3, d1]
              rfl
          · cases h
        · 
          rename_i r2 p2 _ _
          simp only [Option.some.injEq, Prod.mk.injEq] at h
          obtain ⟨rfl, rfl, rfl⟩ := h
          obtain ⟨rfl, h1, h2, h3, h4, h5, h6, h7, h8, h9, h10⟩ := hc
          obtain ⟨_, oa, n, cap, olds, q1, q2⟩ := appT_ok R.mem hT h3 (evO_rep R.slots hs h1)
          obtain ⟨ob, k, cap2, news, q3, q4, q5⟩ := src_frozen R.mem hS h4 (evO_rep R.slots hx h2)
          obtain ⟨rv, w', g', d1, d2, d3⟩ := append_top (P := P) (ty := type) (c := cap2) (rel_freeze R [r2]) hu h8 rfl h10 (freeze_tgt R.mem q2 (fun r hr e => h5 (by simp only [List.mem_singleton] at e; rw [← e]; exact hr))) q4 q5 (freeze_none h9) h6 (small_sum h6 h7)
          refine ⟨_, w', g', ?_, fun e => (by cases e), d2, rv, rfl, d3⟩
          rw [run_append_op, q1, q3, d1]
          rfl
        · 
          simp only [Option.some.injEq, Prod.mk.injEq] at h
          obtain ⟨rfl, rfl, rfl⟩ := h
          obtain ⟨rfl, h1, h2, h3, h4, h6, h7, h8, h9⟩ := hc
          obtain ⟨_, oa, n, cap, olds, q1, q2⟩ := appT_ok R.mem hT h3 (evO_rep R.slots hs h1)
          obtain ⟨ob, k, cap2, news, q3, q4, _⟩ := appS_ok R.mem hS h4 (evO_rep R.slots hx h2)
          have hels : els = [] := by
            unfold appS at hS
            split at hS
            · simp only [Option.some.injEq, Prod.mk.injEq] at hS; exact hS.2.2.symm
            · split at hS <;> simp at hS
            · cases hS
          obtain ⟨rv, w', g', d1, d2, d3⟩ := append_own (P := P) (ty := type) (c := cap2) R hu h8 rfl (rs2 := []) (f2 := fun _ _ _ => False) q2 q4 (Flat.cells q4.cells (by rw [hels]; intro x hx; simp at hx) true _) (fun _ _ _ h => h.elim) (fun _ _ _ _ _ h => h.elim) (by simp) h9 h6 (small_sum h6 h7)
          refine ⟨_, w', g', ?_, fun e => (by cases e), d2, rv, rfl, d3⟩
          rw [run_append_op, q1, q3, d1]
          rfl
        · cases h
      · cases h
    · cases h
  · cases h
end
end Go.Tw

