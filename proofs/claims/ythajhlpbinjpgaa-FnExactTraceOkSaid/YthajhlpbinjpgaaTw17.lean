/- append, of a state: the step. -/
import Derived.Test.YthajhlpbinjpgaaTw16
set_option linter.unusedSimpArgs false
set_option linter.unusedVariables false
namespace Go.Tw

section
variable {P : Program} {w0 w w' : World} {Al : Blks} {N : Nat} {g : Gh} {σ : St} {a : Act}

theorem Holds.close {z : Nat} {oa : Option Addr} {n cap : Nat} {vals : List Value} {es : Els} {f : Nat → Nat → Blks} {F : Blks} (h : Holds w z oa n cap vals) (hn : n = es.length) (hc : CellsRep w true z es vals f)
    (hF : ∀ x, oa = some x → cap ≠ 0 → F x.block ∧ ∀ i j, ¬ f i j x.block) (hsub : ∀ i j b, f i j b → F b) (hdd : ∀ i j i' j' b, f i j b → f i' j' b → i = i' ∧ j = j') : Rep w true (.slice oa n cap) (.sl z es) F := by
  subst hn
  by_cases h0 : cap = 0
  · rcases h with ⟨_, h2, _⟩ | ⟨x, cs, e0, _, _, _, _, h2, _⟩
    · have : es = [] := List.eq_nil_of_length_eq_zero h2
      subst this; subst h0
      cases oa with
      | none => exact .nils
      | some x => exact .bare
    · have : es = [] := List.eq_nil_of_length_eq_zero (by omega)
      subst this; subst h0
      cases oa with
      | none => exact .nils
      | some x => exact .bare
  · rcases h with ⟨h1, _⟩ | ⟨x, cs, e0, rfl, h1, h2, h3, h4, h5⟩
    · exact absurd h1 h0
    · exact hc.close h1 h2 h3 h4 h5.symm (hF x rfl h0).1 hsub (fun _ => (hF x rfl h0).2) fun _ => hdd

theorem Holds.closeTop {z : Nat} {oa : Option Addr} {n cap : Nat} {vals : List Value} {es : Els} {F K : Blks} (h : Holds w z oa n cap vals) (hn : n = es.length) (hc : CellsRep w false z es vals fun _ _ => K)
    (hF : ∀ x, oa = some x → cap ≠ 0 → F x.block) : RepTop w (.slice oa n cap) z es F K := by
  subst hn
  by_cases h0 : cap = 0
  · rcases h with ⟨_, h2, _⟩ | ⟨x, cs, e0, _, _, _, _, h2, _⟩
    · have : es = [] := List.eq_nil_of_length_eq_zero h2
      subst this; subst h0
      exact Or.inl ⟨rfl, oa, rfl⟩
    · have : es = [] := List.eq_nil_of_length_eq_zero (by omega)
      subst this; subst h0
      exact Or.inl ⟨rfl, oa, rfl⟩
  · rcases h with ⟨h1, _⟩ | ⟨x, cs, e0, rfl, h1, h2, h3, h4, h5⟩
    · exact absurd h1 h0
    · exact hc.closeTop h1 h2 h3 h4 h5.symm (hF x rfl h0)

/-- What append leaves, in one form. -/
theorem append_run' {t e ty : TypeId} (hu : (tyOf P t).u = .sl e) (hk : (tyOf P e).known = true) {z : Nat} (hz : (tyOf P e).sz = z) {oa ob : Option Addr} {n cap m c : Nat} {olds news : List Value}
    (ho : Holds w z oa n cap olds) (hl : news.length = m * z) (hn : m = 0 ∨ ∃ b, ob = some b ∧ ∀ j v, news[j]? = some v → w.cell? (b.add j) = some v) (h1 : ∀ v ∈ news, v.oneCell' = true)
    (hb : (n + m) * (tyOf P e).by_ ≤ 140737488355328) (hm : n + m ≤ 9223372036854775807) :
    ∃ oa' cap' w', (Builtin.append_ #[t, t] ty #[.slice oa n cap, .slice ob m c]).run P w = .ok (.slice oa' (n + m) cap') w' ∧ w'.os = w.os ∧ w'.tape = w.tape ∧ w'.output = w.output ∧ w.heap.size ≤ w'.heap.size ∧
      Holds w' z oa' (n + m) cap' (olds ++ news) ∧
      (∀ x, oa' = some x → cap' ≠ 0 → x.block < w'.heap.size ∧ ((∃ y, oa = some y ∧ cap ≠ 0 ∧ x.block = y.block) ∨ x.block = w.heap.size)) ∧
      (∀ b, b < w.heap.size → (∀ y, oa = some y → cap ≠ 0 → b ≠ y.block) → w'.heap[b]? = w.heap[b]?) := by
  obtain ⟨r, w', hr, h2, h3, h4, h5, h6⟩ := append_run (ty := ty) (c := c) hu hk hz ho hl hn h1 hb hm
  rcases h6 with ⟨rfl, rfl, rfl⟩ | ⟨a', cap', cs', e', g1, rfl, g3, g4, g5, g6, g7, g8, g9, g10⟩
  · have hnil : news = [] := List.eq_nil_of_length_eq_zero (by simpa using hl)
    subst hnil
    refine ⟨oa, cap, w', hr, h2, h3, h4, h5, by simpa using ho, fun x hx hc => ⟨?_, Or.inl ⟨x, hx, hc, rfl⟩⟩, fun _ _ _ => rfl⟩
    rcases ho with ⟨h, _⟩ | ⟨y, cs, e0, hy, _, hcs, _⟩
    · exact absurd h hc
    · rw [hx] at hy; cases hy
      exact (Array.getElem?_eq_some_iff.1 hcs).1
  · refine ⟨some a', cap', w', hr, h2, h3, h4, h5, Or.inr ⟨a', cs', e', rfl, g3, g4, g5, g6, g7.symm⟩, fun x hx hc => ?_, fun b hb' hy => ?_⟩
    · cases hx
      refine ⟨g9, g10.imp (fun ⟨y, cs, e0, h1, h2, h3, h4⟩ => ⟨y, h1, h4, h3⟩) id⟩
    · refine g8 b hb' ?_
      rcases g10 with ⟨y, cs, e0, q1, _, q3, q4⟩ | q
      · rw [q3]; exact hy y q1 q4
      · rw [q]; omega

theorem RowsFp.lt (m : Mem w g σ) {rs : List Nat} {b : Nat} (h : RowsFp g σ rs b) : b < w.heap.size := let ⟨r, row, _, h1, h2, h3⟩ := h; m.lt b (Or.inr ⟨r, row, h1, h2, h3⟩)

theorem RowsFp.dis (m : Mem w g σ) {rs rs' : List Nat} (hd : ∀ r ∈ rs, r ∉ rs') {b : Nat} (h : RowsFp g σ rs b) (h' : RowsFp g σ rs' b) : False := by
  obtain ⟨r, row, h1, h2, h3, h4⟩ := h
  obtain ⟨r', row', h1', h2', h3', h4'⟩ := h'
  exact hd r h1 (m.rr r r' row row' b h2 h2' h3 h3' h4 h4' ▸ h1')

/-- Own to own. -/
theorem append_own (R : Rel w0 Al N σ a w g) {t e ty : TypeId} (hu : (tyOf P t).u = .sl e) (hk : (tyOf P e).known = true) {z : Nat} (hz : (tyOf P e).sz = z) {rs rs2 : List Nat} {es els : Els} {oa ob : Option Addr} {n cap m c : Nat}
    {olds news : List Value} {f2 : Nat → Nat → Blks} {nm : Nat} (hT : TgtOk w g σ z rs .own es oa n cap olds) (hS : SrcOk w z els ob m news) (hf2 : CellsRep w true z els news f2) (s2 : ∀ i j b, f2 i j b → RowsFp g σ rs2 b)
    (d2 : ∀ i j i' j' b, f2 i j b → f2 i' j' b → i = i' ∧ j = j') (hd : ∀ r ∈ rs, r ∉ rs2) (hnm : get σ.row nm = none) (hb : (es.length + els.length) * (tyOf P e).by_ ≤ 140737488355328) (hm : es.length + els.length ≤ 9223372036854775807) :
    ∃ rv w' g', (Builtin.append_ #[t, t] ty #[.slice oa n cap, .slice ob m c]).run P w = .ok rv w' ∧ Rel w0 Al N (σ.swap (hits (rs ++ rs2)) (rs ++ rs2) nm ⟨.own, z, es ++ els⟩) a w' g' ∧
      RepV w' g' (σ.swap (hits (rs ++ rs2)) (rs ++ rs2) nm ⟨.own, z, es ++ els⟩) (.l (.ref nm [] z 0 (es.length + els.length))) rv := by
  obtain ⟨hn, hcap, hh, hblk, hlive, howns, _⟩ := hT
  obtain ⟨f, hf, s1, d1, hdf⟩ := howns rfl
  obtain ⟨oa', cap', w', hr, h2, h3, h4, h5, h6, h7, h8⟩ := append_run' (ty := ty) (c := c) hu hk hz hh (by rw [hf2.len, hS.len]) hS.there hS.one (by rw [hn, hS.len]; exact hb) (by rw [hn, hS.len]; exact hm)
  have hsum : n + m = (es ++ els).length := by rw [List.length_append, hn, hS.len]
  rw [hsum] at hr h6
  have mem := R.mem
  -- the nested blocks do not turn
  have hkeepf : ∀ i j b, f i j b → w'.heap[b]? = w.heap[b]? := fun i j b hb => h8 b (RowsFp.lt mem (s1 i j b hb)) fun y hy hc e => hdf y hy hc i j (e ▸ hb)
  have hkeep2 : ∀ i j b, f2 i j b → w'.heap[b]? = w.heap[b]? := fun i j b hb => h8 b (RowsFp.lt mem (s2 i j b hb)) fun y hy hc e => RowsFp.dis mem hd (hblk y hy hc) (e ▸ s2 i j b hb)
  have hcells : CellsRep w' true z (es ++ els) (olds ++ news) fun i j => if i < es.length then f i j else f2 (i - es.length) j :=
    CellsRep.append (hf.mono fun i j v c h => h.frame (hkeepf i j)) (hf2.mono fun i j v c h => h.frame (hkeep2 i j))
  let F : Blks := fun b => (∃ x, oa' = some x ∧ cap' ≠ 0 ∧ b = x.block) ∨ (∃ i j, f i j b) ∨ ∃ i j, f2 i j b
  have hrep : Rep w' true (.slice oa' (es ++ els).length cap') (.sl z (es ++ els)) F := by
    refine h6.close rfl hcells (fun x hx hc => ⟨Or.inl ⟨x, hx, hc, rfl⟩, fun i j hf' => ?_⟩) (fun i j b hb => ?_) (fun i j i' j' b hb hb' => ?_)
    · obtain ⟨_, h9⟩ := h7 x hx hc
      split at hf'
      · rcases h9 with ⟨y, hy, hc', e⟩ | e
        · exact hdf y hy hc' i j (e ▸ hf')
        · have := RowsFp.lt mem (s1 _ _ _ hf'); omega
      · rcases h9 with ⟨y, hy, hc', e⟩ | e
        · exact RowsFp.dis mem hd (hblk y hy hc') (e ▸ s2 _ _ _ hf')
        · have := RowsFp.lt mem (s2 _ _ _ hf'); omega
    · split at hb
      · exact Or.inr (Or.inl ⟨i, j, hb⟩)
      · exact Or.inr (Or.inr ⟨_, j, hb⟩)
    · split at hb <;> split at hb'
      · exact d1 _ _ _ _ b hb hb'
      · exact (RowsFp.dis mem hd (s1 _ _ _ hb) (s2 _ _ _ hb')).elim
      · exact (RowsFp.dis mem hd (s1 _ _ _ hb') (s2 _ _ _ hb)).elim
      · have := d2 _ _ _ _ b hb hb'
        omega
  have hrs : ∀ b, RowsFp g σ rs b → RowsFp g σ (rs ++ rs2) b := fun b ⟨r, row, h1, h⟩ => ⟨r, row, by simp [h1], h⟩
  have hrs2 : ∀ b, RowsFp g σ rs2 b → RowsFp g σ (rs ++ rs2) b := fun b ⟨r, row, h1, h⟩ => ⟨r, row, by simp [h1], h⟩
  have hin := swap_in (w' := w') mem (kill := hits (rs ++ rs2)) (rs := rs ++ rs2) (k := nm) (row := ⟨.own, z, es ++ els⟩) (hv := .slice oa' (es ++ els).length cap') (F := F) (N := fun _ => False) (Or.inr hnm) (by simp) (fun _ => hrep) (fun h => by cases h)
    (fun b h => h.elim) (fun b hb => ?_) (fun b hb hp => h8 b hb fun y hy hc e => hp (hrs _ (e ▸ hblk y hy hc))) h5 (fun l hl r p hr hs hm => ?_)
  · refine ⟨_, w', _, hr, R.turn hin ⟨rfl, rfl⟩ h2 h3 h4, ⟨.own, z, es ++ els⟩, es ++ els, .slice oa' (es ++ els).length cap', by simp [St.swap, get], rfl, by simp [valAt, Gh.row, upd_self], by simp, ?_⟩
    rw [List.length_append]
    exact View.whole oa' _ cap' z _
  · rcases hb with ⟨x, hx, hc, rfl⟩ | ⟨i, j, hb⟩ | ⟨i, j, hb⟩
    · obtain ⟨h9, h10⟩ := h7 x hx hc
      refine ⟨?_, h9⟩
      rcases h10 with ⟨y, hy, hc', e⟩ | e
      · exact Or.inl (hrs _ (e ▸ hblk y hy hc'))
      · exact Or.inr (by omega)
    · exact ⟨Or.inl (hrs _ (s1 i j b hb)), Nat.lt_of_lt_of_le (RowsFp.lt mem (s1 i j b hb)) h5⟩
    · exact ⟨Or.inl (hrs2 _ (s2 i j b hb)), Nat.lt_of_lt_of_le (RowsFp.lt mem (s2 i j b hb)) h5⟩
  · unfold hits at hl
    rw [hr] at hl
    simp at hl
    exact absurd (List.mem_append.1 hm) (by simp [hl])

/-- Onto a row of which the elements alone are this call's own. -/
theorem append_top (R : Rel w0 Al N σ a w g) {t e ty : TypeId} (hu : (tyOf P t).u = .sl e) (hk : (tyOf P e).known = true) {z : Nat} (hz : (tyOf P e).sz = z) {rs : List Nat} {es els : Els} {oa ob : Option Addr} {n cap m c : Nat}
    {olds news : List Value} {nm : Nat} {pm : Pm} (hpm : pm ≠ .ro) (hT : TgtOk w g σ z rs pm es oa n cap olds) (hS : SrcOk w z els ob m news) (hf2 : CellsRep w false z els news fun _ _ b => ¬ Owned g σ b)
    (hnm : get σ.row nm = none) (hb : (es.length + els.length) * (tyOf P e).by_ ≤ 140737488355328) (hm : es.length + els.length ≤ 9223372036854775807) :
    ∃ rv w' g', (Builtin.append_ #[t, t] ty #[.slice oa n cap, .slice ob m c]).run P w = .ok rv w' ∧ Rel w0 Al N (σ.swap (hits rs) rs nm ⟨.top, z, es ++ els⟩) a w' g' ∧
      RepV w' g' (σ.swap (hits rs) rs nm ⟨.top, z, es ++ els⟩) (.l (.ref nm [] z 0 (es.length + els.length))) rv := by
  obtain ⟨hn, hcap, hh, hblk, hlive, howns, htops⟩ := hT
  have mem := R.mem
  obtain ⟨oa', cap', w', hr, h2, h3, h4, h5, h6, h7, h8⟩ := append_run' (ty := ty) (c := c) hu hk hz hh (by rw [hf2.len, hS.len]) hS.there hS.one (by rw [hn, hS.len]; exact hb) (by rw [hn, hS.len]; exact hm)
  have hsum : n + m = (es ++ els).length := by rw [List.length_append, hn, hS.len]
  rw [hsum] at hr h6
  -- what is read from now on: what was not owned, and what the row had below it
  let K : Blks := fun b => (b < w.heap.size ∧ ¬ Owned g σ b) ∨ (RowsFp g σ rs b ∧ ∀ y, oa = some y → cap ≠ 0 → b ≠ y.block)
  have hKold : ∀ b, K b → w'.heap[b]? = w.heap[b]? := by
    rintro b (⟨hlt, hno⟩ | ⟨hb, hne⟩)
    · exact h8 b hlt fun y hy hc e => hno (by obtain ⟨r, row, _, q⟩ := hblk y hy hc; exact Or.inr ⟨r, row, e ▸ q⟩)
    · exact h8 b (RowsFp.lt mem hb) hne
  have toK : ∀ {v : Value} {c : T}, Rep w false v c (fun b => ¬ Owned g σ b) → Rep w' false v c K := fun h => by
    obtain ⟨G, hG, hs, hlt⟩ := h.lt
    have hGK : ∀ b, G b → K b := fun b hb => Or.inl ⟨hlt b hb, hs b hb⟩
    exact (hG.frame fun b hb => hKold b (hGK b hb)).mono hGK
  have hes : CellsRep w' false z es olds fun _ _ => K := by
    cases pm with
    | ro => exact absurd rfl hpm
    | top => exact (htops rfl).mono fun i j v c h => toK h
    | own =>
      obtain ⟨f, hf, s1, d1, hdf⟩ := howns rfl
      refine hf.mono fun i j v c h => ?_
      have hfK : ∀ b, f i j b → K b := fun b hb => Or.inr ⟨s1 i j b hb, fun y hy hc e => hdf y hy hc i j (e ▸ hb)⟩
      exact (h.lent.frame fun b hb => hKold b (hfK b hb)).mono hfK
  have hcells : CellsRep w' false z (es ++ els) (olds ++ news) fun _ _ => K := by
    have := CellsRep.append hes (hf2.mono fun i j v c h => toK h)
    exact this.mono fun i j v c h => by simpa using h
  let F : Blks := fun b => ∃ x, oa' = some x ∧ cap' ≠ 0 ∧ b = x.block
  have hrep : RepTop w' (.slice oa' (es ++ els).length cap') z (es ++ els) F K := h6.closeTop rfl hcells fun x hx hc => ⟨x, hx, hc, rfl⟩
  have hin := swap_in (w' := w') mem (kill := hits rs) (rs := rs) (k := nm) (row := ⟨.top, z, es ++ els⟩) (hv := .slice oa' (es ++ els).length cap') (F := F) (N := K) (Or.inr hnm) (by simp) (fun h => by cases h) (fun _ => hrep)
    (fun b hb => ?_) (fun b hb => ?_) (fun b hb hp => h8 b hb fun y hy hc e => hp (e ▸ hblk y hy hc)) h5 (fun l hl r p hr hs hm => ?_)
  · refine ⟨_, w', _, hr, R.turn hin ⟨rfl, rfl⟩ h2 h3 h4, ⟨.top, z, es ++ els⟩, es ++ els, .slice oa' (es ++ els).length cap', by simp [St.swap, get], rfl, by simp [valAt, Gh.row, upd_self], by simp, ?_⟩
    rw [List.length_append]
    exact View.whole oa' _ cap' z _
  · rcases hb with ⟨h9, h10⟩ | ⟨h9, h10⟩
    · refine ⟨h9, Or.inl h10, fun ⟨x, hx, hc, e⟩ => ?_⟩
      rcases (h7 x hx hc).2 with ⟨y, hy, hc', e'⟩ | e'
      · obtain ⟨r, row, _, q⟩ := hblk y hy hc'
        exact h10 (Or.inr ⟨r, row, by rw [e, e']; exact q⟩)
      · omega
    · refine ⟨RowsFp.lt mem h9, Or.inr h9, fun ⟨x, hx, hc, e⟩ => ?_⟩
      rcases (h7 x hx hc).2 with ⟨y, hy, hc', e'⟩ | e'
      · exact h10 y hy hc' (e.trans e')
      · have := RowsFp.lt mem h9; omega
  · obtain ⟨x, hx, hc, rfl⟩ := hb
    obtain ⟨h9, h10⟩ := h7 x hx hc
    refine ⟨?_, h9⟩
    rcases h10 with ⟨y, hy, hc', e⟩ | e
    · exact Or.inl (e ▸ hblk y hy hc')
    · exact Or.inr (by omega)
  · unfold hits at hl
    rw [hr] at hl
    simp at hl
    exact absurd hm hl

end

end Go.Tw
