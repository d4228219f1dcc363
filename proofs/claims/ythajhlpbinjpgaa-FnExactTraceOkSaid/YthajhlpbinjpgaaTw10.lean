/- How memory may turn under a state: some rows and boxes are taken out, others put in; all else stays. -/
import Derived.Test.YthajhlpbinjpgaaTw9
set_option linter.unusedSimpArgs false
set_option linter.unusedVariables false
namespace Go.Tw

theorem get_append {α : Type} (xs ys : List (Nat × α)) (n : Nat) : get (xs ++ ys) n = match get xs n with
    | some x => some x
    | none => get ys n := by
  induction xs with
  | nil => rfl
  | cons x xs ih =>
    obtain ⟨k, x⟩ := x
    simp only [List.cons_append, get]
    split
    · rfl
    · exact ih

/-- Without those names. -/
def del {α : Type} (ns : List Nat) (xs : List (Nat × α)) : List (Nat × α) := xs.filter fun x => !ns.contains x.1

theorem get_del {α : Type} (ns : List Nat) (xs : List (Nat × α)) (n : Nat) : get (del ns xs) n = if n ∈ ns then none else get xs n := by
  induction xs with
  | nil => simp [del, get]
  | cons x xs ih =>
    obtain ⟨k, x⟩ := x
    unfold del at ih ⊢
    simp only [List.filter_cons]
    by_cases hk : k ∈ ns
    · have : (!ns.contains k) = false := by simpa using hk
      simp only [this, Bool.false_eq_true, if_false, ih, get]
      by_cases hn : n ∈ ns
      · simp [hn]
      · have : n ≠ k := fun e => hn (e ▸ hk)
        simp [hn, this]
    · have : (!ns.contains k) = true := by simpa using hk
      simp only [this, if_true, get, ih]
      by_cases hn : n = k
      · subst hn; simp [hk]
      · simp [hn]

def killLs (kill : L → Bool) (ls : List L) : List L := ls.map fun l => if kill l then .undef else l
def killB (kill : L → Bool) (bs : List (Nat × List L)) : List (Nat × List L) := bs.map fun b => (b.1, killLs kill b.2)
def killE (kill : L → Bool) (env : List (Nat × Bool × V)) : List (Nat × Bool × V) := env.filter fun e => !e.2.2.leaves.any kill
def killS (kill : L → Bool) (sav : List (List (Nat × Bool × V) × Act)) : List (List (Nat × Bool × V) × Act) := sav.map fun x => (killE kill x.1, x.2)

theorem get_killB (kill : L → Bool) (bs : List (Nat × List L)) (n : Nat) : get (killB kill bs) n = (get bs n).map (killLs kill) := by
  induction bs with
  | nil => rfl
  | cons x xs ih =>
    obtain ⟨k, x⟩ := x
    unfold killB at ih ⊢
    simp only [List.map_cons, get]
    split
    · rfl
    · exact ih

theorem get_killE (kill : L → Bool) : ∀ (env : List (Nat × Bool × V)) (n : Nat) (x : Bool × V), get (killE kill env) n = some x → (n, x) ∈ env ∧ x.2.leaves.any kill = false
  | [], _, _, h => by simp [killE, get] at h
  | (k, y) :: env, n, x, h => by
    unfold killE at h
    simp only [List.filter_cons] at h
    split at h
    · rename_i hk
      simp only [get] at h
      split at h
      · rename_i e
        subst e
        simp only [Option.some.injEq] at h
        subst h
        exact ⟨by simp, by simpa using hk⟩
      · obtain ⟨h1, h2⟩ := get_killE kill env n x h
        exact ⟨by simp [h1], h2⟩
    · obtain ⟨h1, h2⟩ := get_killE kill env n x h
      exact ⟨by simp [h1], h2⟩

theorem RepL.one {w : World} {g : Gh} {σ : St} {l : L} {v : Value} (h : RepL w g σ l v) : v.oneCell' = true := by
  cases l with
  | t x => exact Rep.one h
  | ref r p z off len => obtain ⟨_, _, _, _, _, _, _, _, _, _, _, _, rfl, _⟩ := h; rfl
  | nil => obtain ⟨_, rfl⟩ := h; rfl
  | ptr b j => obtain ⟨_, rfl⟩ := h; rfl
  | ept r p i j d => obtain ⟨_, _, _, _, _, _, _, _, _, _, _, rfl⟩ := h; rfl
  | npt => simp only [RepL] at h; subst h; rfl
  | fn f caps => obtain ⟨_, rfl⟩ := h; rfl
  | undef => exact h

/-- The blocks of what is taken out. -/
def Pool (g : Gh) (σ : St) (DR DB : List Nat) : Blks := fun b =>
  (∃ r row, r ∈ DR ∧ get σ.row r = some row ∧ row.pm ≠ .ro ∧ g.fp r b) ∨ (∃ k ls, k ∈ DB ∧ get σ.box k = some ls ∧ g.bx k = b)

/-- What is put in. -/
structure NewIn (w w' : World) (g g' : Gh) (σ σ' : St) (DR DB : List Nat) (nr : List (Nat × Row)) (nb : List (Nat × List L)) (kill : L → Bool) : Prop where
  row : σ'.row = nr ++ del DR σ.row
  box : σ'.box = nb ++ killB kill (del DB σ.box)
  old : ∀ b, b < w.heap.size → ¬ Pool g σ DR DB b → w'.heap[b]? = w.heap[b]?
  siz : w.heap.size ≤ w'.heap.size
  rw_ : ∀ r, r ∉ DR → (get σ.row r).isSome → g'.rw r = g.rw r ∧ g'.fp r = g.fp r
  bx_ : ∀ k, k ∉ DB → (get σ.box k).isSome → g'.bx k = g.bx k
  rn : ∀ k row, get nr k = some row → k ∈ DR ∨ get σ.row k = none
  bn : ∀ k ls, get nb k = some ls → k ∈ DB ∨ get σ.box k = none
  own : ∀ k row, get nr k = some row → row.pm = .own → Rep w' true (g'.rw k) row.t (g'.fp k)
  top : ∀ k row, get nr k = some row → row.pm = .top → RepTop w' (g'.rw k) row.z row.es (g'.fp k) fun b => ¬ Owned g' σ' b
  ro : ∀ k row, get nr k = some row → row.pm = .ro → Rep w' false (g'.rw k) row.t fun b => ¬ Owned g' σ' b
  fp : ∀ k row b, get nr k = some row → row.pm ≠ .ro → g'.fp k b → (Pool g σ DR DB b ∨ w.heap.size ≤ b) ∧ b < w'.heap.size
  bxp : ∀ k ls, get nb k = some ls → (Pool g σ DR DB (g'.bx k) ∨ w.heap.size ≤ g'.bx k) ∧ g'.bx k < w'.heap.size
  rr : ∀ r r' row row' b, get nr r = some row → get nr r' = some row' → row.pm ≠ .ro → row'.pm ≠ .ro → g'.fp r b → g'.fp r' b → r = r'
  br : ∀ k ls r row, get nb k = some ls → get nr r = some row → row.pm ≠ .ro → ¬ g'.fp r (g'.bx k)
  bb : ∀ k k' ls ls', get nb k = some ls → get nb k' = some ls' → g'.bx k = g'.bx k' → k = k'
  boxes : ∀ k ls, get nb k = some ls → ∃ cs e, w'.heap[g'.bx k]? = some (.cells cs e (0, 0)) ∧ RepLs w' g' σ' ls cs.toList
  keepR : ∀ l, kill l = false → ∀ r p, l.rowOf = some (r, p) → (get σ.row r).isSome → r ∈ DR → Stays w w' g g' σ σ' r p
  keepB : ∀ l, kill l = false → ∀ b ∈ l.boxOf, (get σ.box b).isSome → b ∈ DB → (get nb b).isSome ∧ g'.bx b = g.bx b

section
variable {w w' : World} {g g' : Gh} {σ σ' : St} {DR DB : List Nat} {nr : List (Nat × Row)} {nb : List (Nat × List L)} {kill : L → Bool}

theorem NewIn.owned (n : NewIn w w' g g' σ σ' DR DB nr nb kill) (m : Mem w g σ) {b : Nat} (h : Owned g' σ' b) : (Owned g σ b ∨ w.heap.size ≤ b) ∧ b < w'.heap.size := by
  have pl : ∀ b, Pool g σ DR DB b → Owned g σ b := fun b h => h.elim (fun ⟨r, row, _, h1, h2, h3⟩ => Or.inr ⟨r, row, h1, h2, h3⟩) fun ⟨k, ls, _, h1, h2⟩ => Or.inl ⟨k, ls, h1, h2⟩
  rcases h with ⟨k, ls, h1, h2⟩ | ⟨r, row, h1, h2, h3⟩
  · rw [n.box, get_append] at h1
    split at h1
    · rename_i ls' hk
      have := n.bxp k ls' hk
      rw [h2] at this
      exact ⟨this.1.imp (pl b) id, this.2⟩
    · rw [get_killB, get_del] at h1
      split at h1
      · cases h1
      · rename_i hk
        simp only [Option.map_eq_some_iff] at h1
        obtain ⟨ls0, h1, _⟩ := h1
        rw [n.bx_ k hk (by simp [h1])] at h2
        have ho : Owned g σ b := Or.inl ⟨k, ls0, h1, h2⟩
        exact ⟨Or.inl ho, Nat.lt_of_lt_of_le (m.lt b ho) n.siz⟩
  · rw [n.row, get_append] at h1
    split at h1
    · rename_i row' hk
      simp only [Option.some.injEq] at h1
      subst h1
      have := n.fp r row' b hk h2 h3
      exact ⟨this.1.imp (pl b) id, this.2⟩
    · rw [get_del] at h1
      split at h1
      · cases h1
      · rename_i hk
        rw [(n.rw_ r hk (by simp [h1])).2] at h3
        have ho : Owned g σ b := Or.inr ⟨r, row, h1, h2, h3⟩
        exact ⟨Or.inl ho, Nat.lt_of_lt_of_le (m.lt b ho) n.siz⟩

/-- What was not taken out: its blocks are none of the pool's. -/
theorem pool_row (m : Mem w g σ) {r : Nat} {row : Row} (h : get σ.row r = some row) (hp : row.pm ≠ .ro) (hr : r ∉ DR) {b : Nat} (hb : g.fp r b) : ¬ Pool g σ DR DB b := by
  rintro (⟨r', row', h1, h2, h3, h4⟩ | ⟨k, ls, h1, h2, h3⟩)
  · exact hr (m.rr r r' row row' b h h2 hp h3 hb h4 ▸ h1)
  · subst h3
    exact m.br k ls r row h2 h hp hb

theorem pool_box (m : Mem w g σ) {k : Nat} {ls : List L} (h : get σ.box k = some ls) (hk : k ∉ DB) : ¬ Pool g σ DR DB (g.bx k) := by
  rintro (⟨r', row', h1, h2, h3, h4⟩ | ⟨k', ls', h1, h2, h3⟩)
  · exact m.br k ls r' row' h h2 h3 h4
  · exact hk (m.bb k' k ls' ls h2 h h3 ▸ h1)

theorem pool_owned {b : Nat} (h : Pool g σ DR DB b) : Owned g σ b :=
  h.elim (fun ⟨r, row, _, h1, h2, h3⟩ => Or.inr ⟨r, row, h1, h2, h3⟩) fun ⟨k, ls, _, h1, h2⟩ => Or.inl ⟨k, ls, h1, h2⟩

/-- A leaf that is not killed speaks of what it spoke of. -/
theorem NewIn.stays (n : NewIn w w' g g' σ σ' DR DB nr nb kill) (m : Mem w g σ) {l : L} (hl : kill l = false) : StaysL w w' g g' σ σ' l := by
  refine ⟨fun r p hr => ?_, fun b hb hs => ?_⟩
  · by_cases hd : r ∈ DR
    · intro row h
      exact n.keepR l hl r p hr (by simp [h]) hd row h
    · refine .of_same m (fun row h => ?_) (fun row h => ?_) (fun row h b h1 h2 hlt => n.old b hlt ?_)
      · rw [n.row, get_append]
        cases hk : get nr r with
        | some row' =>
          rcases n.rn r row' hk with h' | h'
          · exact absurd h' hd
          · rw [h'] at h; cases h
        | none => simp [get_del, hd, h]
      · exact (n.rw_ r hd (by simp [h])).1
      · by_cases hp : row.pm = .ro
        · exact fun h' => h2 hp (pool_owned h')
        · rcases h1 hp with h1 | ⟨_, h1⟩
          · exact pool_row m h hp hd h1
          · exact fun h' => h1 (pool_owned h')
  · by_cases hd : b ∈ DB
    · obtain ⟨h1, h2⟩ := n.keepB l hl b hb hs hd
      refine ⟨?_, h2⟩
      obtain ⟨x, hx⟩ := Option.isSome_iff_exists.1 h1
      rw [n.box, get_append, hx]
      rfl
    · refine ⟨?_, n.bx_ b hd hs⟩
      rw [n.box, get_append]
      split
      · rfl
      · obtain ⟨x, hx⟩ := Option.isSome_iff_exists.1 hs
        simp [get_killB, get_del, hd, hx]

theorem killLs_rep (n : NewIn w w' g g' σ σ' DR DB nr nb kill) (m : Mem w g σ) : ∀ {ls : List L} {vs : List Value}, RepLs w g σ ls vs → RepLs w' g' σ' (killLs kill ls) vs
  | [], [], _ => trivial
  | l :: ls, v :: vs, h => by
    refine ⟨?_, killLs_rep n m h.2⟩
    by_cases hk : kill l = true
    · simp only [hk, if_true]; exact h.1.one
    · have hk' : kill l = false := by simpa using hk
      simp only [hk', Bool.false_eq_true, if_false]
      exact h.1.stays (n.stays m hk')
  | [], _ :: _, h => h.elim
  | _ :: _, [], h => h.elim

theorem NewIn.mem (n : NewIn w w' g g' σ σ' DR DB nr nb kill) (m : Mem w g σ) : Mem w' g' σ' := by
  have rowC : ∀ r row, get σ'.row r = some row → get nr r = some row ∨ (r ∉ DR ∧ get nr r = none ∧ get σ.row r = some row) := by
    intro r row h
    rw [n.row, get_append] at h
    split at h
    · rename_i x hx; left; rw [hx]; exact h
    · rename_i hx
      rw [get_del] at h
      split at h
      · cases h
      · rename_i hd; exact Or.inr ⟨hd, hx, h⟩
  have boxC : ∀ k ls, get σ'.box k = some ls → get nb k = some ls ∨ (k ∉ DB ∧ ∃ ls0, get σ.box k = some ls0 ∧ ls = killLs kill ls0) := by
    intro k ls h
    rw [n.box, get_append] at h
    split at h
    · rename_i x hx; left; rw [hx]; exact h
    · rw [get_killB, get_del] at h
      split at h
      · cases h
      · rename_i hd
        simp only [Option.map_eq_some_iff] at h
        obtain ⟨ls0, h1, h2⟩ := h
        exact Or.inr ⟨hd, ls0, h1, h2.symm⟩
  -- a block of what stayed
  have oldR : ∀ {r : Nat} {row : Row}, get σ.row r = some row → row.pm ≠ .ro → r ∉ DR → ∀ b, g.fp r b → w'.heap[b]? = w.heap[b]? :=
    fun h hp hd b hb => n.old b (m.lt b (Or.inr ⟨_, _, h, hp, hb⟩)) (pool_row m h hp hd hb)
  have notNew : ∀ b, b < w.heap.size → ¬ Owned g σ b → ¬ Owned g' σ' b := fun b hlt h h' => (n.owned m h').1.elim h fun h => by omega
  have roF : ∀ {o : Bool} {v : Value} {t : T}, Rep w o v t (fun b => ¬ Owned g σ b) → Rep w' o v t fun b => ¬ Owned g' σ' b := by
    intro o v t h
    obtain ⟨G, hG, hs, hlt⟩ := h.lt
    exact (hG.frame fun b hb => n.old b (hlt b hb) fun h' => hs b hb (pool_owned h')).mono fun b hb => notNew b (hlt b hb) (hs b hb)
  refine ⟨?_, ?_, ?_, ?_, ?_, ?_, ?_, fun b h => (n.owned m h).2⟩
  · intro k ls h
    rcases boxC k ls h with h1 | ⟨hd, ls0, h1, e0⟩
    · exact n.boxes k ls h1
    · subst e0
      obtain ⟨cs, e, hc, hr⟩ := m.box k ls0 h1
      rw [n.bx_ k hd (by simp [h1])]
      exact ⟨cs, e, by rw [n.old _ (m.lt _ (Or.inl ⟨k, ls0, h1, rfl⟩)) (pool_box m h1 hd)]; exact hc, killLs_rep n m hr⟩
  · intro r row h hp
    rcases rowC r row h with h | ⟨hd, _, h⟩
    · exact n.own r row h hp
    · obtain ⟨e1, e2⟩ := n.rw_ r hd (by simp [h])
      rw [e1, e2]
      exact (m.own r row h hp).frame (oldR h (by simp [hp]) hd)
  · intro r row h hp
    rcases rowC r row h with h | ⟨hd, _, h⟩
    · exact n.top r row h hp
    · obtain ⟨e1, e2⟩ := n.rw_ r hd (by simp [h])
      rw [e1, e2]
      rcases m.top r row h hp with h0 | ⟨a, cap, cs, hv, hl, hF, hc⟩
      · exact Or.inl h0
      · exact Or.inr ⟨a, cap, cs, hv, hl.frame (oldR h (by simp [hp]) hd _ hF), hF, fun i j x c hx hcc => roF (hc i j x c hx hcc)⟩
  · intro r row h hp
    rcases rowC r row h with h | ⟨hd, _, h⟩
    · exact n.ro r row h hp
    · obtain ⟨e1, e2⟩ := n.rw_ r hd (by simp [h])
      rw [e1]
      exact roF (m.ro r row h hp)
  · intro k k' ls ls' h h' e
    rcases boxC k ls h with h | ⟨hd, ls0, h, _⟩ <;> rcases boxC k' ls' h' with h' | ⟨hd', ls0', h', _⟩
    · exact n.bb k k' ls ls' h h' e
    · exfalso
      rw [n.bx_ k' hd' (by simp [h'])] at e
      have := (n.bxp k ls h).1
      rw [e] at this
      exact this.elim (pool_box m h' hd') fun hge => by have := m.lt _ (Or.inl ⟨k', ls0', h', rfl⟩); omega
    · exfalso
      rw [n.bx_ k hd (by simp [h])] at e
      have := (n.bxp k' ls' h').1
      rw [← e] at this
      exact this.elim (pool_box m h hd) fun hge => by have := m.lt _ (Or.inl ⟨k, ls0, h, rfl⟩); omega
    · rw [n.bx_ k hd (by simp [h]), n.bx_ k' hd' (by simp [h'])] at e
      exact m.bb k k' ls0 ls0' h h' e
  · intro k ls r row h h' hp hb
    rcases boxC k ls h with h | ⟨hd, ls0, h, _⟩ <;> rcases rowC r row h' with h' | ⟨hd', _, h'⟩
    · exact n.br k ls r row h h' hp hb
    · rw [(n.rw_ r hd' (by simp [h'])).2] at hb
      exact (n.bxp k ls h).1.elim (pool_row m h' hp hd' hb) fun hge => by have := m.lt _ (Or.inr ⟨r, row, h', hp, hb⟩); omega
    · rw [n.bx_ k hd (by simp [h])] at hb
      exact (n.fp r row _ h' hp hb).1.elim (pool_box m h hd) fun hge => by have := m.lt _ (Or.inl ⟨k, ls0, h, rfl⟩); omega
    · rw [n.bx_ k hd (by simp [h]), (n.rw_ r hd' (by simp [h'])).2] at hb
      exact m.br k ls0 r row h h' hp hb
  · intro r r' row row' b h h' hp hp' hb hb'
    rcases rowC r row h with h | ⟨hd, _, h⟩ <;> rcases rowC r' row' h' with h' | ⟨hd', _, h'⟩
    · exact n.rr r r' row row' b h h' hp hp' hb hb'
    · exfalso
      rw [(n.rw_ r' hd' (by simp [h'])).2] at hb'
      exact (n.fp r row b h hp hb).1.elim (pool_row m h' hp' hd' hb') fun hge => by have := m.lt _ (Or.inr ⟨r', row', h', hp', hb'⟩); omega
    · exfalso
      rw [(n.rw_ r hd (by simp [h])).2] at hb
      exact (n.fp r' row' b h' hp' hb').1.elim (pool_row m h hp hd hb) fun hge => by have := m.lt _ (Or.inr ⟨r, row, h, hp, hb⟩); omega
    · rw [(n.rw_ r hd (by simp [h])).2] at hb
      rw [(n.rw_ r' hd' (by simp [h'])).2] at hb'
      exact m.rr r r' row row' b h h' hp hp' hb hb'

end

end Go.Tw
