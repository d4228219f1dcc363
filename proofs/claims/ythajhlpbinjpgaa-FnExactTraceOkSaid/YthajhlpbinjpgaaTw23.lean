/- The machine leaves what eff says: append, stores, all together. -/
import Derived.Test.YthajhlpbinjpgaaTw22
set_option linter.unusedSimpArgs false
set_option linter.unusedVariables false
namespace Go.Tw

section
variable {P : Program} {w0 w w' : World} {Al : Blks} {N : Nat} {g : Gh} {σ : St} {a : Act}

theorem run_append_op {t : TypeId} {s x : Operand} {dst : Option Tmp} {type : TypeId} {pos : String} {after : Array Edge} {guard : Option (Nat × Bool)} :
    (execOp a.eval { dst, op := .call { callee := .builtin .append, args := #[s, x], argTypes := #[t, t] }, type, pos, after, guard }).run P w =
      ((Builtin.append_ #[t, t] type #[a.eval s, a.eval x]).run P w).andThen fun v w' => .ok (.value v) w' := by
  simp only [execOp, resolve, invoke, builtin, Sem.run_bind, Sem.run_pure, Result.andThen_ok]
  rw [show Array.map a.eval #[s, x] = #[a.eval s, a.eval x] by simp]

theorem Flat.cells {o : Bool} {z : Nat} {els : Els} {vals : List Value} {f : Nat → Nat → Blks} (h : CellsRep w o z els vals f) (hf : Flat els) (o' : Bool) (f' : Nat → Nat → Blks) : CellsRep w o' z els vals f' := by
  refine ⟨h.len, h.each, fun i j x c hx hc => ?_⟩
  obtain ⟨v, hv, hr⟩ := h.rep i j x c hx hc
  exact ⟨v, hv, hr.flat (hf x (List.mem_of_getElem? hx) c (List.mem_of_getElem? hc))⟩

theorem small_sum {n by_ : Nat} (h : n * by_ ≤ 140737488355328) (h0 : 0 < by_) : n ≤ 9223372036854775807 := by
  have : n * 1 ≤ n * by_ := Nat.mul_le_mul_left n h0
  omega

theorem freeze_tgt {z : Nat} {rs rs2 : List Nat} {pm : Pm} {es : Els} {oa : Option Addr} {n cap : Nat} {olds : List Value} (m : Mem w g σ) (h : TgtOk w g σ z rs pm es oa n cap olds) (hd : ∀ r ∈ rs, r ∉ rs2) : TgtOk w g (σ.freeze rs2) z rs pm es oa n cap olds := by
  have hrow : ∀ r ∈ rs, get (σ.freeze rs2).row r = get σ.row r := fun r hr => by simp [St.freeze, get_append, get_frz, get_del, hd r hr]
  have hfp : ∀ b, RowsFp g σ rs b → RowsFp g (σ.freeze rs2) rs b := fun b ⟨r, row, h1, h2, h3⟩ => ⟨r, row, h1, by rw [hrow r h1]; exact h2, h3⟩
  refine ⟨h.len, h.cap_, h.holds, fun a ha hc => hfp _ (h.blk a ha hc), fun r hr => by rw [hrow r hr]; exact h.live r hr, fun hp => ?_, fun hp => ?_⟩
  · obtain ⟨f, h1, h2, h3, h4⟩ := h.own hp
    exact ⟨f, h1, fun i j b hb => hfp b (h2 i j b hb), h3, h4⟩
  · exact (h.top hp).mono fun i j v c hr => hr.mono fun b hb => RowsFp.ro m (Or.inr hb)

/-- What is appended, once its row is only read. -/
theorem src_frozen (m : Mem w g σ) {z : Nat} {x : V} {v : Value} {c : Prop} {r2 : Nat} {p2 : Path} {els : Els} (h : appS σ z x = some (c, some (r2, p2), els)) (hc : c) (hv : RepV w g σ x v) :
    ∃ ob k cap news, v = .slice ob k cap ∧ SrcOk w z els ob k news ∧ CellsRep w false z els news fun _ _ b => ¬ Owned g (σ.freeze [r2]) b := by
  unfold appS at h
  split at h
  · simp at h
  · rename_i r p z' off len
    split at h
    · rename_i zz es hn
      simp only [Option.some.injEq, Prod.mk.injEq] at h
      obtain ⟨rfl, ⟨rfl, rfl⟩, rfl⟩ := h
      subst hc
      obtain ⟨row', es', u, h1, h2, h3, h4, h5⟩ := hv
      have hn' : nodeOf σ r p = some (z', es') := by simp [nodeOf, h1, h2]
      rw [hn] at hn'
      simp only [Option.some.injEq, Prod.mk.injEq] at hn'
      obtain ⟨rfl, rfl⟩ := hn'
      obtain ⟨u', hu', hru⟩ := (m.lentRow h1).focus_ro h2
      rw [h3] at hu'
      cases hu'
      have hvw := hru.view h5 h4
      obtain ⟨oa, n, cap, oa', hu, rfl, hoa⟩ := id h5
      obtain ⟨g1, g2, vals, f, g3, g4, g5, g6, g7, g8⟩ := hvw.open
      exact ⟨oa', len, cap - off, vals, rfl, ⟨g1, g3.mono fun _ _ _ _ h => h.mono fun _ _ => trivial, g8, g3.one⟩, g3.mono fun i j v c h => h.mono fun b hb => RowsFp.ro m (g4 i j b hb)⟩
    · cases h
  · cases h

theorem eff_append (R : Rel w0 Al N σ a w g) {nm : Nat} {o : Oper} {args : Array Operand} {argTypes : Array TypeId} (ho : o.op = .call { callee := .builtin .append, args, argTypes }) {c : Prop} {σ' : St} {rv : Option V}
    (h : eff P σ nm (.call { callee := .builtin .append, args, argTypes }) = some (c, σ', rv)) (hc : c) : Leaves w false w0 Al N σ' a rv ((execOp a.eval o).run P w) := by
  obtain ⟨dst, op, type, pos, after, guard⟩ := o
  simp only at ho
  subst ho
  simp only [eff] at h
  split at h
  · rename_i s x t t' ha ht
    have ea : args = #[s, x] := by cases args; simpa using ha
    have et : argTypes = #[t, t'] := by cases argTypes; simpa using ht
    subst ea; subst et
    split at h
    · rename_i e c1 vs c2 vx hu hs hx
      split at h
      · rename_i c3 rs pm es c4 who els hT hS
        split at h
        · -- flat, onto own
          simp only [Option.some.injEq, Prod.mk.injEq] at h
          obtain ⟨rfl, rfl, rfl⟩ := h
          obtain ⟨rfl, h1, h2, h3, h4, h5, h6, h7, h8, h9⟩ := hc
          obtain ⟨_, oa, n, cap, olds, q1, q2⟩ := appT_ok R.mem hT h3 (evO_rep R.slots hs h1)
          obtain ⟨ob, k, cap2, news, q3, q4, _⟩ := appS_ok R.mem hS h4 (evO_rep R.slots hx h2)
          obtain ⟨rv, w', g', d1, d2, d3⟩ := append_own (P := P) (ty := type) (c := cap2) R hu h8 rfl (rs2 := []) (f2 := fun _ _ _ => False) q2 q4 (Flat.cells q4.cells h5 true _) (fun _ _ _ h => h.elim) (fun _ _ _ _ _ h => h.elim) (by simp) h9 h6 (small_sum h6 h7)
          refine ⟨_, w', g', ?_, fun e => (by cases e), d2, rv, rfl, d3⟩
          rw [run_append_op, q1, q3, d1]
          rfl
        · -- flat, onto top
          rename_i hne
          simp only [Option.some.injEq, Prod.mk.injEq] at h
          obtain ⟨rfl, rfl, rfl⟩ := h
          obtain ⟨rfl, h1, h2, h3, h4, h5, h6, h7, h8, h9, h10⟩ := hc
          obtain ⟨_, oa, n, cap, olds, q1, q2⟩ := appT_ok R.mem hT h3 (evO_rep R.slots hs h1)
          obtain ⟨ob, k, cap2, news, q3, q4, _⟩ := appS_ok R.mem hS h4 (evO_rep R.slots hx h2)
          obtain ⟨rv, w', g', d1, d2, d3⟩ := append_top (P := P) (ty := type) (c := cap2) R hu h8 rfl h10 q2 q4 (Flat.cells q4.cells h5 false _) h9 h6 (small_sum h6 h7)
          refine ⟨_, w', g', ?_, fun e => (by cases e), d2, rv, rfl, d3⟩
          rw [run_append_op, q1, q3, d1]
          rfl
        · rename_i r2 _
          split at h
          · rename_i row2 hrow2
            split at h
            · -- moved
              rename_i hpm2
              simp only [Option.some.injEq, Prod.mk.injEq] at h
              obtain ⟨rfl, rfl, rfl⟩ := h
              obtain ⟨rfl, h1, h2, h3, h4, h5, h6, h7, h8, h9⟩ := hc
              obtain ⟨_, oa, n, cap, olds, q1, q2⟩ := appT_ok R.mem hT h3 (evO_rep R.slots hs h1)
              obtain ⟨ob, k, cap2, news, q3, q4, q5⟩ := appS_ok R.mem hS h4 (evO_rep R.slots hx h2)
              obtain ⟨f2, f3, f4, f5⟩ := q5 r2 row2 rfl hrow2 hpm2
              obtain ⟨rv, w', g', d1, d2, d3⟩ := append_own (P := P) (ty := type) (c := cap2) R hu h8 rfl (rs2 := [r2]) q2 q4 f3 f4 f5 (fun r hr e => h5 (by simp only [List.mem_singleton] at e; rw [← e]; exact hr)) h9 h6 (small_sum h6 h7)
              refine ⟨_, w', g', ?_, fun e => (by cases e), d2, rv, rfl, d3⟩
              rw [run_append_op, q1, q3, d1]
              rfl
            · -- shared
              simp only [Option.some.injEq, Prod.mk.injEq] at h
              obtain ⟨rfl, rfl, rfl⟩ := h
              obtain ⟨rfl, h1, h2, h3, h4, h5, h6, h7, h8, h9⟩ := hc
              obtain ⟨_, oa, n, cap, olds, q1, q2⟩ := appT_ok R.mem hT h3 (evO_rep R.slots hs h1)
              obtain ⟨ob, k, cap2, news, q3, q4, q5⟩ := src_frozen R.mem hS h4 (evO_rep R.slots hx h2)
              obtain ⟨rv, w', g', d1, d2, d3⟩ := append_top (P := P) (ty := type) (c := cap2) (rel_freeze R [r2]) hu h8 rfl (by simp) (freeze_tgt R.mem q2 (fun r hr e => h5 (by simp only [List.mem_singleton] at e; rw [← e]; exact hr))) q4 q5 (freeze_none h9) h6 (small_sum h6 h7)
              refine ⟨_, w', g', ?_, fun e => (by cases e), d2, rv, rfl, d3⟩
              rw [run_append_op, q1, q3, d1]
              rfl
          · cases h
        · -- shared
          rename_i r2 p2 _ _
          simp only [Option.some.injEq, Prod.mk.injEq] at h
          obtain ⟨rfl, rfl, rfl⟩ := h
          obtain ⟨rfl, h1, h2, h3, h4, h5, h6, h7, h8, h9, h10⟩ := hc
          obtain ⟨_, oa, n, cap, olds, q1, q2⟩ := appT_ok R.mem hT h3 (evO_rep R.slots hs h1)
          obtain ⟨ob, k, cap2, news, q3, q4, q5⟩ := src_frozen R.mem hS h4 (evO_rep R.slots hx h2)
          obtain ⟨rv, w', g', d1, d2, d3⟩ := append_top (P := P) (ty := type) (c := cap2) (rel_freeze R [r2]) hu h8 rfl h10 (freeze_tgt R.mem q2 (fun r hr e => h5 (by simp only [List.mem_singleton] at e; rw [← e]; exact hr))) q4 q5 (freeze_none h9) h6 (small_sum h6 h7)
          refine ⟨_, w', g', ?_, fun e => (by cases e), d2, rv, rfl, d3⟩
          rw [run_append_op, q1, q3, d1]
          rfl
        · -- nothing
          simp only [Option.some.injEq, Prod.mk.injEq] at h
          obtain ⟨rfl, rfl, rfl⟩ := h
          obtain ⟨rfl, h1, h2, h3, h4, h6, h7, h8, h9⟩ := hc
          obtain ⟨_, oa, n, cap, olds, q1, q2⟩ := appT_ok R.mem hT h3 (evO_rep R.slots hs h1)
          obtain ⟨ob, k, cap2, news, q3, q4, _⟩ := appS_ok R.mem hS h4 (evO_rep R.slots hx h2)
          have hels : els = [] := by
            unfold appS at hS
            split at hS
            · simp only [Option.some.injEq, Prod.mk.injEq] at hS; exact hS.2.2.symm
            · split at hS <;> simp at hS
            · cases hS
          obtain ⟨rv, w', g', d1, d2, d3⟩ := append_own (P := P) (ty := type) (c := cap2) R hu h8 rfl (rs2 := []) (f2 := fun _ _ _ => False) q2 q4 (Flat.cells q4.cells (by rw [hels]; intro x hx; simp at hx) true _) (fun _ _ _ h => h.elim) (fun _ _ _ _ _ h => h.elim) (by simp) h9 h6 (small_sum h6 h7)
          refine ⟨_, w', g', ?_, fun e => (by cases e), d2, rv, rfl, d3⟩
          rw [run_append_op, q1, q3, d1]
          rfl
        · cases h
      · cases h
    · cases h
  · cases h

end

end Go.Tw
