/- The machine answers as pv says: all operations together. -/
import Derived.Test.YthajhlpbinjpgaaTw8
import Derived.ChangeKeysEq
set_option linter.unusedSimpArgs false
set_option linter.unusedVariables false
namespace Go.Tw

section
variable {P : Program} {w : World} {g : Gh} {σ : St} {a : Act}

theorem str_at {s : ByteArray} {i : Int} (h0 : 0 ≤ i) (h : i < (s.size : Int)) : s[i.toNat]? = some (s.data.getD i.toNat 0) := by
  have hi : i.toNat < s.size := by omega
  rw [getElem?_pos s i.toNat hi]
  congr 1
  have hi' : i.toNat < s.data.size := hi
  rw [Array.getD_eq_getD_getElem?, Array.getElem?_eq_getElem hi']
  rfl

theorem ofLeaves_agg {b : Bool} {ls : List L} {v : V} (h : ofLeaves b ls = some v) : (b = true ∧ v = .agg ls) ∨ (b = false ∧ ∃ l, ls = [l] ∧ v = .l l) := by
  unfold ofLeaves at h
  cases b with
  | true => simp at h; exact Or.inl ⟨rfl, h.symm⟩
  | false =>
    simp only [Bool.false_eq_true, if_false] at h
    split at h
    · simp at h; exact Or.inr ⟨rfl, _, rfl, h.symm⟩
    · cases h

theorem RepWs.nth : ∀ {xs : List (Bool × List L)} {vs : List Value}, RepWs w g σ xs vs → ∀ {j : Nat} {x : Bool × List L}, xs[j]? = some x → ∃ v, vs[j]? = some v ∧ RepW w g σ x.1 x.2 v
  | x :: xs, v :: vs, h, 0, x', hx => by simp at hx; subst hx; exact ⟨v, rfl, h.1⟩
  | x :: xs, v :: vs, h, j + 1, x', hx => by simpa using RepWs.nth h.2 (by simpa using hx)
  | [], _, _, _, _, hx => by simp at hx
  | _ :: _, [], h, _, _, _ => h.elim

theorem eqFields_run {w1 : World} (d : Nat) (xs ys : List Value) : ∀ (fs : List Field) (ks : List Bool) (off : Nat) (l1 l2 : List L) (b : Bool), fieldKindsL P off fs = some ks → eqLs ks l1 l2 = some b → RepLs w g σ l1 (xs.drop off) → RepLs w g σ l2 (ys.drop off) →
    (Op.eqFields (d + 1) xs.toArray ys.toArray fs).run P w1 = .ok b w1
  | [], ks, off, l1, l2, b, hk, hb, _, _ => by
    simp only [fieldKindsL, Option.some.injEq] at hk
    subst hk
    match l1, l2, hb with
    | [], [], hb =>
      simp only [eqLs, Option.some.injEq] at hb
      subst hb
      simp [Op.eqFields]
    | [], _ :: _, hb => simp [eqLs] at hb
    | _ :: _, _, hb => simp [eqLs] at hb
  | f :: fs, ks, off, l1, l2, b, hk, hb, h1, h2 => by
    have split : ∀ {l : L} {ls : List L} {zs : List Value}, RepLs w g σ (l :: ls) (zs.drop off) → ∃ v, zs.toArray[off]? = some v ∧ RepL w g σ l v ∧ RepLs w g σ ls (zs.drop (off + 1)) := by
      intro l ls zs h
      cases hd : zs.drop off with
      | nil => rw [hd] at h; exact h.elim
      | cons v r =>
        rw [hd] at h
        have hlt : off < zs.length := by
          apply Nat.lt_of_not_le
          intro hle
          rw [List.drop_of_length_le hle] at hd
          cases hd
        rw [List.drop_eq_getElem_cons hlt] at hd
        obtain ⟨rfl, rfl⟩ := List.cons.inj hd
        exact ⟨_, by simp [hlt], h.1, h.2⟩
    simp only [fieldKindsL] at hk
    split at hk
    · rename_i hf
      obtain ⟨hoff, hname⟩ := hf
      split at hk
      · rename_i k hu
        simp only [Option.map_eq_some_iff] at hk
        obtain ⟨ks', hk', rfl⟩ := hk
        match l1, l2, hb with
        | .t (.int .i64 p) :: l1, .t (.int .i64 q) :: l2, hb =>
          simp only [eqLs, Option.map_eq_some_iff] at hb
          obtain ⟨b', hb', rfl⟩ := hb
          obtain ⟨v1, g1, r1, t1⟩ := split h1
          obtain ⟨v2, g2, r2, t2⟩ := split h2
          have e1 := rep_int (g := g) (σ := σ) r1
          have e2 := rep_int (g := g) (σ := σ) r2
          subst e1 e2
          have hp : P.plainKey f.type = true := by simp [Program.plainKey, hu]
          have ih := eqFields_run (w1 := w1) d xs ys fs ks' (off + 1) l1 l2 b' hk' hb' t1 t2
          subst hoff
          simp only [Op.eqFields, hname, ne_eq, not_false_eq_true, if_true, Sem.run_bind, run_part_plain w1 hp g1, run_part_plain w1 hp g2, Result.andThen_ok, run_equalIn_int w1 d f.type .i64 k p q hu]
          cases hpq : (p == q) with
          | true => simpa using ih
          | false => simp
        | [], _, hb => simp [eqLs] at hb
        | .t (.int .i64 _) :: _, [], hb => simp [eqLs] at hb
      · rename_i hu
        simp only [Option.map_eq_some_iff] at hk
        obtain ⟨ks', hk', rfl⟩ := hk
        match l1, l2, hb with
        | .t (.bool p) :: l1, .t (.bool q) :: l2, hb =>
          simp only [eqLs, Option.map_eq_some_iff] at hb
          obtain ⟨b', hb', rfl⟩ := hb
          obtain ⟨v1, g1, r1, t1⟩ := split h1
          obtain ⟨v2, g2, r2, t2⟩ := split h2
          have e1 := rep_bool (g := g) (σ := σ) r1
          have e2 := rep_bool (g := g) (σ := σ) r2
          subst e1 e2
          have hp : P.plainKey f.type = true := by simp [Program.plainKey, hu]
          have ih := eqFields_run (w1 := w1) d xs ys fs ks' (off + 1) l1 l2 b' hk' hb' t1 t2
          subst hoff
          simp only [Op.eqFields, hname, ne_eq, not_false_eq_true, if_true, Sem.run_bind, run_part_plain w1 hp g1, run_part_plain w1 hp g2, Result.andThen_ok, run_equalIn_bool' w1 d f.type p q hu]
          cases hpq : (p == q) with
          | true => simpa using ih
          | false => simp
        | [], _, hb => simp [eqLs] at hb
        | .t (.bool _) :: _, [], hb => simp [eqLs] at hb
      · cases hk
    · cases hk

theorem eqAgg_run {w1 : World} {op : BinOp} {t : TypeId} {x y : Operand} {ks : List Bool} {l1 l2 : List L} {xs ys : List Value} {b : Bool} (hk : fieldKinds P t = some ks) (hb : eqLs ks l1 l2 = some b) (h1 : RepLs w g σ l1 xs) (h2 : RepLs w g σ l2 ys) :
    (eqGuard op t x y (.agg xs.toArray) (.agg ys.toArray)).run P w1 = .ok () w1 ∧ (Op.equalIn 10000 t (.agg xs.toArray) (.agg ys.toArray)).run P w1 = .ok b w1 := by
  unfold fieldKinds at hk
  split at hk
  · rename_i fs hu
    split at hk
    · rename_i hst
      have hfs : P.fieldsOf t = fs := by simp [Program.fieldsOf, hu]
      refine ⟨run_eqGuard_agg w1 op t x y _ _ hst.2, ?_⟩
      show (Op.equalIn (9999 + 1) t _ _).run P w1 = _
      rw [run_equalIn_struct w1 9999 t _ _ (by rw [hfs]; exact hu) hst.1, hfs]
      exact eqFields_run 9998 xs ys fs.toList ks 0 l1 l2 b hk hb (by simpa using h1) (by simpa using h2)
    · cases hk
  · cases hk

theorem eqGuard_run {op : BinOp} {t : TypeId} {x y : Operand} {u v : Value} {ta : T} {F : Blks} {w1 : World} (h : Rep w false u ta F) (hh : ta ≠ .hole) : (eqGuard op t x y u v).run P w1 = .ok () w1 := by
  unfold eqGuard
  cases h with
  | hole => exact absurd rfl hh
  | _ => cases op <;> rfl

set_option maxHeartbeats 1000000 in
theorem pv_runs (m : Mem w g σ) (hs : Slots w g σ a) {o : Oper} {c : Prop} {v : V} (h : pv P σ o.op = some (c, v)) (hc : c) : ∃ r, (∀ w1, Kept w w1 → (execOp a.eval o).run P w1 = .ok (.value r) w1) ∧ RepV w g σ v r := by
  obtain ⟨dst, op, type, pos, after, guard⟩ := o
  simp only at h
  cases op with
  | move x =>
    simp only [pv, Option.map_eq_some_iff, Prod.mk.injEq] at h
    obtain ⟨⟨c0, v0⟩, hx, rfl, rfl⟩ := h
    exact ⟨_, fun w1 hk1 => by simp [execOp], evO_rep hs hx hc⟩
  | assign x =>
    simp only [pv, Option.map_eq_some_iff, Prod.mk.injEq] at h
    obtain ⟨⟨c0, v0⟩, hx, rfl, rfl⟩ := h
    exact ⟨_, fun w1 hk1 => by simp [execOp], evO_rep hs hx hc⟩
  | pick x y z =>
    simp only [pv] at h
    split at h
    · rename_i cc x0 ca y0 cb z0 hx hy hz
      simp only [Option.some.injEq, Prod.mk.injEq] at h
      obtain ⟨rfl, rfl⟩ := h
      obtain ⟨h1, h2, h3⟩ := hc
      have e1 := rep_bool (g := g) (σ := σ) (evO_rep hs hx h1)
      cases x0 with
      | true => exact ⟨a.eval y, fun w1 hk1 => by simp [execOp, e1, asBool], evO_rep hs hy (h2 rfl)⟩
      | false => exact ⟨a.eval z, fun w1 hk1 => by simp [execOp, e1, asBool], evO_rep hs hz (h3 rfl)⟩
    · cases h
  | binOp op t x y yt =>
    simp only [pv] at h
    split at h
    · rename_i c1 ta c2 tb hx hy
      split at h
      · rename_i a0 b0
        simp only [Option.some.injEq, Prod.mk.injEq] at h
        obtain ⟨rfl, rfl⟩ := h
        obtain ⟨h1, h2, h3⟩ := hc
        have e1 := rep_bool (g := g) (σ := σ) (evO_rep hs hx h1)
        have e2 := rep_bool (g := g) (σ := σ) (evO_rep hs hy h2)
        exact ⟨.bool (a0 == b0), fun w1 hk1 => by simp [execOp, e1, e2, eqGuard, run_eql_bool w1 t a0 b0 (u_bool h3)], .bool⟩
      · rename_i a0 b0
        simp only [Option.some.injEq, Prod.mk.injEq] at h
        obtain ⟨rfl, rfl⟩ := h
        obtain ⟨h1, h2, h3⟩ := hc
        have e1 := rep_bool (g := g) (σ := σ) (evO_rep hs hx h1)
        have e2 := rep_bool (g := g) (σ := σ) (evO_rep hs hy h2)
        exact ⟨.bool (!(a0 == b0)), fun w1 hk1 => by simp [execOp, e1, e2, eqGuard, run_neq_bool w1 t a0 b0 (u_bool h3)], .bool⟩
      · simp only [Option.map_eq_some_iff, Prod.mk.injEq] at h
        obtain ⟨⟨c0, z0⟩, hb, rfl, rfl⟩ := h
        obtain ⟨h1, h2, h3⟩ := hc
        have r1 : Rep w false (a.eval x) ta fun _ => False := evO_rep hs hx h1
        have r2 : Rep w false (a.eval y) tb fun _ => False := evO_rep hs hy h2
        obtain ⟨r, hr, hrep⟩ := binT_run (P := P) (t := t) r1 r2 hb h3
        refine ⟨r, fun w1 hk1 => ?_, hrep⟩
        have hg : (eqGuard op t x y (a.eval x) (a.eval y)).run P w1 = .ok () w1 := eqGuard_run r1 (fun e => by rw [e] at hb; simp [binT] at hb)
        simp only [execOp, Sem.run_bind, hg, Result.andThen_ok, hr, Sem.run_pure]
    · rename_i c1 l1 c2 l2 hx hy
      split at h
      · rename_i ks hk
        simp only [Option.map_eq_some_iff, Prod.mk.injEq] at h
        obtain ⟨b, hb, rfl, rfl⟩ := h
        obtain ⟨us, e1, r1⟩ := evO_rep hs hx hc.1
        obtain ⟨vs, e2, r2⟩ := evO_rep hs hy hc.2
        refine ⟨.bool b, fun w1 hk1 => ?_, .bool⟩
        obtain ⟨hg, hr⟩ := eqAgg_run (w1 := w1) (op := .eql) (x := x) (y := y) hk hb r1 r2
        simp only [execOp, e1, e2, Sem.run_bind, hg, Result.andThen_ok, run_eql_struct, hr, Sem.run_pure]
      · rename_i ks hk
        simp only [Option.map_eq_some_iff, Prod.mk.injEq] at h
        obtain ⟨b, hb, rfl, rfl⟩ := h
        obtain ⟨us, e1, r1⟩ := evO_rep hs hx hc.1
        obtain ⟨vs, e2, r2⟩ := evO_rep hs hy hc.2
        refine ⟨.bool (!b), fun w1 hk1 => ?_, .bool⟩
        obtain ⟨hg, hr⟩ := eqAgg_run (w1 := w1) (op := .neq) (x := x) (y := y) hk hb r1 r2
        simp only [execOp, e1, e2, Sem.run_bind, hg, Result.andThen_ok, run_neq_struct, hr, Sem.run_pure]
      · cases h
    · cases h
  | unOp op t x =>
    simp only [pv] at h
    split at h
    · rename_i c0 ta hx
      simp only [Option.map_eq_some_iff, Prod.mk.injEq] at h
      obtain ⟨z, hz, rfl, rfl⟩ := h
      have r1 : Rep w false (a.eval x) ta fun _ => False := evO_rep hs hx hc
      unfold notT at hz
      split at hz
      · split at hz
        · simp only [Option.some.injEq] at hz
          subst hz
          rename_i b0
          have e1 := rep_bool (g := g) (σ := σ) r1
          exact ⟨_, fun w1 hk1 => by simp only [execOp, e1, Op.unary]; rfl, .bool⟩
        · cases hz
      · split at hz
        · simp only [Option.some.injEq] at hz
          subst hz
          rename_i k n
          have e1 := rep_int (g := g) (σ := σ) r1
          exact ⟨_, fun w1 hk1 => by simp only [execOp, e1, Op.unary, Op.intArith]; rfl, .int⟩
        · cases hz
      · cases hz
    · cases h
  | convert src dst x =>
    simp only [pv] at h
    split at h
    · rename_i c0 ta hx
      simp only [Option.map_eq_some_iff, Prod.mk.injEq] at h
      obtain ⟨⟨c1, z⟩, hz, rfl, rfl⟩ := h
      obtain ⟨h1, h2⟩ := hc
      have r1 : Rep w false (a.eval x) ta fun _ => False := evO_rep hs hx h1
      unfold convT at hz
      split at hz
      · rename_i k0 n
        have e1 := rep_int (g := g) (σ := σ) r1
        split at hz
        · rename_i k hk
          simp only [Option.some.injEq, Prod.mk.injEq] at hz
          obtain ⟨rfl, rfl⟩ := hz
          obtain ⟨d, hd⟩ := Option.isSome_iff_exists.1 (u_ok h2)
          exact ⟨.int k (k.wrap n), fun w1 hk1 => by simp only [execOp, convert, Sem.run_bind, run_underlying hd, Result.andThen_ok, run_underlying (u_int hk), e1]; cases d <;> rfl, .int⟩
        · rename_i hk
          simp only [Option.some.injEq, Prod.mk.injEq] at hz
          obtain ⟨rfl, rfl⟩ := hz
          obtain ⟨d, hd⟩ := Option.isSome_iff_exists.1 (u_ok h2)
          exact ⟨.string (Utf8.encode n), fun w1 hk1 => by simp only [execOp, convert, Sem.run_bind, run_underlying hd, Result.andThen_ok, run_underlying (u_str hk), e1]; cases d <;> rfl, .str⟩
        · cases hz
      · cases hz
    · cases h
  | extract x i =>
    simp only [pv] at h
    split at h
    · rename_i c0 vs hx
      split at h
      · rename_i ls hi
        simp only [Option.some.injEq, Prod.mk.injEq] at h
        obtain ⟨rfl, rfl⟩ := h
        obtain ⟨us, e, hr⟩ := evO_rep hs hx hc
        obtain ⟨u, hu, hru⟩ := hr.nth hi
        refine ⟨u, fun w1 hk1 => by simp [execOp, e, Instr.extract, hu], ?_⟩
        simp only [RepW, if_true] at hru
        exact hru
      · rename_i l hi
        simp only [Option.some.injEq, Prod.mk.injEq] at h
        obtain ⟨rfl, rfl⟩ := h
        obtain ⟨us, e, hr⟩ := evO_rep hs hx hc
        obtain ⟨u, hu, hru⟩ := hr.nth hi
        refine ⟨u, fun w1 hk1 => by simp [execOp, e, Instr.extract, hu], ?_⟩
        simp only [RepW, Bool.false_eq_true, if_false, List.cons.injEq, and_true] at hru
        obtain ⟨l', rfl, hru⟩ := hru
        exact hru
      · cases h
    · cases h
  | nilCheck x =>
    simp only [pv] at h
    split at h
    · rename_i c0 b j hx
      simp only [Option.some.injEq, Prod.mk.injEq] at h
      obtain ⟨rfl, rfl⟩ := h
      obtain ⟨h1, h2⟩ := evO_rep hs hx hc
      exact ⟨_, fun w1 hk1 => by simp only [execOp, h2]; rfl, h1, rfl⟩
    · rename_i c0 r p i j hx
      simp only [Option.some.injEq, Prod.mk.injEq] at h
      obtain ⟨rfl, rfl⟩ := h
      have hr := evO_rep hs hx hc
      obtain ⟨row, z, es, ad, n, cap, h1, h2, h3, h4, h5, h6⟩ := id hr
      exact ⟨_, fun w1 hk1 => by simp only [execOp, h6]; rfl, row, z, es, ad, n, cap, h1, h2, h3, h4, h5, rfl⟩
    · cases h
  | fieldAddr t x f =>
    simp only [pv] at h
    split at h
    · rename_i c0 v0 fs hx hu
      split at h
      · rename_i off sz b hf
        simp only [Option.map_eq_some_iff, Prod.mk.injEq] at h
        obtain ⟨u, hu', rfl, rfl⟩ := h
        obtain ⟨ad, e, hr⟩ := ptrAdd_run hu' (evO_rep hs hx hc.1)
        obtain ⟨gs, hgs, rfl⟩ := u_st hu
        simp only [List.getElem?_map, Option.map_eq_some_iff, Prod.mk.injEq] at hf
        obtain ⟨fd, hfd, rfl, rfl, rfl⟩ := hf
        have hinfo : (P.info? fd.type).isSome := by
          have := hc.2
          unfold Program.cellsOf at this
          cases hi : P.info? fd.type with
          | none => simp [hi] at this
          | some i => rfl
        refine ⟨_, fun w1 hk1 => ?_, hr⟩
        have h0 : ¬ P.cellsOf fd.type = 0 := by omega
        have hfd' : gs[f]? = some fd := by simpa using hfd
        simp only [execOp, e, Instr.fieldAt, Sem.run_bind, run_underlying hgs, Result.andThen_ok, hfd', Instr.sureAddr, Sem.run_pure, fieldPlace, run_sizeOf_info hinfo, h0, if_false]
      · cases h
    · cases h
  | indexAddr t x ix =>
    simp only [pv] at h
    split at h
    · rename_i c1 r p z off len c2 k i e hx hix hu
      simp only [Option.some.injEq, Prod.mk.injEq] at h
      obtain ⟨rfl, rfl⟩ := h
      obtain ⟨h1, h2, h3, h4, h5⟩ := hc
      obtain ⟨v, hv, hr⟩ := index_run m hs hx hix hu h1 h2 h3 h4 h5 e
      exact ⟨v, fun w1 hk1 => by simp only [execOp, Sem.run_bind, hv, Result.andThen_ok, Sem.run_pure], hr⟩
    · rename_i c1 b j c2 k i n e hx hix hu
      simp only [Option.some.injEq, Prod.mk.injEq] at h
      obtain ⟨rfl, rfl⟩ := h
      obtain ⟨h1, h2, h3, h5⟩ := hc
      obtain ⟨hb, e1⟩ := evO_rep hs hx h1
      have hi' : a.eval ix = .int k i := rep_int (g := g) (σ := σ) (evO_rep hs hix h2)
      refine ⟨.pointer (some ((⟨g.bx b, j, none⟩ : Addr).add (i.toNat * (tyOf P e).sz))), fun w1 hk1 => ?_, hb, by rw [Addr.add_plain rfl]⟩
      simp only [execOp, e1, hi', Instr.indexAt, asIntOf, Sem.run_bind, Sem.run_pure, Result.andThen_ok, run_underlying (u_arr hu), Instr.sureAddr, h3, and_self, if_true, run_sizeOf' h5]
    · cases h
  | load t x =>
    simp only [pv] at h
    split at h
    · rename_i c0 v0 hx
      simp only [Option.map_eq_some_iff, Prod.mk.injEq] at h
      obtain ⟨⟨c1, z⟩, hz, rfl, rfl⟩ := h
      obtain ⟨r, hr, hrep⟩ := loadV_run m (evO_rep hs hx hc.1) hz hc.2
      exact ⟨r, fun w1 hk1 => by simp [execOp, hr w1 hk1], hrep⟩
    · cases h
  | index t x ix =>
    simp only [pv] at h
    split at h
    · rename_i c1 s c2 k i hx hix hu
      simp only [Option.some.injEq, Prod.mk.injEq] at h
      obtain ⟨rfl, rfl⟩ := h
      obtain ⟨h1, h2, h3⟩ := hc
      have e1 := rep_str (g := g) (σ := σ) (evO_rep hs hx h1)
      have e2 : a.eval ix = .int k i := rep_int (g := g) (σ := σ) (evO_rep hs hix h2)
      refine ⟨_, fun w1 hk1 => ?_, .int⟩
      simp only [execOp, e1, e2, Instr.index, asIntOf, Sem.run_bind, Sem.run_pure, Result.andThen_ok, run_underlying (u_str hu), h3.1, if_true, str_at h3.1 h3.2]
    · cases h
  | build t parts =>
    simp only [pv] at h
    split at h
    · rename_i fs hu
      simp only [Option.map_eq_some_iff, Prod.mk.injEq] at h
      obtain ⟨⟨c1, z⟩, hz, rfl, rfl⟩ := h
      obtain ⟨r, hr, hrep⟩ := build_run hs hu hc.2.1 hc.1 hz hc.2.2
      exact ⟨r, fun w1 hk1 => by simp only [execOp, Sem.run_bind]; rw [hr]; rfl, hrep⟩
    · cases h
  | makeFunc fn first caps =>
    simp only [pv] at h
    split at h
    · rename_i f hf
      simp only [Option.map_eq_some_iff, Prod.mk.injEq] at h
      obtain ⟨⟨c1, bs⟩, hq, rfl, rfl⟩ := h
      obtain ⟨h1, h2⟩ := caps_run hs _ _ _ hq hc
      have hf' : first = #[] := by cases first; simpa using hf
      refine ⟨_, fun w1 hk1 => by simp only [execOp, Instr.makeFunc, Sem.run_bind, Sem.run_pure, Result.andThen_ok]; rfl, h1, ?_⟩
      rw [hf', ← h2]
      simp only [Array.map_empty, List.map_toArray]
      congr 1
      apply Array.ext'
      simp
    · cases h
  | slice t x lo hi mx =>
    simp only [pv] at h
    split at h
    · rename_i c1 r p z off len e hx hu
      split at h
      · rename_i c2 l c3 hh z' es hl hhi hn
        simp only [Option.some.injEq, Prod.mk.injEq] at h
        obtain ⟨rfl, rfl⟩ := h
        obtain ⟨h1, h2, h3, h4, h5, h6⟩ := hc
        obtain ⟨v, hv, hr⟩ := slice_run m hs hx hu hl hhi hn h1 h2 h3 h4 h5 h6
        exact ⟨v, fun w1 hk1 => by simp only [execOp, Sem.run_bind, Option.map_none, hv, Result.andThen_ok, Sem.run_pure], hr⟩
      · cases h
    · rename_i c1 e hx hu
      split at h
      · rename_i c2 l c3 hh hl hhi
        simp only [Option.some.injEq, Prod.mk.injEq] at h
        obtain ⟨rfl, rfl⟩ := h
        obtain ⟨h1, h2, h3, ⟨rfl, rfl⟩, h6⟩ := hc
        obtain ⟨oa, e1⟩ := evO_rep hs hx h1
        have hb := fun w1 => bounds_run (P := P) (w := w) (w1 := w1) hs hl hhi h2 h3 (isS := true) (len := 0) (cap := 0) rfl (Int.le_refl 0) (Int.le_refl 0) (by omega)
        refine ⟨.slice oa 0 0, fun w1 hk1 => ?_, oa, rfl⟩
        simp only [execOp, Option.map_none, Instr.sliceAt, e1, Sem.run_bind, run_underlying (u_sl hu), Result.andThen_ok, Instr.slice, hb, run_sizeOf' h6, Sem.run_pure]
        simp
      · cases h
    · rename_i c1 s hx hu
      split at h
      · rename_i c2 l c3 hh hl hhi
        simp only [Option.some.injEq, Prod.mk.injEq] at h
        obtain ⟨rfl, rfl⟩ := h
        obtain ⟨h1, h2, h3, h4⟩ := hc
        have e1 := rep_str (g := g) (σ := σ) (evO_rep hs hx h1)
        have hb := fun w1 => bounds_run (P := P) (w := w) (w1 := w1) hs hl hhi h2 h3 (isS := false) (len := s.size) (cap := s.size) rfl h4.1 h4.2.1 h4.2.2
        refine ⟨.string (s.extract l.toNat hh.toNat), fun w1 hk1 => ?_, .str⟩
        simp only [execOp, Option.map_none, Instr.sliceAt, e1, Sem.run_bind, run_underlying (u_str hu), Result.andThen_ok, Instr.slice, Option.isSome_none, Bool.false_eq_true, if_false, hb, Sem.run_pure]
      · cases h
    · cases h
  | field t x f =>
    simp only [pv] at h
    split at h
    · rename_i c1 ls fs hx hu
      split at h
      · rename_i off sz agg hf
        simp only [Option.map_eq_some_iff, Prod.mk.injEq] at h
        obtain ⟨u, hv, rfl, rfl⟩ := h
        obtain ⟨h1, h2, h3⟩ := hc
        obtain ⟨vs, e1, hr⟩ := evO_rep hs hx h1
        obtain ⟨gs, hgs, rfl⟩ := u_st hu
        simp only [List.getElem?_map, Option.map_eq_some_iff, Prod.mk.injEq] at hf
        obtain ⟨fd, hfd, rfl, rfl, rfl⟩ := hf
        have hfd' : gs[f]? = some fd := by simpa using hfd
        simp only [fieldsKnown, hgs, List.all_eq_true, Bool.and_eq_true] at h3
        obtain ⟨hi1, hi2⟩ := h3 fd (List.mem_of_getElem? hfd)
        have hpt := hr.part fd.offset (P.cellsOf fd.type)
        have hlv := hr.length
        rcases ofLeaves_agg hv with ⟨ha, rfl⟩ | ⟨ha, l, hl, rfl⟩
        · refine ⟨_, fun w1 hk1 => ?_, _, rfl, hpt⟩
          simp only [execOp, e1, Instr.field, Sem.run_bind, run_underlying hgs, Result.andThen_ok, hfd', asAgg, Sem.run_pure, part, run_isAgg' hi2, ha, if_true, run_sizeOf_info hi1]
          congr 3
          simp [List.take_drop]
        · rw [hl] at hpt
          obtain ⟨u, hu1, hru⟩ := hpt.nth (j := 0) rfl
          have hlen1 : P.cellsOf fd.type = 1 := by
            have := congrArg List.length hl
            simp at this
            omega
          rw [hlen1] at hu1
          have hcell : vs[fd.offset]? = some u := by
            rw [List.getElem?_take, if_pos (by omega), List.getElem?_drop] at hu1
            simpa using hu1
          refine ⟨u, fun w1 hk1 => ?_, hru⟩
          simp only [execOp, e1, Instr.field, Sem.run_bind, run_underlying hgs, Result.andThen_ok, hfd', asAgg, Sem.run_pure, part, run_isAgg' hi2, ha, Bool.false_eq_true, if_false]
          simp [hcell]
      · cases h
    · cases h
  | call c0 =>
    obtain ⟨callee, args, argTypes⟩ := c0
    cases callee with
    | builtin b =>
      simp only [pv] at h
      split at h
      · rename_i x t ha ht
        have e1 : args = #[x] := by cases args; simpa using ha
        have e2 : argTypes = #[t] := by cases argTypes; simpa using ht
        subst e1; subst e2
        split at h
        · rename_i c1 r p z off len el hx hu
          simp only [Option.some.injEq, Prod.mk.injEq] at h
          obtain ⟨rfl, rfl⟩ := h
          obtain ⟨_, _, _, _, _, _, _, _, _, _, _, _, e, _⟩ := evO_rep hs hx hc
          exact ⟨_, fun w1 hk1 => by simp [execOp, resolve, invoke, builtin, Builtin.len_, e, run_underlying (u_sl hu), goInt], .int⟩
        · rename_i c1 el hx hu
          simp only [Option.some.injEq, Prod.mk.injEq] at h
          obtain ⟨rfl, rfl⟩ := h
          obtain ⟨_, e⟩ := evO_rep hs hx hc
          exact ⟨_, fun w1 hk1 => by simp [execOp, resolve, invoke, builtin, Builtin.len_, e, run_underlying (u_sl hu), goInt], .int⟩
        · rename_i c1 s hx hu
          simp only [Option.some.injEq, Prod.mk.injEq] at h
          obtain ⟨rfl, rfl⟩ := h
          have e := rep_str (g := g) (σ := σ) (evO_rep hs hx hc)
          exact ⟨_, fun w1 hk1 => by simp [execOp, resolve, invoke, builtin, Builtin.len_, e, run_underlying (u_str hu), goInt], .int⟩
        · cases h
      · rename_i x y ha
        have e1 : args = #[x, y] := by cases args; simpa using ha
        subst e1
        split at h
        · rename_i c1 k n c2 k2 n2 hx hy
          simp only [Option.some.injEq, Prod.mk.injEq] at h
          obtain ⟨rfl, rfl⟩ := h
          have e := rep_int (g := g) (σ := σ) (evO_rep hs hx hc.1)
          have e' := rep_int (g := g) (σ := σ) (evO_rep hs hy hc.2)
          exact ⟨_, fun w1 hk1 => by simp [execOp, resolve, invoke, builtin, e, e', run_max_int2], .int⟩
        · cases h
      · rename_i x y ha
        have e1 : args = #[x, y] := by cases args; simpa using ha
        subst e1
        split at h
        · rename_i c1 k n c2 k2 n2 hx hy
          simp only [Option.some.injEq, Prod.mk.injEq] at h
          obtain ⟨rfl, rfl⟩ := h
          have e := rep_int (g := g) (σ := σ) (evO_rep hs hx hc.1)
          have e' := rep_int (g := g) (σ := σ) (evO_rep hs hy hc.2)
          exact ⟨_, fun w1 hk1 => by simp [execOp, resolve, invoke, builtin, e, e', run_min_int2], .int⟩
        · cases h
      · rename_i x t ha ht
        have e1 : args = #[x] := by cases args; simpa using ha
        have e2 : argTypes = #[t] := by cases argTypes; simpa using ht
        subst e1; subst e2
        split at h
        · rename_i c1 el hx hu
          simp only [Option.some.injEq, Prod.mk.injEq] at h
          obtain ⟨rfl, rfl⟩ := h
          obtain ⟨_, e⟩ := evO_rep hs hx hc
          exact ⟨_, fun w1 hk1 => by simp [execOp, resolve, invoke, builtin, Builtin.cap_, e, run_underlying (u_sl hu), goInt], .int⟩
        · cases h
      · cases h
    | _ => simp [pv] at h
  | _ => simp [pv] at h

theorem pv_run (m : Mem w g σ) (hs : Slots w g σ a) {o : Oper} {c : Prop} {v : V} (h : pv P σ o.op = some (c, v)) (hc : c) : ∃ r, (execOp a.eval o).run P w = .ok (.value r) w ∧ RepV w g σ v r := by
  obtain ⟨r, h1, h2⟩ := pv_runs m hs h hc
  exact ⟨r, h1 w (.refl w), h2⟩

end

end Go.Tw
