/- The layer: trees, states, rules; plain functions. -/
import Derived.Test.YtfajbeoajomljaaGreatBaseA
import Derived.Laws.MakeOwn
set_option linter.unusedSimpArgs false
set_option linter.unusedVariables false
set_option linter.unnecessarySimpa false
namespace Go.Tw
structure CellsRep (w:World) (o:Bool) (z:Nat) (es:Els) (vals:List Value) (f:Nat → Nat → Blks):Prop where
 len:vals.length = es.length * z
 each:∀ x ∈ es,x.length = z
 rep:∀ i j x c,es[i]? = some x → x[j]? = some c → ∃ v,vals[i * z + j]? = some v ∧ Rep w o v c (f i j)
theorem fc {z i j n:Nat} (hi:i < n) (hj:j < z):i * z + j < n * z:=by
 (have h1:i * z + j < (i + 1) * z:=by rw[Nat.add_mul,Nat.one_mul];omega);exact Nat.lt_of_lt_of_le h1 (Nat.mul_le_mul_right z (by omega))
theorem CellsRep.append {w:World} {o:Bool} {z:Nat} {es es':Els} {vals vals':List Value} {f f':Nat → Nat → Blks} (h:CellsRep w o z es vals f) (h':CellsRep w o z es' vals' f') :
  CellsRep w o z (es ++ es') (vals ++ vals') fun i j=>if i < es.length then f i j else f' (i - es.length) j:=by
 refine ⟨by simp[h.len,h'.len,Nat.add_mul],fun x hx=>(List.mem_append.1 hx).elim (h.each x) (h'.each x),fun i j x c hx hc=>?_⟩
 rw[List.getElem?_append] at hx
 split at hx
 ·rename_i hi
  obtain ⟨v,hv,hr⟩:=h.rep i j x c hx hc
  refine ⟨v,?_,by simpa [hi] using hr⟩
  have:i * z + j < vals.length:=(List.getElem?_eq_some_iff.1 hv).1
  rw[List.getElem?_append_left this]
  exact hv
 ·rename_i hi
  obtain ⟨v,hv,hr⟩:=h'.rep (i - es.length) j x c hx hc
  refine ⟨v,?_,by simpa [hi] using hr⟩
  have e:i * z + j = vals.length + ((i - es.length) * z + j):=by
   rw[h.len]
   have:i = es.length + (i - es.length):=by omega
   rw[this,Nat.add_mul]
   have:es.length + (i - es.length) - es.length = i - es.length:=by omega
   rw[this]
   omega
  rw[e,List.getElem?_append_right (by omega),Nat.add_sub_cancel_left]
  exact hv
theorem CellsRep.mono {w w':World} {o o':Bool} {z:Nat} {es:Els} {vals:List Value} {f f':Nat → Nat → Blks} (h:CellsRep w o z es vals f)
  (hf:∀ i j v c,Rep w o v c (f i j) → Rep w' o' v c (f' i j)):CellsRep w' o' z es vals f' :=
 ⟨h.len,h.each,fun i j x c hx hc=>let ⟨v,hv,hr⟩:=h.rep i j x c hx hc;⟨v,hv,hf i j v c hr⟩⟩
theorem CellsRep.part {w:World} {o:Bool} {z:Nat} {es:Els} {vals:List Value} {f:Nat → Nat → Blks} (h:CellsRep w o z es vals f) (off n:Nat) (hn:off + n ≤ es.length) :
  CellsRep w o z ((es.drop off).take n) ((vals.drop (off * z)).take (n * z)) fun i j=>f (i + off) j:=by
 have hl:=h.len
 have h1:(off + n) * z ≤ es.length * z:=Nat.mul_le_mul_right z hn
 rw[Nat.add_mul] at h1
 refine ⟨by simp;rw[Nat.min_eq_left (by omega),Nat.min_eq_left (by omega)],fun x hx=>h.each x (List.mem_of_mem_drop (List.mem_of_mem_take hx)),fun i j x c hx hc=>?_⟩
 rw[List.getElem?_take] at hx
 split at hx
 ·rename_i hi
  rw[List.getElem?_drop] at hx
  have hz:x.length = z:=h.each x (List.mem_of_getElem? hx)
  have hj:j < z:=hz ▸ (List.getElem?_eq_some_iff.1 hc).1
  obtain ⟨v,hv,hr⟩:=h.rep (off + i) j x c hx hc
  refine ⟨v,?_,by rw[Nat.add_comm i off];exact hr⟩
  rw[List.getElem?_take,if_pos (fc hi hj),List.getElem?_drop,← hv]
  congr 1
  rw[Nat.add_mul]
  omega
 ·cases hx
section
variable {w:World} {o:Bool} {z:Nat} {es:Els} {F:Blks}
theorem Rep.open {oa:Option Addr} {n cap:Nat} (h:Rep w o (.slice oa n cap) (.sl z es) F) :
  n = es.length ∧ n ≤ cap ∧ ∃ vals f,CellsRep w o z es vals f ∧ (∀ i j b,f i j b → F b) ∧ (o = true → ∀ i j i' j' b,f i j b → f i' j' b → i = i' ∧ j = j') ∧
   (o = true → ∀ a,oa = some a → cap ≠ 0 → F a.block ∧ ∀ i j,¬ f i j a.block) ∧ (o = true → Holds w z oa n cap vals) ∧
   (n = 0 ∨ ∃ a,oa = some a ∧ ∀ j v,vals[j]? = some v → w.cell? (a.add j) = some v):=by
 cases h with
 | nils=>exact ⟨rfl,Nat.le_refl _,[],fun _ _ _=>False,⟨by simp,by simp,by simp⟩,fun _ _ _ h=>h.elim,fun _ _ _ _ _ _ h=>h.elim,fun _ a h=>(by cases h),fun _=>Or.inl ⟨rfl,rfl,rfl⟩,Or.inl rfl⟩
 | bare=>exact ⟨rfl,Nat.le_refl _,[],fun _ _ _=>False,⟨by simp,by simp,by simp⟩,fun _ _ _ h=>h.elim,fun _ _ _ _ _ _ h=>h.elim,fun _ a _ h=>absurd rfl h,fun _=>Or.inl ⟨rfl,rfl,rfl⟩,Or.inl rfl⟩
 | @sl a _ _ _ _ cs f hl hF hsub hd hdd hr =>
  have hroom:=hl.room
  have hmul:es.length * z ≤ cap * z:=Nat.mul_le_mul_right z hl.len
  have hcell:∀ j v,((cs.toList.drop a.off).take (es.length * z))[j]? = some v → w.cell? (a.add j) = some v:=by
   intro j v hv
   rw[List.getElem?_take] at hv
   split at hv
   ·rw[List.getElem?_drop] at hv
    obtain ⟨e,fr,hb,_⟩:=hl.blk
    rw[Addr.add_plain hl.spot]
    simpa [World.cell?,hb] using hv
   ·cases hv
  refine ⟨rfl,hl.len,(cs.toList.drop a.off).take (es.length * z),f,⟨by simp;omega,hl.each,fun i j x c hx hc=>?_⟩,hsub,hdd,fun ho a' ha hc=>?_,fun ho=>Or.inr ⟨a,cs,?_⟩,Or.inr ⟨a,rfl,hcell⟩⟩
  ·obtain ⟨hi,hj,hlt⟩:=hl.idx hx hc
   refine ⟨_,?_,hr i j x c hx hc⟩
   rw[List.getElem?_take,if_pos (fc hi hj),List.getElem?_drop,Array.getD_eq_getD_getElem?,← Nat.add_assoc,Array.getElem?_toList,Array.getElem?_eq_getElem (by omega)]
   rfl
  ·cases ha
   exact ⟨hF,hd ho⟩
  ·obtain ⟨e,fr,hb,hfr⟩:=hl.blk
   refine ⟨e,rfl,hl.spot,?_,hl.room,hl.len,rfl⟩
   rw[hb,hfr ho]
theorem CellsRep.close {a:Addr} {cap:Nat} {cs:Array Value} {e:TypeId} {vals:List Value} {f:Nat → Nat → Blks} (h:CellsRep w o z es vals f) (hsp:a.spot = none) (hb:w.heap[a.block]? = some (.cells cs e (0,0)))
  (hroom:a.off + cap * z ≤ cs.size) (hcap:es.length ≤ cap) (hv:(cs.toList.drop a.off).take (es.length * z) = vals) (hF:F a.block) (hsub:∀ i j b,f i j b → F b) (hd:o = true → ∀ i j,¬ f i j a.block)
  (hdd:o = true → ∀ i j i' j' b,f i j b → f i' j' b → i = i' ∧ j = j'):Rep w o (.slice (some a) es.length cap) (.sl z es) F:=by
 refine .sl f (cs:=cs) ⟨⟨e,(0,0),hb,fun _=>rfl⟩,hsp,hcap,hroom,h.each⟩ hF hsub hd hdd fun i j x c hx hc=>?_
 obtain ⟨v,hv',hr⟩:=h.rep i j x c hx hc
 have hz:x.length = z:=h.each x (List.mem_of_getElem? hx)
 have hj:j < z:=hz ▸ (List.getElem?_eq_some_iff.1 hc).1
 have hi:i < es.length:=(List.getElem?_eq_some_iff.1 hx).1
 rw[← hv,List.getElem?_take,if_pos (fc hi hj),List.getElem?_drop] at hv'
 rw[Array.getD_eq_getD_getElem?,Nat.add_assoc,← Array.getElem?_toList,hv']
 exact hr
theorem CellsRep.closeTop {a:Addr} {cap:Nat} {cs:Array Value} {e:TypeId} {vals:List Value} {N:Blks} (h:CellsRep w false z es vals fun _ _=>N) (hsp:a.spot = none) (hb:w.heap[a.block]? = some (.cells cs e (0,0)))
  (hroom:a.off + cap * z ≤ cs.size) (hcap:es.length ≤ cap) (hv:(cs.toList.drop a.off).take (es.length * z) = vals) (hF:F a.block):RepTop w (.slice (some a) es.length cap) z es F N:=by
 refine Or.inr ⟨a,cap,cs,rfl,⟨⟨e,(0,0),hb,fun _=>rfl⟩,hsp,hcap,hroom,h.each⟩,hF,fun i j x c hx hc=>?_⟩
 obtain ⟨v,hv',hr⟩:=h.rep i j x c hx hc
 have hz:x.length = z:=h.each x (List.mem_of_getElem? hx)
 have hj:j < z:=hz ▸ (List.getElem?_eq_some_iff.1 hc).1
 have hi:i < es.length:=(List.getElem?_eq_some_iff.1 hx).1
 rw[← hv,List.getElem?_take,if_pos (fc hi hj),List.getElem?_drop] at hv'
 rw[Array.getD_eq_getD_getElem?,Nat.add_assoc,← Array.getElem?_toList,hv']
 exact hr
theorem RepTop.open {oa:Option Addr} {n cap:Nat} {N:Blks} (h:RepTop w (.slice oa n cap) z es F N) :
  n = es.length ∧ n ≤ cap ∧ ∃ vals,CellsRep w false z es vals (fun _ _=>N) ∧ (∀ a,oa = some a → cap ≠ 0 → F a.block) ∧ Holds w z oa n cap vals ∧
   (n = 0 ∨ ∃ a,oa = some a ∧ ∀ j v,vals[j]? = some v → w.cell? (a.add j) = some v):=by
 rcases h with ⟨rfl,oa',e⟩ | ⟨a,cap',cs,e,hl,hF,hc⟩
 ·injection e with e1 e2 e3
  subst e1 e2 e3
  exact ⟨rfl,Nat.le_refl _,[],⟨by simp,by simp,by simp⟩,fun _ _ h=>absurd rfl h,Or.inl ⟨rfl,rfl,rfl⟩,Or.inl rfl⟩
 ·injection e with e1 e2 e3
  subst e1 e2 e3
  have hroom:=hl.room
  have hmul:es.length * z ≤ cap * z:=Nat.mul_le_mul_right z hl.len
  have hcell:∀ j v,((cs.toList.drop a.off).take (es.length * z))[j]? = some v → w.cell? (a.add j) = some v:=by
   intro j v hv
   rw[List.getElem?_take] at hv
   split at hv
   ·rw[List.getElem?_drop] at hv
    obtain ⟨e,fr,hb,_⟩:=hl.blk
    rw[Addr.add_plain hl.spot]
    simpa [World.cell?,hb] using hv
   ·cases hv
  refine ⟨rfl,hl.len,(cs.toList.drop a.off).take (es.length * z),⟨by simp;omega,hl.each,fun i j x c hx hc'=>?_⟩,fun a' ha _=>(by cases ha;exact hF),Or.inr ⟨a,cs,?_⟩,Or.inr ⟨a,rfl,hcell⟩⟩
  ·obtain ⟨hi,hj,hlt⟩:=hl.idx hx hc'
   refine ⟨_,?_,hc i j x c hx hc'⟩
   rw[List.getElem?_take,if_pos (fc hi hj),List.getElem?_drop,Array.getD_eq_getD_getElem?,← Nat.add_assoc,Array.getElem?_toList,Array.getElem?_eq_getElem (by omega)]
   rfl
  ·obtain ⟨e,fr,hb,hfr⟩:=hl.blk
   refine ⟨e,rfl,hl.spot,?_,hl.room,hl.len,rfl⟩
   rw[hb,hfr rfl]
end
def appT (σ:St) (z:Nat):V → Option (Prop × List Nat × Pm × Els)
 | .l .nil=>some (True,[],.own,[])
 | .l (.ref r [] z' off len)=>match get σ.row r with
  | some row=>match row.pm with
   | .own=>some (z' = z ∧ off + len = row.es.length,[r],.own,row.es.drop off)
   | .top=>some (z' = z ∧ off = 0 ∧ len = row.es.length,[r],.top,row.es)
   | .ro=>none
  | none=>none
 | _=>none
def appS (σ:St) (z:Nat):V → Option (Prop × Option (Nat × Path) × Els)
 | .l .nil=>some (True,none,[])
 | .l (.ref r p z' off len)=>match nodeOf σ r p with
  | some (_,es)=>some (z' = z,some (r,p),(es.drop off).take len)
  | none=>none
 | _=>none
def T.flat:T → Bool
 | .sl ..=>false
 | _=>true
def Flat (es:Els):Prop:=∀ x ∈ es,∀ c ∈ x,c.flat = true
theorem Rep.flat {w:World} {o o':Bool} {v:Value} {c:T} {F G:Blks} (h:Rep w o v c F) (hf:c.flat = true):Rep w o' v c G:=by
 cases h with
 | int=>exact .int
 | bool=>exact .bool
 | str=>exact .str
 | hole h=>exact .hole h
 | nils=>cases hf
 | bare=>cases hf
 | sl=>cases hf
section
variable {w:World} {g:Gh} {σ:St}
structure TgtOk (w:World) (g:Gh) (σ:St) (z:Nat) (rs:List Nat) (pm:Pm) (es:Els) (oa:Option Addr) (n cap:Nat) (olds:List Value):Prop where
 len:n = es.length
 cap_:n ≤ cap
 holds:Holds w z oa n cap olds
 blk:∀ a,oa = some a → cap ≠ 0 → RowsFp g σ rs a.block
 live:∀ r ∈ rs,(get σ.row r).isSome
 own:pm = .own → ∃ f,CellsRep w true z es olds f ∧ (∀ i j b,f i j b → RowsFp g σ rs b) ∧ (∀ i j i' j' b,f i j b → f i' j' b → i = i' ∧ j = j') ∧ ∀ a,oa = some a → cap ≠ 0 → ∀ i j,¬ f i j a.block
 top:pm = .top → CellsRep w false z es olds fun _ _ b=>¬ Owned g σ b
theorem ik (m:Mem w g σ) {z:Nat} {x:V} {v:Value} {c:Prop} {rs:List Nat} {pm:Pm} {es:Els} (h:appT σ z x = some (c,rs,pm,es)) (hc:c) (hv:RepV w g σ x v) :
  pm ≠ .ro ∧ ∃ oa n cap olds,v = .slice oa n cap ∧ TgtOk w g σ z rs pm es oa n cap olds:=by
 unfold appT at h
 split at h
 ·simp only[Option.some.injEq,Prod.mk.injEq] at h
  obtain ⟨rfl,rfl,rfl,rfl⟩:=h
  obtain ⟨oa,rfl⟩:=hv
  refine ⟨by simp,oa,0,0,[],rfl,rfl,Nat.le_refl _,Or.inl ⟨rfl,rfl,rfl⟩,fun _ _ h=>absurd rfl h,by simp,fun _=>⟨fun _ _ _=>False,⟨by simp,by simp,by simp⟩,fun _ _ _ h=>h.elim,fun _ _ _ _ _ h=>h.elim,fun _ _ _ _ _ h=>h⟩,fun h=>by cases h⟩
 ·rename_i r z' off len
  split at h
  ·rename_i row hrow
   obtain ⟨row',es',u,h1,h2,h3,h4,h5⟩:=hv
   rw[hrow] at h1
   cases h1
   simp only[T.at?,Option.some.injEq,T.sl.injEq,valAt] at h2 h3
   obtain ⟨hz,rfl⟩:=h2
   subst h3
   split at h
   ·rename_i hpm
    simp only[Option.some.injEq,Prod.mk.injEq] at h
    obtain ⟨rfl,rfl,rfl,rfl⟩:=h
    obtain ⟨rfl,hl⟩:=hc
    have hrep:=m.own r row hrow hpm
    rw[Row.t,hz] at hrep
    have hvw:=hrep.view h5 h4
    have e:(row.es.drop off).take len = row.es.drop off:=List.take_of_length_le (by simp;omega)
    rw[e] at hvw
    obtain ⟨oa,n,cap,oa',_,rfl,_⟩:=h5
    obtain ⟨g1,g2,vals,f,g3,g4,g5,g6,g7,g8⟩:=hvw.open
    have fps:∀ b,g.fp r b → RowsFp g σ [r] b:=fun b hb=>⟨r,row,by simp,hrow,by simp[hpm],hb⟩
    exact ⟨by simp,oa',len,cap - off,vals,rfl,g1,g2,g7 rfl,fun a ha hc=>fps _ (g6 rfl a ha hc).1,by simp[hrow],fun _=>⟨f,g3,fun i j b hb=>fps b (g4 i j b hb),g5 rfl,fun a ha hc=>(g6 rfl a ha hc).2⟩,fun h=>by cases h⟩
   ·rename_i hpm
    simp only[Option.some.injEq,Prod.mk.injEq] at h
    obtain ⟨rfl,rfl,rfl,rfl⟩:=h
    obtain ⟨rfl,rfl,rfl⟩:=hc
    have hrep:=m.top r row hrow hpm
    rw[hz] at hrep
    obtain ⟨oa,n,cap,oa',hu,rfl,hoa⟩:=h5
    rw[hu] at hrep
    obtain ⟨g1,g2,vals,g3,g4,g5,g6⟩:=hrep.open
    have fps:∀ b,g.fp r b → RowsFp g σ [r] b:=fun b hb=>⟨r,row,by simp,hrow,by simp[hpm],hb⟩
    by_cases hcap:cap = 0
    ·subst hcap
     have hn0:row.es.length = 0:=by omega
     refine ⟨by simp,oa',row.es.length,0 - 0,vals,rfl,rfl,by omega,Or.inl ⟨rfl,hn0,?_⟩,fun _ _ h=>absurd rfl h,by simp[hrow],fun h=>(by cases h),fun _=>g3⟩
     exact List.eq_nil_of_length_eq_zero (by rw[g3.len,hn0];simp)
    ·have hoa':oa' = oa:=by
      rcases hoa with h | h
      ·exact absurd h hcap
      ·rw[h];cases oa <;> simp[Addr.add]
     subst hoa'
     rw[g1] at g2 g5
     exact ⟨by simp,oa',row.es.length,cap - 0,vals,rfl,rfl,g2,g5,fun a ha hc=>fps _ (g4 a ha hc),by simp[hrow],fun h=>(by cases h),fun _=>g3⟩
   ·cases h
  ·cases h
 ·cases h
structure SrcOk (w:World) (z:Nat) (els:Els) (ob:Option Addr) (m:Nat) (news:List Value):Prop where
 len:m = els.length
 cells:CellsRep w false z els news fun _ _ _=>True
 there:m = 0 ∨ ∃ b,ob = some b ∧ ∀ j v,news[j]? = some v → w.cell? (b.add j) = some v
 one:∀ v ∈ news,v.oneCell' = true
theorem CellsRep.one {o:Bool} {z:Nat} {es:Els} {vals:List Value} {f:Nat → Nat → Blks} (h:CellsRep w o z es vals f):∀ v ∈ vals,v.oneCell' = true:=by
 intro v hv;obtain ⟨k,hk⟩:=List.getElem?_of_mem hv;have hlt:k < es.length * z:=by rw[← h.len];exact (List.getElem?_eq_some_iff.1 hk).1
 have hz:0 < z:=by
  rcases Nat.eq_zero_or_pos z with rfl | h
  ·simp at hlt
  ·exact h
 have hi:k / z < es.length:=Nat.div_lt_of_lt_mul (by rwa [Nat.mul_comm]);obtain ⟨x,hx⟩:∃ x,es[k / z]? = some x:=⟨_,List.getElem?_eq_getElem hi⟩;(have hj:k % z < x.length:=by rw[h.each x (List.mem_of_getElem? hx)];exact Nat.mod_lt _ hz);obtain ⟨c,hc⟩:∃ c,x[k % z]? = some c:=⟨_,List.getElem?_eq_getElem hj⟩;obtain ⟨u,hu,hr⟩:=h.rep _ _ x c hx hc;(have:k / z * z + k % z = k:=by rw[Nat.mul_comm];exact Nat.div_add_mod k z);rw[this,hk] at hu;cases hu
 exact hr.one
theorem oy (m:Mem w g σ) {z:Nat} {x:V} {v:Value} {c:Prop} {who:Option (Nat × Path)} {els:Els} (h:appS σ z x = some (c,who,els)) (hc:c) (hv:RepV w g σ x v) :
  ∃ ob k cap news,v = .slice ob k cap ∧ SrcOk w z els ob k news ∧
   ∀ r row,who = some (r,[]) → get σ.row r = some row → row.pm = .own → ∃ f,CellsRep w true z els news f ∧ (∀ i j b,f i j b → RowsFp g σ [r] b) ∧ (∀ i j i' j' b,f i j b → f i' j' b → i = i' ∧ j = j'):=by
 unfold appS at h
 split at h
 ·simp only[Option.some.injEq,Prod.mk.injEq] at h
  obtain ⟨rfl,rfl,rfl⟩:=h
  obtain ⟨oa,rfl⟩:=hv
  exact ⟨oa,0,0,[],rfl,⟨rfl,⟨by simp,by simp,by simp⟩,Or.inl rfl,by simp⟩,fun r row h=>by cases h⟩
 ·rename_i r p z' off len
  split at h
  ·rename_i zz es hn
   simp only[Option.some.injEq,Prod.mk.injEq] at h
   obtain ⟨rfl,rfl,rfl⟩:=h
   subst hc
   obtain ⟨row',es',u,h1,h2,h3,h4,h5⟩:=hv
   have hn':nodeOf σ r p = some (z',es'):=by simp[nodeOf,h1,h2]
   rw[hn] at hn'
   simp only[Option.some.injEq,Prod.mk.injEq] at hn'
   obtain ⟨rfl,rfl⟩:=hn'
   obtain ⟨u',hu',hru⟩:=m.at h1 h2
   rw[h3] at hu'
   cases hu'
   have hvw:=hru.view h5 h4
   obtain ⟨oa,n,cap,oa',hu,rfl,hoa⟩:=id h5
   obtain ⟨g1,g2,vals,f,g3,g4,g5,g6,g7,g8⟩:=hvw.open
   refine ⟨oa',len,cap - off,vals,rfl,⟨g1,g3.mono fun _ _ _ _ h=>h.mono fun _ _=>trivial,g8,g3.one⟩,fun r2 row2 hw hrow hpm=>?_⟩
   simp only[Option.some.injEq,Prod.mk.injEq] at hw
   obtain ⟨rfl,rfl⟩:=hw
   rw[h1] at hrow
   cases hrow
   simp only[T.at?,Option.some.injEq,T.sl.injEq,valAt] at h2 h3
   obtain ⟨hz,rfl⟩:=h2
   subst h3
   have hrep:=m.own r row' h1 hpm
   rw[Row.t,hz] at hrep
   have hvw2:=hrep.view h5 h4
   obtain ⟨q1,q2,vals2,f2,q3,q4,q5,q6,q7,q8⟩:=hvw2.open
   have hsame:vals2 = vals:=by
    rcases g8 with h0 | ⟨a,ha,hcell⟩
    ·rw[List.eq_nil_of_length_eq_zero (l:=vals) (by rw[g3.len,← g1,h0];simp),List.eq_nil_of_length_eq_zero (l:=vals2) (by rw[q3.len,← q1,h0];simp)]
    ·rcases q8 with h0 | ⟨a2,ha2,hcell2⟩
     ·rw[List.eq_nil_of_length_eq_zero (l:=vals) (by rw[g3.len,← g1,h0];simp),List.eq_nil_of_length_eq_zero (l:=vals2) (by rw[q3.len,← q1,h0];simp)]
     ·rw[ha] at ha2
      cases ha2
      apply List.ext_getElem?
      intro j
      by_cases hj:j < vals.length
      ·have hj2:j < vals2.length:=by rw[q3.len,← g3.len];exact hj
       have e1:=hcell j _ (List.getElem?_eq_getElem hj)
       have e2:=hcell2 j _ (List.getElem?_eq_getElem hj2)
       rw[e1] at e2
       rw[List.getElem?_eq_getElem hj,List.getElem?_eq_getElem hj2,e2]
      ·have heq:vals2.length = vals.length:=by rw[q3.len,g3.len]
       rw[List.getElem?_eq_none (by omega),List.getElem?_eq_none (by omega)]
   rw[hsame] at q3
   exact ⟨f2,q3,fun i j b hb=>⟨r,row',by simp,h1,by simp[hpm],q4 i j b hb⟩,q5 rfl⟩
  ·cases h
 ·cases h
end
section
variable {P:Program} {w0 w w':World} {Al:Blks} {N:Nat} {g:Gh} {σ:St} {a:Act}
theorem Holds.close {z:Nat} {oa:Option Addr} {n cap:Nat} {vals:List Value} {es:Els} {f:Nat → Nat → Blks} {F:Blks} (h:Holds w z oa n cap vals) (hn:n = es.length) (hc:CellsRep w true z es vals f)
  (hF:∀ x,oa = some x → cap ≠ 0 → F x.block ∧ ∀ i j,¬ f i j x.block) (hsub:∀ i j b,f i j b → F b) (hdd:∀ i j i' j' b,f i j b → f i' j' b → i = i' ∧ j = j'):Rep w true (.slice oa n cap) (.sl z es) F:=by
 subst hn
 by_cases h0:cap = 0
 ·rcases h with ⟨_,h2,_⟩ | ⟨x,cs,e0,_,_,_,_,h2,_⟩
  ·have:es = []:=List.eq_nil_of_length_eq_zero h2
   subst this;subst h0
   cases oa with
   | none=>exact .nils
   | some x=>exact .bare
  ·have:es = []:=List.eq_nil_of_length_eq_zero (by omega)
   subst this;subst h0
   cases oa with
   | none=>exact .nils
   | some x=>exact .bare
 ·rcases h with ⟨h1,_⟩ | ⟨x,cs,e0,rfl,h1,h2,h3,h4,h5⟩
  ·exact absurd h1 h0
  ·exact hc.close h1 h2 h3 h4 h5.symm (hF x rfl h0).1 hsub (fun _=>(hF x rfl h0).2) fun _=>hdd
theorem Holds.closeTop {z:Nat} {oa:Option Addr} {n cap:Nat} {vals:List Value} {es:Els} {F K:Blks} (h:Holds w z oa n cap vals) (hn:n = es.length) (hc:CellsRep w false z es vals fun _ _=>K)
  (hF:∀ x,oa = some x → cap ≠ 0 → F x.block):RepTop w (.slice oa n cap) z es F K:=by
 subst hn
 by_cases h0:cap = 0
 ·rcases h with ⟨_,h2,_⟩ | ⟨x,cs,e0,_,_,_,_,h2,_⟩
  ·have:es = []:=List.eq_nil_of_length_eq_zero h2
   subst this;subst h0
   exact Or.inl ⟨rfl,oa,rfl⟩
  ·have:es = []:=List.eq_nil_of_length_eq_zero (by omega)
   subst this;subst h0
   exact Or.inl ⟨rfl,oa,rfl⟩
 ·rcases h with ⟨h1,_⟩ | ⟨x,cs,e0,rfl,h1,h2,h3,h4,h5⟩
  ·exact absurd h1 h0
  ·exact hc.closeTop h1 h2 h3 h4 h5.symm (hF x rfl h0)
theorem gO {t e ty:TypeId} (hu:(tyOf P t).u = .sl e) (hk:(tyOf P e).known = true) {z:Nat} (hz:(tyOf P e).sz = z) {oa ob:Option Addr} {n cap m c:Nat} {olds news:List Value}
  (ho:Holds w z oa n cap olds) (hl:news.length = m * z) (hn:m = 0 ∨ ∃ b,ob = some b ∧ ∀ j v,news[j]? = some v → w.cell? (b.add j) = some v) (h1:∀ v ∈ news,v.oneCell' = true)
  (hb:(n + m) * (tyOf P e).by_ ≤ 140737488355328) (hm:n + m ≤ 9223372036854775807) :
  ∃ oa' cap' w',(Builtin.append_ #[t,t] ty #[.slice oa n cap,.slice ob m c]).run P w = .ok (.slice oa' (n + m) cap') w' ∧ w'.os = w.os ∧ w'.tape = w.tape ∧ w'.output = w.output ∧ w.heap.size ≤ w'.heap.size ∧
   Holds w' z oa' (n + m) cap' (olds ++ news) ∧
   (∀ x,oa' = some x → cap' ≠ 0 → x.block < w'.heap.size ∧ ((∃ y,oa = some y ∧ cap ≠ 0 ∧ x.block = y.block) ∨ x.block = w.heap.size)) ∧
   (∀ b,b < w.heap.size → (∀ y,oa = some y → cap ≠ 0 → b ≠ y.block) → w'.heap[b]? = w.heap[b]?):=by
 obtain ⟨r,w',hr,h2,h3,h4,h5,h6⟩:=mD (ty:=ty) (c:=c) hu hk hz ho hl hn h1 hb hm
 rcases h6 with ⟨rfl,rfl,rfl⟩ | ⟨a',cap',cs',e',g1,rfl,g3,g4,g5,g6,g7,g8,g9,g10⟩
 ·have hnil:news = []:=List.eq_nil_of_length_eq_zero (by simpa using hl)
  subst hnil
  refine ⟨oa,cap,w',hr,h2,h3,h4,h5,by simpa using ho,fun x hx hc=>⟨?_,Or.inl ⟨x,hx,hc,rfl⟩⟩,fun _ _ _=>rfl⟩
  rcases ho with ⟨h,_⟩ | ⟨y,cs,e0,hy,_,hcs,_⟩
  ·exact absurd h hc
  ·rw[hx] at hy;cases hy
   exact (Array.getElem?_eq_some_iff.1 hcs).1
 ·refine ⟨some a',cap',w',hr,h2,h3,h4,h5,Or.inr ⟨a',cs',e',rfl,g3,g4,g5,g6,g7.symm⟩,fun x hx hc=>?_,fun b hb' hy=>?_⟩
  ·cases hx
   refine ⟨g9,g10.imp (fun ⟨y,cs,e0,h1,h2,h3,h4⟩=>⟨y,h1,h4,h3⟩) id⟩
  ·refine g8 b hb' ?_
   rcases g10 with ⟨y,cs,e0,q1,_,q3,q4⟩ | q
   ·rw[q3];exact hy y q1 q4
   ·rw[q];omega
theorem RowsFp.lt (m:Mem w g σ) {rs:List Nat} {b:Nat} (h:RowsFp g σ rs b):b < w.heap.size:=let ⟨r,row,_,h1,h2,h3⟩:=h;m.lt b (Or.inr ⟨r,row,h1,h2,h3⟩)
theorem RowsFp.dis (m:Mem w g σ) {rs rs':List Nat} (hd:∀ r ∈ rs,r ∉ rs') {b:Nat} (h:RowsFp g σ rs b) (h':RowsFp g σ rs' b):False:=by
 obtain ⟨r,row,h1,h2,h3,h4⟩:=h;obtain ⟨r',row',h1',h2',h3',h4'⟩:=h';exact hd r h1 (m.rr r r' row row' b h2 h2' h3 h3' h4 h4' ▸ h1')
theorem mE (R:Rel w0 Al N σ a w g) {t e ty:TypeId} (hu:(tyOf P t).u = .sl e) (hk:(tyOf P e).known = true) {z:Nat} (hz:(tyOf P e).sz = z) {rs rs2:List Nat} {es els:Els} {oa ob:Option Addr} {n cap m c:Nat}
  {olds news:List Value} {f2:Nat → Nat → Blks} {nm:Nat} (hT:TgtOk w g σ z rs .own es oa n cap olds) (hS:SrcOk w z els ob m news) (hf2:CellsRep w true z els news f2) (s2:∀ i j b,f2 i j b → RowsFp g σ rs2 b)
  (d2:∀ i j i' j' b,f2 i j b → f2 i' j' b → i = i' ∧ j = j') (hd:∀ r ∈ rs,r ∉ rs2) (hnm:get σ.row nm = none) (hb:(es.length + els.length) * (tyOf P e).by_ ≤ 140737488355328) (hm:es.length + els.length ≤ 9223372036854775807) :
  ∃ rv w' g',(Builtin.append_ #[t,t] ty #[.slice oa n cap,.slice ob m c]).run P w = .ok rv w' ∧ Rel w0 Al N (σ.swap (hits (rs ++ rs2)) (rs ++ rs2) nm ⟨.own,z,es ++ els⟩) a w' g' ∧
   RepV w' g' (σ.swap (hits (rs ++ rs2)) (rs ++ rs2) nm ⟨.own,z,es ++ els⟩) (.l (.ref nm [] z 0 (es.length + els.length))) rv:=by
 obtain ⟨hn,hcap,hh,hblk,hlive,howns,_⟩:=hT
 obtain ⟨f,hf,s1,d1,hdf⟩:=howns rfl
 obtain ⟨oa',cap',w',hr,h2,h3,h4,h5,h6,h7,h8⟩:=gO (ty:=ty) (c:=c) hu hk hz hh (by rw[hf2.len,hS.len]) hS.there hS.one (by rw[hn,hS.len];exact hb) (by rw[hn,hS.len];exact hm)
 have hsum:n + m = (es ++ els).length:=by rw[List.length_append,hn,hS.len]
 rw[hsum] at hr h6
 have mem:=R.mem
 have hkeepf:∀ i j b,f i j b → w'.heap[b]? = w.heap[b]?:=fun i j b hb=>h8 b (RowsFp.lt mem (s1 i j b hb)) fun y hy hc e=>hdf y hy hc i j (e ▸ hb)
 have hkeep2:∀ i j b,f2 i j b → w'.heap[b]? = w.heap[b]?:=fun i j b hb=>h8 b (RowsFp.lt mem (s2 i j b hb)) fun y hy hc e=>RowsFp.dis mem hd (hblk y hy hc) (e ▸ s2 i j b hb)
 have hcells:CellsRep w' true z (es ++ els) (olds ++ news) fun i j=>if i < es.length then f i j else f2 (i - es.length) j :=
  CellsRep.append (hf.mono fun i j v c h=>h.frame (hkeepf i j)) (hf2.mono fun i j v c h=>h.frame (hkeep2 i j))
 let F:Blks:=fun b=>(∃ x,oa' = some x ∧ cap' ≠ 0 ∧ b = x.block) ∨ (∃ i j,f i j b) ∨ ∃ i j,f2 i j b
 have hrep:Rep w' true (.slice oa' (es ++ els).length cap') (.sl z (es ++ els)) F:=by
  refine h6.close rfl hcells (fun x hx hc=>⟨Or.inl ⟨x,hx,hc,rfl⟩,fun i j hf'=>?_⟩) (fun i j b hb=>?_) (fun i j i' j' b hb hb'=>?_)
  ·obtain ⟨_,h9⟩:=h7 x hx hc
   split at hf'
   ·rcases h9 with ⟨y,hy,hc',e⟩ | e
    ·exact hdf y hy hc' i j (e ▸ hf')
    ·have:=RowsFp.lt mem (s1 _ _ _ hf');omega
   ·rcases h9 with ⟨y,hy,hc',e⟩ | e
    ·exact RowsFp.dis mem hd (hblk y hy hc') (e ▸ s2 _ _ _ hf')
    ·have:=RowsFp.lt mem (s2 _ _ _ hf');omega
  ·split at hb
   ·exact Or.inr (Or.inl ⟨i,j,hb⟩)
   ·exact Or.inr (Or.inr ⟨_,j,hb⟩)
  ·split at hb <;> split at hb'
   ·exact d1 _ _ _ _ b hb hb'
   ·exact (RowsFp.dis mem hd (s1 _ _ _ hb) (s2 _ _ _ hb')).elim
   ·exact (RowsFp.dis mem hd (s1 _ _ _ hb') (s2 _ _ _ hb)).elim
   ·have:=d2 _ _ _ _ b hb hb'
    omega
 have hrs:∀ b,RowsFp g σ rs b → RowsFp g σ (rs ++ rs2) b:=fun b ⟨r,row,h1,h⟩=>⟨r,row,by simp[h1],h⟩
 have hrs2:∀ b,RowsFp g σ rs2 b → RowsFp g σ (rs ++ rs2) b:=fun b ⟨r,row,h1,h⟩=>⟨r,row,by simp[h1],h⟩
 have hin:=fb (w':=w') mem (kill:=hits (rs ++ rs2)) (rs:=rs ++ rs2) (k:=nm) (row:=⟨.own,z,es ++ els⟩) (hv:=.slice oa' (es ++ els).length cap') (F:=F) (N:=fun _=>False) (Or.inr hnm) (by simp) (fun _=>hrep) (fun h=>by cases h)
  (fun b h=>h.elim) (fun b hb=>?_) (fun b hb hp=>h8 b hb fun y hy hc e=>hp (hrs _ (e ▸ hblk y hy hc))) h5 (fun l hl r p hr hs hm=>?_)
 ·refine ⟨_,w',_,hr,R.turn hin ⟨rfl,rfl⟩ h2 h3 h4,⟨.own,z,es ++ els⟩,es ++ els,.slice oa' (es ++ els).length cap',by simp[St.swap,get],rfl,by simp[valAt,Gh.row,bi],by simp,?_⟩
  rw[List.length_append]
  exact View.whole oa' _ cap' z _
 ·rcases hb with ⟨x,hx,hc,rfl⟩ | ⟨i,j,hb⟩ | ⟨i,j,hb⟩
  ·obtain ⟨h9,h10⟩:=h7 x hx hc
   refine ⟨?_,h9⟩
   rcases h10 with ⟨y,hy,hc',e⟩ | e
   ·exact Or.inl (hrs _ (e ▸ hblk y hy hc'))
   ·exact Or.inr (by omega)
  ·exact ⟨Or.inl (hrs _ (s1 i j b hb)),Nat.lt_of_lt_of_le (RowsFp.lt mem (s1 i j b hb)) h5⟩
  ·exact ⟨Or.inl (hrs2 _ (s2 i j b hb)),Nat.lt_of_lt_of_le (RowsFp.lt mem (s2 i j b hb)) h5⟩
 ·unfold hits at hl
  rw[hr] at hl
  simp at hl
  exact absurd (List.mem_append.1 hm) (by simp[hl])
theorem iZ (R:Rel w0 Al N σ a w g) {t e ty:TypeId} (hu:(tyOf P t).u = .sl e) (hk:(tyOf P e).known = true) {z:Nat} (hz:(tyOf P e).sz = z) {rs:List Nat} {es els:Els} {oa ob:Option Addr} {n cap m c:Nat}
  {olds news:List Value} {nm:Nat} {pm:Pm} (hpm:pm ≠ .ro) (hT:TgtOk w g σ z rs pm es oa n cap olds) (hS:SrcOk w z els ob m news) (hf2:CellsRep w false z els news fun _ _ b=>¬ Owned g σ b)
  (hnm:get σ.row nm = none) (hb:(es.length + els.length) * (tyOf P e).by_ ≤ 140737488355328) (hm:es.length + els.length ≤ 9223372036854775807) :
  ∃ rv w' g',(Builtin.append_ #[t,t] ty #[.slice oa n cap,.slice ob m c]).run P w = .ok rv w' ∧ Rel w0 Al N (σ.swap (hits rs) rs nm ⟨.top,z,es ++ els⟩) a w' g' ∧
   RepV w' g' (σ.swap (hits rs) rs nm ⟨.top,z,es ++ els⟩) (.l (.ref nm [] z 0 (es.length + els.length))) rv:=by
 obtain ⟨hn,hcap,hh,hblk,hlive,howns,htops⟩:=hT
 have mem:=R.mem
 obtain ⟨oa',cap',w',hr,h2,h3,h4,h5,h6,h7,h8⟩:=gO (ty:=ty) (c:=c) hu hk hz hh (by rw[hf2.len,hS.len]) hS.there hS.one (by rw[hn,hS.len];exact hb) (by rw[hn,hS.len];exact hm)
 have hsum:n + m = (es ++ els).length:=by rw[List.length_append,hn,hS.len]
 rw[hsum] at hr h6
 let K:Blks:=fun b=>(b < w.heap.size ∧ ¬ Owned g σ b) ∨ (RowsFp g σ rs b ∧ ∀ y,oa = some y → cap ≠ 0 → b ≠ y.block)
 have hKold:∀ b,K b → w'.heap[b]? = w.heap[b]?:=by
  rintro b (⟨hlt,hno⟩ | ⟨hb,hne⟩)
  ·exact h8 b hlt fun y hy hc e=>hno (by obtain ⟨r,row,_,q⟩:=hblk y hy hc;exact Or.inr ⟨r,row,e ▸ q⟩)
  ·exact h8 b (RowsFp.lt mem hb) hne
 have toK:∀ {v:Value} {c:T},Rep w false v c (fun b=>¬ Owned g σ b) → Rep w' false v c K:=fun h=>by
  obtain ⟨G,hG,hs,hlt⟩:=h.lt
  have hGK:∀ b,G b → K b:=fun b hb=>Or.inl ⟨hlt b hb,hs b hb⟩
  exact (hG.frame fun b hb=>hKold b (hGK b hb)).mono hGK
 have hes:CellsRep w' false z es olds fun _ _=>K:=by
  cases pm with
  | ro=>exact absurd rfl hpm
  | top=>exact (htops rfl).mono fun i j v c h=>toK h
  | own =>
   obtain ⟨f,hf,s1,d1,hdf⟩:=howns rfl
   refine hf.mono fun i j v c h=>?_
   have hfK:∀ b,f i j b → K b:=fun b hb=>Or.inr ⟨s1 i j b hb,fun y hy hc e=>hdf y hy hc i j (e ▸ hb)⟩
   exact (h.lent.frame fun b hb=>hKold b (hfK b hb)).mono hfK
 have hcells:CellsRep w' false z (es ++ els) (olds ++ news) fun _ _=>K:=by
  have:=CellsRep.append hes (hf2.mono fun i j v c h=>toK h)
  exact this.mono fun i j v c h=>by simpa using h
 let F:Blks:=fun b=>∃ x,oa' = some x ∧ cap' ≠ 0 ∧ b = x.block
 have hrep:RepTop w' (.slice oa' (es ++ els).length cap') z (es ++ els) F K:=h6.closeTop rfl hcells fun x hx hc=>⟨x,hx,hc,rfl⟩
 have hin:=fb (w':=w') mem (kill:=hits rs) (rs:=rs) (k:=nm) (row:=⟨.top,z,es ++ els⟩) (hv:=.slice oa' (es ++ els).length cap') (F:=F) (N:=K) (Or.inr hnm) (by simp) (fun h=>by cases h) (fun _=>hrep)
  (fun b hb=>?_) (fun b hb=>?_) (fun b hb hp=>h8 b hb fun y hy hc e=>hp (e ▸ hblk y hy hc)) h5 (fun l hl r p hr hs hm=>?_)
 ·refine ⟨_,w',_,hr,R.turn hin ⟨rfl,rfl⟩ h2 h3 h4,⟨.top,z,es ++ els⟩,es ++ els,.slice oa' (es ++ els).length cap',by simp[St.swap,get],rfl,by simp[valAt,Gh.row,bi],by simp,?_⟩
  rw[List.length_append]
  exact View.whole oa' _ cap' z _
 ·rcases hb with ⟨h9,h10⟩ | ⟨h9,h10⟩
  ·refine ⟨h9,Or.inl h10,fun ⟨x,hx,hc,e⟩=>?_⟩
   rcases (h7 x hx hc).2 with ⟨y,hy,hc',e'⟩ | e'
   ·obtain ⟨r,row,_,q⟩:=hblk y hy hc'
    exact h10 (Or.inr ⟨r,row,by rw[e,e'];exact q⟩)
   ·omega
  ·refine ⟨RowsFp.lt mem h9,Or.inr h9,fun ⟨x,hx,hc,e⟩=>?_⟩
   rcases (h7 x hx hc).2 with ⟨y,hy,hc',e'⟩ | e'
   ·exact h10 y hy hc' (e.trans e')
   ·have:=RowsFp.lt mem h9;omega
 ·obtain ⟨x,hx,hc,rfl⟩:=hb
  obtain ⟨h9,h10⟩:=h7 x hx hc
  refine ⟨?_,h9⟩
  rcases h10 with ⟨y,hy,hc',e⟩ | e
  ·exact Or.inl (e ▸ hblk y hy hc')
  ·exact Or.inr (by omega)
 ·unfold hits at hl
  rw[hr] at hl
  simp at hl
  exact absurd hm hl
end
def patchT (x:List T) (j:Nat) (ts:List T):List T:=x.take j ++ ts ++ x.drop (j + ts.length)
theorem dM {x:List T} {j:Nat} {ts:List T} (h:j + ts.length ≤ x.length):(patchT x j ts).length = x.length:=by simp[patchT];omega
theorem mF {x:List T} {j:Nat} {ts:List T} (h:j + ts.length ≤ x.length) (k:Nat) :
  (patchT x j ts)[k]? = if k < j then x[k]? else if k < j + ts.length then ts[k - j]? else x[k]?:=dD h k
section
variable {P:Program} {w0 w w':World} {Al:Blks} {N:Nat} {g:Gh} {σ:St} {a:Act}
def World.seg (w:World) (b o:Nat) (cs:Array Value) (vs:List Value):World:=w.setRow b (cs.toList.take o ++ vs ++ cs.toList.drop (o + vs.length)).toArray
theorem jL {b o:Nat} {cs:Array Value} {e:TypeId} {vs:List Value} (h:w.heap[b]? = some (.cells cs e (0,0))) :
  (World.seg w b o cs vs).heap[b]? = some (.cells (cs.toList.take o ++ vs ++ cs.toList.drop (o + vs.length)).toArray e (0,0)):=fO h
theorem eK {b o c:Nat} {cs:Array Value} {vs:List Value} (h:c ≠ b):(World.seg w b o cs vs).heap[c]? = w.heap[c]?:=kQ h
theorem dS {b o:Nat} {cs:Array Value} {vs:List Value}:(World.seg w b o cs vs).heap.size = w.heap.size:=by simp[World.seg,World.setRow]
theorem oz {o k:Nat} {cs:Array Value} {vs:List Value} (h:o + vs.length ≤ cs.size) :
  (cs.toList.take o ++ vs ++ cs.toList.drop (o + vs.length)).toArray.getD k undef = if k < o then cs.getD k undef else if k < o + vs.length then vs.getD (k - o) undef else cs.getD k undef:=by
 rw[Array.getD_eq_getD_getElem?,List.getElem?_toArray,dD (by simpa using h)]
 split
 ·simp[Array.getD_eq_getD_getElem?]
 ·split
  ·rw[List.getD_eq_getElem?_getD]
  ·simp[Array.getD_eq_getD_getElem?]
theorem fk {t:TypeId} (hk:(P.info? t).isSome) {b o:Nat} {cs:Array Value} {e:TypeId} {v:Value} (hb:w.heap[b]? = some (.cells cs e (0,0))) (hs:v.cells.size = P.cellsOf t) (ho:o + v.cells.size ≤ cs.size)
  (h1:∀ x ∈ v.cells.toList,x.oneCell' = true):(storeVar t ⟨b,o,none⟩ v).run P w = .ok () (World.seg w b o cs v.cells.toList):=by
 have hst:=run_storeCells_at P b o e v.cells.toList 0 cs w hb (by simpa using ho) h1
 simp only[Nat.add_zero] at hst
 simp only[storeVar,Sem.run_bind,cY hk,Result.andThen_ok,hs,ne_eq,not_true_eq_false,if_false]
 exact hst
theorem ra {oa:Option Addr} {n cap z:Nat} {es:Els} {G:Blks} (h:Rep w true (.slice oa n cap) (.sl z es) G) {i j:Nat} {x:List T} (hx:es[i]? = some x) {ts:List T} {vs:List Value} (hl:vs.length = ts.length)
  (hj:j + ts.length ≤ x.length) {fn:Nat → Blks} (hv:∀ k t v,ts[k]? = some t → vs[k]? = some v → Rep w true v t (fn k)) (hd:∀ k k' b,fn k b → fn k' b → k = k') (hG:∀ k b,fn k b → ¬ G b) :
  ∃ ad cs e,oa = some ad ∧ ad.spot = none ∧ w.heap[ad.block]? = some (.cells cs e (0,0)) ∧ ad.off + i * z + j + vs.length ≤ cs.size ∧ G ad.block ∧
   Rep (World.seg w ad.block (ad.off + i * z + j) cs vs) true (.slice oa n cap) (.sl z (es.set i (patchT x j ts))) fun b=>G b ∨ ∃ k,fn k b:=by
 cases h with
 | nils=>simp at hx
 | bare=>simp at hx
 | @sl ad _ _ _ _ cs f hlies hF hsub hdn hdd hr =>
  obtain ⟨e,fr,hb,hfr⟩:=hlies.blk
  rw[hfr rfl] at hb
  have hi:i < es.length:=(List.getElem?_eq_some_iff.1 hx).1
  have hz:x.length = z:=hlies.each x (List.mem_of_getElem? hx)
  have hroom:=hlies.room
  have hmul:(i + 1) * z ≤ cap * z:=Nat.mul_le_mul_right z (by have:=hlies.len;omega)
  rw[Nat.add_mul,Nat.one_mul] at hmul
  have hfit:ad.off + i * z + j + vs.length ≤ cs.size:=by omega
  refine ⟨ad,cs,e,rfl,hlies.spot,hb,hfit,hF,?_⟩
  have hlen:(es.set i (patchT x j ts)).length = es.length:=by simp
  rw[← hlen]
  refine .sl (fun i' j' b=>if i' = i ∧ j ≤ j' ∧ j' < j + ts.length then fn (j' - j) b else f i' j' b) ⟨⟨e,(0,0),jL hb,fun _=>rfl⟩,hlies.spot,by rw[hlen];exact hlies.len,by simp;omega,fun y hy=>?_⟩ (Or.inl hF) (fun i' j' b hb'=>?_) (fun _ i' j' hb'=>?_) (fun _ i1 j1 i2 j2 b h1 h2=>?_) (fun i' j' y c hy hc=>?_)
  ·rcases List.mem_or_eq_of_mem_set hy with hy | rfl
   ·exact hlies.each y hy
   ·rw[dM hj];exact hz
  ·split at hb'
   ·exact Or.inr ⟨_,hb'⟩
   ·exact Or.inl (hsub _ _ b hb')
  ·split at hb'
   ·exact hG _ _ hb' hF
   ·exact hdn rfl _ _ hb'
  ·split at h1 <;> split at h2
   ·rename_i e1 e2;have:=hd _ _ b h1 h2;omega
   ·exact absurd (hsub _ _ b h2) (hG _ b h1)
   ·exact absurd (hsub _ _ b h1) (hG _ b h2)
   ·exact hdd rfl _ _ _ _ b h1 h2
  ·rw[oz hfit]
   have hj'z:j' < z:=by
    have hy':y.length = z:=by
     rcases List.mem_or_eq_of_mem_set (List.mem_of_getElem? hy) with hy | rfl
     ·exact hlies.each y hy
     ·rw[dM hj];exact hz
    exact hy' ▸ (List.getElem?_eq_some_iff.1 hc).1
   by_cases hi':i' = i
   ·subst hi'
    rw[List.getElem?_set_self hi] at hy
    cases hy
    rw[mF hj] at hc
    by_cases h1:j' < j
    ·rw[if_pos h1] at hc
     rw[if_pos (by omega)]
     refine ((hr i' j' x c hx hc).frame (w':=World.seg w ad.block (ad.off + i' * z + j) cs vs) fun b hb'=>eK fun e=>hdn rfl i' j' (e ▸ hb')).mono fun b hb'=>?_
     rw[if_neg (by omega)]
     exact hb'
    ·rw[if_neg h1] at hc
     by_cases h2:j' < j + ts.length
     ·rw[if_pos h2] at hc
      rw[if_neg (by omega),if_pos (by omega)]
      have hk:j' - j < vs.length:=by omega
      have e1:ad.off + i' * z + j' - (ad.off + i' * z + j) = j' - j:=by omega
      rw[e1,List.getD_eq_getElem?_getD,List.getElem?_eq_getElem hk]
      refine ((hv (j' - j) c _ hc (List.getElem?_eq_getElem hk)).frame (w':=World.seg w ad.block (ad.off + i' * z + j) cs vs) fun b hb'=>eK fun e=>hG _ b hb' (e ▸ hF)).mono fun b hb'=>?_
      rw[if_pos ⟨rfl,by omega,h2⟩]
      exact hb'
     ·rw[if_neg h2] at hc
      rw[if_neg (by omega),if_neg (by omega)]
      refine ((hr i' j' x c hx hc).frame (w':=World.seg w ad.block (ad.off + i' * z + j) cs vs) fun b hb'=>eK fun e=>hdn rfl i' j' (e ▸ hb')).mono fun b hb'=>?_
      rw[if_neg (by omega)]
      exact hb'
   ·rw[List.getElem?_set_ne (Ne.symm hi')] at hy
    have hout:¬ (ad.off + i * z + j ≤ ad.off + i' * z + j' ∧ ad.off + i' * z + j' < ad.off + i * z + j + vs.length):=by
     rintro ⟨q1,q2⟩
     rcases Nat.lt_or_gt_of_ne hi' with h | h
     ·have:(i' + 1) * z ≤ i * z:=Nat.mul_le_mul_right z h
      rw[Nat.add_mul,Nat.one_mul] at this
      omega
     ·have:(i + 1) * z ≤ i' * z:=Nat.mul_le_mul_right z h
      rw[Nat.add_mul,Nat.one_mul] at this
      omega
    have hfr:=((hr i' j' y c hy hc).frame (w':=World.seg w ad.block (ad.off + i * z + j) cs vs) fun b hb'=>eK fun e=>hdn rfl i' j' (e ▸ hb')).mono (G:=fun b=>if i' = i ∧ j ≤ j' ∧ j' < j + ts.length then fn (j' - j) b else f i' j' b) fun b hb'=>by rw[if_neg (by omega)];exact hb'
    split
    ·exact hfr
    ·rw[if_neg (by omega)]
     exact hfr
theorem tp {oa:Option Addr} {n cap z:Nat} {es:Els} {F K:Blks} (h:RepTop w (.slice oa n cap) z es F K) {i j:Nat} {x:List T} (hx:es[i]? = some x) {ts:List T} {vs:List Value} (hl:vs.length = ts.length)
  (hj:j + ts.length ≤ x.length) (hv:∀ (k:Nat) (t:T) (v:Value),ts[k]? = some t → vs[k]? = some v → Rep w false v t K) (hFK:∀ b,F b → ¬ K b) :
  ∃ ad cs e,oa = some ad ∧ ad.spot = none ∧ w.heap[ad.block]? = some (.cells cs e (0,0)) ∧ ad.off + i * z + j + vs.length ≤ cs.size ∧ F ad.block ∧
   RepTop (World.seg w ad.block (ad.off + i * z + j) cs vs) (.slice oa n cap) z (es.set i (patchT x j ts)) F K:=by
 rcases h with ⟨rfl,_⟩ | ⟨ad,cap',cs,e0,hlies,hF,hr⟩
 ·simp at hx
 ·injection e0 with q1 q2 q3
  subst q1 q2 q3
  obtain ⟨e,fr,hb,hfr⟩:=hlies.blk
  rw[hfr rfl] at hb
  have hi:i < es.length:=(List.getElem?_eq_some_iff.1 hx).1
  have hz:x.length = z:=hlies.each x (List.mem_of_getElem? hx)
  have hroom:=hlies.room
  have hmul:(i + 1) * z ≤ cap * z:=Nat.mul_le_mul_right z (by have:=hlies.len;omega)
  rw[Nat.add_mul,Nat.one_mul] at hmul
  have hfit:ad.off + i * z + j + vs.length ≤ cs.size:=by omega
  refine ⟨ad,cs,e,rfl,hlies.spot,hb,hfit,hF,?_⟩
  have hlen:(es.set i (patchT x j ts)).length = es.length:=by simp
  have hkeep:∀ {v:Value} {c:T},Rep w false v c K → Rep (World.seg w ad.block (ad.off + i * z + j) cs vs) false v c K:=fun h=>h.frame fun b hb'=>eK fun e=>hFK b (e ▸ hF) hb'
  refine Or.inr ⟨ad,cap,_,by rw[hlen],⟨⟨e,(0,0),jL hb,fun _=>rfl⟩,hlies.spot,by rw[hlen];exact hlies.len,by simp;omega,fun y hy=>?_⟩,hF,fun i' j' y c hy hc=>?_⟩
  ·rcases List.mem_or_eq_of_mem_set hy with hy | rfl
   ·exact hlies.each y hy
   ·rw[dM hj];exact hz
  ·rw[oz hfit]
   have hj'z:j' < z:=by
    have hy':y.length = z:=by
     rcases List.mem_or_eq_of_mem_set (List.mem_of_getElem? hy) with hy | rfl
     ·exact hlies.each y hy
     ·rw[dM hj];exact hz
    exact hy' ▸ (List.getElem?_eq_some_iff.1 hc).1
   by_cases hi':i' = i
   ·subst hi'
    rw[List.getElem?_set_self hi] at hy
    cases hy
    rw[mF hj] at hc
    by_cases h1:j' < j
    ·rw[if_pos h1] at hc
     rw[if_pos (by omega)]
     exact hkeep (hr i' j' x c hx hc)
    ·rw[if_neg h1] at hc
     by_cases h2:j' < j + ts.length
     ·rw[if_pos h2] at hc
      rw[if_neg (by omega),if_pos (by omega)]
      have hk:j' - j < vs.length:=by omega
      have e1:ad.off + i' * z + j' - (ad.off + i' * z + j) = j' - j:=by omega
      rw[e1,List.getD_eq_getElem?_getD,List.getElem?_eq_getElem hk]
      exact hkeep (hv (j' - j) c _ hc (List.getElem?_eq_getElem hk))
     ·rw[if_neg h2] at hc
      rw[if_neg (by omega),if_neg (by omega)]
      exact hkeep (hr i' j' x c hx hc)
   ·rw[List.getElem?_set_ne (Ne.symm hi')] at hy
    have hout:¬ (ad.off + i * z + j ≤ ad.off + i' * z + j' ∧ ad.off + i' * z + j' < ad.off + i * z + j + vs.length):=by
     rintro ⟨q1,q2⟩
     rcases Nat.lt_or_gt_of_ne hi' with h | h
     ·have:(i' + 1) * z ≤ i * z:=Nat.mul_le_mul_right z h
      rw[Nat.add_mul,Nat.one_mul] at this
      omega
     ·have:(i + 1) * z ≤ i' * z:=Nat.mul_le_mul_right z h
      rw[Nat.add_mul,Nat.one_mul] at this
      omega
    split
    ·exact hkeep (hr i' j' y c hy hc)
    ·rw[if_neg (by omega)]
     exact hkeep (hr i' j' y c hy hc)
end
def T.els:T → Els
 | .sl _ es=>es
 | _=>[]
theorem T.put_sl {z0:Nat} {es0:Els}:∀ {p:Path} {z:Nat} {es n:Els},(T.sl z0 es0).at? p = some (.sl z es) → (T.sl z0 es0).put p (.sl z n) = .sl z0 ((T.sl z0 es0).put p (.sl z n)).els
 | [],z,es,n,h=>by
  simp only[T.at?,Option.some.injEq,T.sl.injEq] at h
  simp[T.put,T.els,h.1]
 | (i,j) :: p,z,es,n,h=>by
  simp only[T.at?] at h
  split at h
  ·rename_i x hx
   split at h
   ·rename_i c hc
    simp[T.put,hx,hc,T.els]
   ·cases h
  ·cases h
def killSt (rs:List Nat) (r:Nat) (p:Path) (l:L):Bool:=hits rs l || match l.rowOf with
 | some (r',q)=>r' == r && thru p q
 | none=>false
def Row.store (row:Row) (p:Path) (z:Nat) (es:Els) (i j:Nat) (x:List T) (ts:List T):Row :=
 { row with es:=(row.t.put p (.sl z (es.set i (patchT x j ts)))).els }
section
variable {P:Program} {w0 w w':World} {Al:Blks} {N:Nat} {g:Gh} {σ:St} {a:Act}
theorem tq (R:Rel w0 Al N σ a w g) {t:TypeId} (hk:(P.info? t).isSome) {r:Nat} {p:Path} {i j:Nat} {row:Row} (hrow:get σ.row r = some row) (hpm:row.pm = .own) {z:Nat} {es:Els} (hn:row.t.at? p = some (.sl z es))
  {x:List T} (hx:es[i]? = some x) {ad v:Value} {d:Nat} (had:RepL w g σ (.ept r p i j d) ad) {xs:List L} {zs:List Nat} {ts:List T} {rs:List Nat} {c:Prop} (hts:takeLs σ zs xs = some (c,ts,rs)) (hc:c)
  (hv:RepLs w g σ xs v.cells.toList) (hsz:xs.length = P.cellsOf t) (hj:j + ts.length ≤ x.length) (hr:r ∉ rs) :
  ∃ w' g',(Instr.storeAt t ad v).run P w = .ok () w' ∧ Rel w0 Al N (σ.swap (killSt rs r p) (r :: rs) r (row.store p z es i j x ts)) a w' g':=by
 have mem:=R.mem
 obtain ⟨row1,z1,es1,a1,n,cap,e1,e2,e3,e4,e5,rfl⟩:=had
 rw[hrow] at e1
 cases e1
 rw[hn] at e2
 cases e2
 obtain ⟨tlen,towns,fn,hfn,hsub,hdis⟩:=bM mem hts hc hv
 have hvl:=hv.length
 obtain ⟨u,G,hu,hru,hGF,hcont⟩:=(mem.own r row hrow hpm).focus hn
 rw[e3] at hu
 cases hu
 have hfnF:∀ k b,fn k b → ¬ g.fp r b:=fun k b hb hb'=>RowsFp.dis mem (rs:=[r]) (rs':=rs) (by simpa using hr) ⟨r,row,by simp,hrow,by simp[hpm],hb'⟩ (hsub k b hb)
 obtain ⟨ad',cs,e,q1,q2,q3,q4,q5,q6⟩:=ra hru hx (ts:=ts) (vs:=v.cells.toList) (by rw[← hvl,← tlen]) hj hfn hdis fun k b hb hb'=>hfnF k b hb (hGF b hb')
 cases q1
 have hrun:=fk (P:=P) (w:=w) hk (b:=a1.block) (o:=a1.off + i * z + j) (v:=v) q3 (by rw[← hsz,hvl];simp) (by simpa using q4) (fun y hy=>by
  obtain ⟨k,hk'⟩:=List.getElem?_of_mem hy
  have hlt:k < xs.length:=by rw[hvl];exact (List.getElem?_eq_some_iff.1 hk').1
  obtain ⟨y',hy',hyr⟩:=hv.nth (List.getElem?_eq_getElem hlt)
  rw[hk'] at hy'
  cases hy'
  exact hyr.one)
 have hold:∀ b,b ≠ a1.block → (World.seg w a1.block (a1.off + i * z + j) cs v.cells.toList).heap[b]? = w.heap[b]?:=fun b hb=>eK hb
 obtain ⟨c1,c2,c3⟩:=hcont _ _ _ (fun b hF hG=>hold b fun e=>hG (e ▸ q5)) q6 (fun b hb=>hb.imp id fun ⟨k,hk⟩=>hfnF k b hk)
 have hput:=T.put_sl (n:=es.set i (patchT x j ts)) hn
 let F':Blks:=fun b=>(g.fp r b ∧ ¬ G b) ∨ G b ∨ ∃ k,fn k b
 have hin:=fb (w':=World.seg w a1.block (a1.off + i * z + j) cs v.cells.toList) mem (kill:=killSt rs r p) (rs:=r :: rs) (k:=r) (row:=row.store p z es i j x ts) (hv:=g.rw r) (F:=F') (N:=fun _=>False) (Or.inl (by simp))
  (by simp[Row.store,hpm]) (fun _=>?_) (fun h=>by simp[Row.store,hpm] at h) (fun b h=>h.elim) (fun b hb=>?_) (fun b hb hp=>hold b fun e=>hp ⟨r,row,by simp,hrow,by simp[hpm],e ▸ hGF _ q5⟩) (by rw[dS];exact Nat.le_refl _)
  (fun l hl r' q hq hs hm=>?_)
 ·exact ⟨_,_,by simp only[Instr.storeAt,Instr.sureAddr,Sem.run_bind,Sem.run_pure,Result.andThen_ok,hrun],R.turn hin ⟨rfl,rfl⟩ rfl rfl rfl⟩
 ·show Rep _ true (g.rw r) (.sl row.z _) _
  simp only[Row.store]
  rw[← hput]
  exact c1
 ·refine ⟨Or.inl ?_,?_⟩
  ·rcases hb with ⟨hb,_⟩ | hb | ⟨k,hb⟩
   ·exact ⟨r,row,by simp,hrow,by simp[hpm],hb⟩
   ·exact ⟨r,row,by simp,hrow,by simp[hpm],hGF b hb⟩
   ·obtain ⟨r2,row2,h1,h2⟩:=hsub k b hb
    exact ⟨r2,row2,by simp[h1],h2⟩
  ·rw[dS]
   rcases hb with ⟨hb,_⟩ | hb | ⟨k,hb⟩
   ·exact mem.lt b (Or.inr ⟨r,row,hrow,by simp[hpm],hb⟩)
   ·exact mem.lt b (Or.inr ⟨r,row,hrow,by simp[hpm],hGF b hb⟩)
   ·exact RowsFp.lt mem (hsub k b hb)
 ·unfold killSt hits at hl
  rw[hq] at hl
  simp only[Bool.or_eq_false_iff,Bool.and_eq_false_iff,List.contains_eq_mem,decide_eq_false_iff_not] at hl
  rcases List.mem_cons.1 hm with rfl | hm
  ·have hth:thru p q = false:=by
    rcases hl.2 with h | h
    ·simp at h
    ·exact h
   intro row2 hrow2
   rw[hrow] at hrow2
   cases hrow2
   refine ⟨row.store p z es i j x ts,by simp[St.swap,get],by simp[Gh.row,bi],fun z2 es2 u2 h1 h2=>?_⟩
   obtain ⟨eq',d1,d2,d3⟩:=c3 q hth ⟨z,es,_,rfl,rfl⟩ z2 es2 h1
   refine ⟨eq',?_,d2,?_⟩
   ·show (T.sl row.z _).at? q = _
    simp only[Row.store]
    rw[← hput]
    exact d1
   ·show valAt _ _ (T.sl row.z _) q = _
    simp only[Row.store,Gh.row,bi]
    rw[← hput,d3]
    exact h2
  ·exact absurd hm hl.1
theorem tr (R:Rel w0 Al N σ a w g) {t:TypeId} (hk:(P.info? t).isSome) {r:Nat} {i j:Nat} {row:Row} (hrow:get σ.row r = some row) (hpm:row.pm = .top)
  {x:List T} (hx:row.es[i]? = some x) {ad v:Value} {d:Nat} (had:RepL w g σ (.ept r [] i j d) ad) {xs:List L} {ts:List T} (tlen:ts.length = xs.length)
  (hts:∀ (k:Nat) (t:T) (y:Value),ts[k]? = some t → v.cells.toList[k]? = some y → Rep w false y t fun b=>¬ Owned g σ b)
  (hv:RepLs w g σ xs v.cells.toList) (hsz:xs.length = P.cellsOf t) (hj:j + ts.length ≤ x.length) :
  ∃ w' g',(Instr.storeAt t ad v).run P w = .ok () w' ∧ Rel w0 Al N (σ.swap (killSt [] r []) [r] r (row.store [] row.z row.es i j x ts)) a w' g':=by
 have mem:=R.mem
 obtain ⟨row1,z1,es1,a1,n,cap,e1,e2,e3,e4,e5,rfl⟩:=had
 rw[hrow] at e1
 cases e1
 simp only[T.at?,Option.some.injEq,T.sl.injEq,valAt] at e2 e3
 obtain ⟨rfl,rfl⟩:=e2
 have hvl:=hv.length
 have htop:=mem.top r row hrow hpm
 rw[e3] at htop
 let K:Blks:=fun b=>b < w.heap.size ∧ ¬ Owned g σ b
 have toK:∀ {v:Value} {c:T},Rep w false v c (fun b=>¬ Owned g σ b) → Rep w false v c K:=fun h=>by
  obtain ⟨G,hG,hs,hlt⟩:=h.lt
  exact hG.mono fun b hb=>⟨hlt b hb,hs b hb⟩
 have htop':RepTop w (.slice (some a1) n cap) row.z row.es (g.fp r) K:=by
  rcases htop with h | ⟨b1,cap1,cs1,h1,h2,h3,h4⟩
  ·exact Or.inl h
  ·exact Or.inr ⟨b1,cap1,cs1,h1,h2,h3,fun i j x c hx hc=>toK (h4 i j x c hx hc)⟩
 obtain ⟨ad',cs,e,q1,q2,q3,q4,q5,q6⟩:=tp htop' hx (ts:=ts) (vs:=v.cells.toList) (by rw[← hvl,← tlen]) hj (fun k t y h1 h2=>toK (hts k t y h1 h2)) fun b hb hk=>hk.2 (Or.inr ⟨r,row,hrow,by simp[hpm],hb⟩)
 cases q1
 have hrun:=fk (P:=P) (w:=w) hk (b:=a1.block) (o:=a1.off + i * row.z + j) (v:=v) q3 (by rw[← hsz,hvl];simp) (by simpa using q4) (fun y hy=>by
  obtain ⟨k,hk'⟩:=List.getElem?_of_mem hy
  have hlt:k < xs.length:=by rw[hvl];exact (List.getElem?_eq_some_iff.1 hk').1
  obtain ⟨y',hy',hyr⟩:=hv.nth (List.getElem?_eq_getElem hlt)
  rw[hk'] at hy'
  cases hy'
  exact hyr.one)
 have hold:∀ b,b ≠ a1.block → (World.seg w a1.block (a1.off + i * row.z + j) cs v.cells.toList).heap[b]? = w.heap[b]?:=fun b hb=>eK hb
 have hin:=fb (w':=World.seg w a1.block (a1.off + i * row.z + j) cs v.cells.toList) mem (kill:=killSt [] r []) (rs:=[r]) (k:=r) (row:=row.store [] row.z row.es i j x ts) (hv:=g.rw r) (F:=g.fp r) (N:=K) (Or.inl (by simp))
  (by simp[Row.store,hpm]) (fun h=>by simp[Row.store,hpm] at h) (fun _=>by rw[e3];exact q6) (fun b hb=>⟨hb.1,Or.inl hb.2,fun h=>hb.2 (Or.inr ⟨r,row,hrow,by simp[hpm],h⟩)⟩)
  (fun b hb=>⟨Or.inl ⟨r,row,by simp,hrow,by simp[hpm],hb⟩,by rw[dS];exact mem.lt b (Or.inr ⟨r,row,hrow,by simp[hpm],hb⟩)⟩)
  (fun b hb hp=>hold b fun e=>hp ⟨r,row,by simp,hrow,by simp[hpm],e ▸ q5⟩) (by rw[dS];exact Nat.le_refl _) (fun l hl r' q hq hs hm=>?_)
 ·exact ⟨_,_,by simp only[Instr.storeAt,Instr.sureAddr,Sem.run_bind,Sem.run_pure,Result.andThen_ok,hrun],R.turn hin ⟨rfl,rfl⟩ rfl rfl rfl⟩
 ·unfold killSt hits at hl
  rw[hq] at hl
  simp only[Bool.or_eq_false_iff,Bool.and_eq_false_iff] at hl
  simp only[List.mem_singleton] at hm
  subst hm
  have hth:thru [] q = false:=by
   rcases hl.2 with h | h
   ·simp at h
   ·exact h
  have hq0:q = []:=by
   cases q with
   | nil=>rfl
   | cons c q=>simp[thru] at hth
  subst hq0
  intro row2 hrow2
  rw[hrow] at hrow2
  cases hrow2
  refine ⟨row.store [] row.z row.es i j x ts,by simp[St.swap,get],by simp[Gh.row,bi],fun z2 es2 u2 h1 h2=>?_⟩
  simp only[T.at?,Option.some.injEq,T.sl.injEq,valAt] at h1 h2
  obtain ⟨rfl,rfl⟩:=h1
  exact ⟨row.es.set i (patchT x j ts),by simp[T.at?,Row.store,T.put,T.els],by simp,by simp[valAt,Gh.row,bi,h2]⟩
theorem tt (R:Rel w0 Al N σ a w g) {t:TypeId} (hk:(P.info? t).isSome) {k j:Nat} {ls:List L} (hb:get σ.box k = some ls) {ad v:Value} (had:RepL w g σ (.ptr k j) ad) {xs:List L}
  (hv:RepLs w g σ xs v.cells.toList) (hsz:xs.length = P.cellsOf t) (hj:j + xs.length ≤ ls.length) :
  ∃ w',(Instr.storeAt t ad v).run P w = .ok () w' ∧ Rel w0 Al N { σ with box:=(k,patch ls j xs) :: del [k] σ.box } a w' g:=by
 have mem:=R.mem
 obtain ⟨_,rfl⟩:=had
 obtain ⟨cs,e,hcs,hr⟩:=mem.box k ls hb
 have hvl:=hv.length
 have hlv:=hr.length
 have hfit:j + v.cells.toList.length ≤ cs.size:=by simp at hlv ⊢;simp at hvl;omega
 have hrun:=fk (P:=P) (w:=w) hk (b:=g.bx k) (o:=j) (v:=v) hcs (by rw[← hsz,hvl];simp) (by simpa using hfit) (fun y hy=>by
  obtain ⟨q,hk'⟩:=List.getElem?_of_mem hy
  have hlt:q < xs.length:=by rw[hvl];exact (List.getElem?_eq_some_iff.1 hk').1
  obtain ⟨y',hy',hyr⟩:=hv.nth (List.getElem?_eq_getElem hlt)
  rw[hk'] at hy'
  cases hy'
  exact hyr.one)
 have hold:∀ b,b ≠ g.bx k → (World.seg w (g.bx k) j cs v.cells.toList).heap[b]? = w.heap[b]?:=fun b hb=>eK hb
 have hst:∀ l,StaysL w (World.seg w (g.bx k) j cs v.cells.toList) g g σ { σ with box:=(k,patch ls j xs) :: del [k] σ.box } l:=by
  intro l
  refine ⟨fun r p _=>.of_same mem (fun row h=>h) (fun _ _=>rfl) (fun row h b h1 h2 _=>hold b fun e=>?_),fun b _ hs=>⟨?_,rfl⟩⟩
  ·subst e
   by_cases hp:row.pm = .ro
   ·exact h2 hp (Or.inl ⟨k,ls,hb,rfl⟩)
   ·rcases h1 hp with h1 | ⟨_,h1⟩
    ·exact mem.br k ls r row hb h hp h1
    ·exact h1 (Or.inl ⟨k,ls,hb,rfl⟩)
  ·simp only[get]
   split
   ·rfl
   ·rename_i hne
    rw[bq]
    simpa [hne] using hs
 have hin:NewIn w (World.seg w (g.bx k) j cs v.cells.toList) g g σ { σ with box:=(k,patch ls j xs) :: del [k] σ.box } [] [k] [] [(k,patch ls j xs)] (fun _=>false):=by
  refine ⟨by simp[bw],by simp[cD],fun b hlt hp=>hold b fun e=>hp (Or.inr ⟨k,ls,by simp,hb,e.symm⟩),by rw[dS];exact Nat.le_refl _,fun r _ _=>⟨rfl,rfl⟩,fun b _ _=>rfl,?_,?_,?_,?_,?_,?_,?_,?_,?_,?_,?_,?_,?_⟩
  ·intro k row h;simp[get] at h
  ·intro k' ls' h;exact Or.inl (by simp[(bz h).1])
  ·intro k row h;simp[get] at h
  ·intro k row h;simp[get] at h
  ·intro k row h;simp[get] at h
  ·intro k row b h;simp[get] at h
  ·intro k' ls' h
   obtain ⟨rfl,_⟩:=bz h
   exact ⟨Or.inl (Or.inr ⟨k',ls,by simp,hb,rfl⟩),by rw[dS];exact mem.lt _ (Or.inl ⟨k',ls,hb,rfl⟩)⟩
  ·intro r r' row row' b h;simp[get] at h
  ·intro k ls r row _ h;simp[get] at h
  ·intro k1 k2 l1 l2 h1 h2 _;exact (bz h1).1.trans (bz h2).1.symm
  ·intro k' ls' h
   obtain ⟨rfl,rfl⟩:=bz h
   refine ⟨_,e,jL hcs,?_⟩
   simp only[]
   exact (RepLs.patch hr hv hj).stays fun l _=>hst l
  ·intro l _ r p _ _ h;simp at h
  ·intro l _ b _ hs h
   simp only[List.mem_singleton] at h
   subst h
   exact ⟨by simp[get],rfl⟩
 refine ⟨World.seg w (g.bx k) j cs v.cells.toList,by simp only[Instr.storeAt,Instr.sureAddr,Sem.run_bind,Sem.run_pure,Result.andThen_ok,hrun],?_⟩
 exact R.turn (σ1:={ σ with box:=(k,patch ls j xs) :: del [k] σ.box }) hin ⟨by rw[bD],(bK _).symm⟩ rfl rfl rfl
end
def partsL (σ:St) (k:Nat):List (Nat × Operand) → Option (Prop × List (List L))
 | []=>some (True,[])
 | (i,x) :: r=>match evO σ x with
  | some (c,v)=>match v.cells,partsL σ (k + 1) r with
   | some ls,some (c',lss)=>some (c = true ∧ i = k ∧ c',ls :: lss)
   | _,_=>none
  | none=>none
def takeLss (σ:St) (zs:List Nat):List (List L) → Option (Prop × Els × List Nat)
 | []=>some (True,[],[])
 | ls :: r=>match takeLs σ zs ls,takeLss σ zs r with
  | some (c,ts,rs),some (c',es,rs')=>if rs.all fun r=>!rs'.contains r then some (c ∧ c',ts :: es,rs ++ rs') else none
  | _,_=>none
def shareLss (σ:St) (zs:List Nat):List (List L) → Option (Prop × Els × List Nat)
 | []=>some (True,[],[])
 | ls :: r=>match shareLs σ zs ls,shareLss σ zs r with
  | some (c,ts,rs),some (c',es,rs')=>some (c ∧ c',ts :: es,rs ++ rs')
  | _,_=>none
section
variable {P:Program} {w0 w w':World} {Al:Blks} {N:Nat} {g:Gh} {σ:St} {a:Act}
inductive Rows (w:World) (g:Gh) (σ:St):List (List L) → List Value → List Value → Prop
 | nil:Rows w g σ [] [] []
 | cons {ls:List L} {lss:List (List L)} {v:Value} {vs vals:List Value} (h:RepLs w g σ ls v.cells.toList) (t:Rows w g σ lss vs vals):Rows w g σ (ls :: lss) (v :: vs) (v.cells.toList ++ vals)
theorem gP (hs:Slots w g σ a):∀ (parts:List (Nat × Operand)) (k:Nat) (c:Prop) (lss:List (List L)),partsL σ k parts = some (c,lss) → c →
  (∃ vals,Rows w g σ lss (parts.map fun q=>a.eval q.2) vals) ∧ ∀ (i:Nat) q,parts[i]? = some q → q.1 = k + i
 | [],k,c,lss,h,hc=>by
  simp only[partsL,Option.some.injEq,Prod.mk.injEq] at h
  obtain ⟨_,rfl⟩:=h
  exact ⟨⟨[],.nil⟩,by simp⟩
 | (i,x) :: r,k,c,lss,h,hc=>by
  simp only[partsL] at h
  split at h
  ·rename_i c1 v hx
   split at h
   ·rename_i ls c' lss' hv hr
    simp only[Option.some.injEq,Prod.mk.injEq] at h
    obtain ⟨rfl,rfl⟩:=h
    obtain ⟨⟨vals,h1⟩,h2⟩:=gP hs r (k + 1) c' lss' hr hc.2.2
    refine ⟨⟨_,.cons (RepV.cells (az hs hx hc.1) hv) h1⟩,fun j q hq=>?_⟩
    cases j with
    | zero=>simp at hq;subst hq;exact hc.2.1
    | succ j=>rw[h2 j q (by simpa using hq)];omega
   ·cases h
  ·cases h
theorem fQ {zs:List Nat}:∀ {ls:List L} {c:Prop} {ts:List T} {rs:List Nat},takeLs σ zs ls = some (c,ts,rs) → ts.length = zs.length ∧ ls.length = zs.length:=by
 induction zs with
 | nil =>
  intro ls c ts rs h;cases ls with
  | nil=>simp only[takeLs,Option.some.injEq,Prod.mk.injEq] at h;obtain ⟨_,rfl,_⟩:=h;exact ⟨rfl,rfl⟩
  | cons=>simp[takeLs] at h
 | cons z zs ih =>
  intro ls c ts rs h;cases ls with
  | nil=>simp[takeLs] at h
  | cons l ls =>
   simp only[takeLs] at h;split at h
   ·rename_i h1 h2
    split at h
    ·simp only[Option.some.injEq,Prod.mk.injEq] at h;obtain ⟨_,rfl,_⟩:=h;have:=ih h2;simp[this.1,this.2]
    ·cases h
   ·cases h
theorem lc {zs:List Nat}:∀ {ls:List L} {c:Prop} {ts:List T} {rs:List Nat},shareLs σ zs ls = some (c,ts,rs) → ts.length = zs.length ∧ ls.length = zs.length:=by
 induction zs with
 | nil =>
  intro ls c ts rs h;cases ls with
  | nil=>simp only[shareLs,Option.some.injEq,Prod.mk.injEq] at h;obtain ⟨_,rfl,_⟩:=h;exact ⟨rfl,rfl⟩
  | cons=>simp[shareLs] at h
 | cons z zs ih =>
  intro ls c ts rs h;cases ls with
  | nil=>simp[shareLs] at h
  | cons l ls =>
   simp only[shareLs] at h;split at h
   ·rename_i h1 h2
    simp only[Option.some.injEq,Prod.mk.injEq] at h;obtain ⟨_,rfl,_⟩:=h;have:=ih h2;simp[this.1,this.2]
   ·cases h
theorem ld (m:Mem w g σ) {zs:List Nat}:∀ {lss:List (List L)} {vs vals:List Value} {c:Prop} {es:Els} {rs:List Nat},takeLss σ zs lss = some (c,es,rs) → c → Rows w g σ lss vs vals →
  es.length = lss.length ∧ ∃ f,CellsRep w true zs.length es vals f ∧ (∀ i j b,f i j b → RowsFp g σ rs b) ∧ ∀ i j i' j' b,f i j b → f i' j' b → i = i' ∧ j = j'
 | [],vs,vals,c,es,rs,h,hc,hr=>by
  simp only[takeLss,Option.some.injEq,Prod.mk.injEq] at h
  obtain ⟨_,rfl,rfl⟩:=h
  cases hr
  exact ⟨rfl,fun _ _ _=>False,⟨by simp,by simp,by simp⟩,fun _ _ _ h=>h.elim,fun _ _ _ _ _ h=>h.elim⟩
 | ls :: lss,vs,vals,c,es,rs,h,hc,hr=>by
  simp only[takeLss] at h
  split at h
  ·rename_i c1 ts rs1 c2 es2 rs2 h1 h2
   split at h
   ·rename_i hd
    simp only[Option.some.injEq,Prod.mk.injEq] at h
    obtain ⟨rfl,rfl,rfl⟩:=h
    cases hr with
    | @cons _ _ v vs' vals' hv ht =>
     obtain ⟨tl,_,fn,r1,s1,d1⟩:=bM m h1 hc.1 hv
     obtain ⟨el,f,r2,s2,d2⟩:=ld m h2 hc.2 ht
     obtain ⟨l1,l2⟩:=fQ h1
     have dis:∀ r ∈ rs1,r ∉ rs2:=fun r hr=>by have:=List.all_eq_true.1 hd r hr;simpa using this
     have hone:CellsRep w true zs.length [ts] v.cells.toList fun _ j=>fn j:=by
      refine ⟨by rw[← hv.length,l2];simp,by simp[l1],fun i j x c hx hc=>?_⟩
      cases i with
      | zero =>
       simp only[List.getElem?_cons_zero,Option.some.injEq] at hx
       subst hx
       have hj:j < v.cells.toList.length:=by rw[← hv.length,l2,← l1];exact (List.getElem?_eq_some_iff.1 hc).1
       exact ⟨_,by rw[Nat.zero_mul,Nat.zero_add];exact List.getElem?_eq_getElem hj,r1 j c _ hc (List.getElem?_eq_getElem hj)⟩
      | succ i=>simp at hx
     refine ⟨by simp[el],fun i j=>if i < 1 then fn j else f (i - 1) j,?_,fun i j b hb=>?_,fun i j i' j' b hb hb'=>?_⟩
     ·have:=hone.append r2
      simpa using this
     ·dsimp only at hb
      split at hb
      ·obtain ⟨r,row,q1,q2⟩:=s1 j b hb;exact ⟨r,row,by simp[q1],q2⟩
      ·obtain ⟨r,row,q1,q2⟩:=s2 _ j b hb;exact ⟨r,row,by simp[q1],q2⟩
     ·dsimp only at hb hb'
      split at hb <;> split at hb'
      ·exact ⟨by omega,d1 _ _ b hb hb'⟩
      ·exact (RowsFp.dis m dis (s1 _ _ hb) (s2 _ _ _ hb')).elim
      ·exact (RowsFp.dis m dis (s1 _ _ hb') (s2 _ _ _ hb)).elim
      ·have:=d2 _ _ _ _ b hb hb';omega
   ·cases h
  ·cases h
theorem jM (m:Mem w g σ) {zs:List Nat}:∀ {lss:List (List L)} {vs vals:List Value} {c:Prop} {es:Els} {rs:List Nat},shareLss σ zs lss = some (c,es,rs) → c → Rows w g σ lss vs vals →
  es.length = lss.length ∧ CellsRep w false zs.length es vals fun _ _ b=>RowsFp g σ rs b ∨ ¬ Owned g σ b
 | [],vs,vals,c,es,rs,h,hc,hr=>by
  simp only[shareLss,Option.some.injEq,Prod.mk.injEq] at h
  obtain ⟨_,rfl,rfl⟩:=h
  cases hr
  exact ⟨rfl,⟨by simp,by simp,by simp⟩⟩
 | ls :: lss,vs,vals,c,es,rs,h,hc,hr=>by
  simp only[shareLss] at h
  split at h
  ·rename_i c1 ts rs1 c2 es2 rs2 h1 h2
   simp only[Option.some.injEq,Prod.mk.injEq] at h
   obtain ⟨rfl,rfl,rfl⟩:=h
   cases hr with
   | @cons _ _ v vs' vals' hv ht =>
    obtain ⟨tl,r1⟩:=gN m h1 hc.1 hv
    obtain ⟨el,r2⟩:=jM m h2 hc.2 ht
    obtain ⟨l1,l2⟩:=lc h1
    have hone:CellsRep w false zs.length [ts] v.cells.toList fun _ _ b=>RowsFp g σ (rs1 ++ rs2) b ∨ ¬ Owned g σ b:=by
     refine ⟨by rw[← hv.length,l2];simp,by simp[l1],fun i j x c hx hc=>?_⟩
     cases i with
     | zero =>
      simp only[List.getElem?_cons_zero,Option.some.injEq] at hx
      subst hx
      have hj:j < v.cells.toList.length:=by rw[← hv.length,l2,← l1];exact (List.getElem?_eq_some_iff.1 hc).1
      exact ⟨_,by rw[Nat.zero_mul,Nat.zero_add];exact List.getElem?_eq_getElem hj,(r1 j c _ hc (List.getElem?_eq_getElem hj)).mono fun b hb=>hb.imp (fun ⟨r,row,q1,q2⟩=>⟨r,row,by simp[q1],q2⟩) id⟩
     | succ i=>simp at hx
    refine ⟨by simp[el],?_⟩
    have:=hone.append (r2.mono (f':=fun _ _ b=>RowsFp g σ (rs1 ++ rs2) b ∨ ¬ Owned g σ b) fun i j v c h=>h.mono fun b hb=>hb.imp (fun ⟨r,row,q1,q2⟩=>⟨r,row,by simp[q1],q2⟩) id)
    exact this.mono fun i j v c h=>by simpa using h
  ·cases h
theorem nL (R:Rel w0 Al N σ a w g) {z:Nat} {es:Els} {cs:Array Value} {e:TypeId} {rs:List Nat} {f:Nat → Nat → Blks} (hc:CellsRep w true z es cs.toList f) (s1:∀ i j b,f i j b → RowsFp g σ rs b)
  (d1:∀ i j i' j' b,f i j b → f i' j' b → i = i' ∧ j = j') {nm:Nat} (hnm:get σ.row nm = none) :
  ∃ g',Rel w0 Al N (σ.swap (hits rs) rs nm ⟨.own,z,es⟩) a { w with heap:=w.heap.push (.cells cs e) } g' ∧
   RepV { w with heap:=w.heap.push (.cells cs e) } g' (σ.swap (hits rs) rs nm ⟨.own,z,es⟩) (.l (.ref nm [] z 0 es.length)) (.slice (some ⟨w.heap.size,0,none⟩) es.length es.length):=by
 have mem:=R.mem
 have hold:∀ b,b < w.heap.size → (w.heap.push (.cells cs e))[b]? = w.heap[b]?:=fun b hb=>by rw[Array.getElem?_push,if_neg (by omega)]
 let w':World:={ w with heap:=w.heap.push (.cells cs e) }
 let F:Blks:=fun b=>b = w.heap.size ∨ ∃ i j,f i j b
 have hfl:∀ i j b,f i j b → b < w.heap.size:=fun i j b hb=>RowsFp.lt mem (s1 i j b hb)
 have hlen:cs.size = es.length * z:=by simpa using hc.len
 have hrep:Rep w' true (.slice (some ⟨w.heap.size,0,none⟩) es.length es.length) (.sl z es) F :=
  (hc.mono (w':=w') (o':=true) (f':=f) fun i j v c h=>h.frame fun b hb=>hold b (hfl i j b hb)).close (cs:=cs) (e:=e) rfl (by simp[w']) (by simp[hlen]) (Nat.le_refl _) (by simp[← hlen,List.take_of_length_le]) (Or.inl rfl)
   (fun i j b hb=>Or.inr ⟨i,j,hb⟩) (fun _ i j hb=>by have:=hfl i j _ hb;simp at this) fun _=>d1
 have hin:=fb (w':=w') mem (kill:=hits rs) (rs:=rs) (k:=nm) (row:=⟨.own,z,es⟩) (hv:=.slice (some ⟨w.heap.size,0,none⟩) es.length es.length) (F:=F) (N:=fun _=>False) (Or.inr hnm) (by simp) (fun _=>hrep) (fun h=>by cases h)
  (fun b h=>h.elim) (fun b hb=>?_) (fun b hb _=>hold b hb) (by simp[w']) (fun l hl r p hr hs hm=>?_)
 ·exact ⟨_,R.turn hin ⟨rfl,rfl⟩ rfl rfl rfl,⟨.own,z,es⟩,es,.slice (some ⟨w.heap.size,0,none⟩) es.length es.length,by simp[St.swap,get],rfl,by simp only[valAt,Gh.row,bi],by simp,View.whole _ _ _ z _⟩
 ·rcases hb with rfl | ⟨i,j,hb⟩
  ·exact ⟨Or.inr (Nat.le_refl _),by simp[w']⟩
  ·exact ⟨Or.inl (s1 i j b hb),by have:=hfl i j b hb;simp[w'];omega⟩
 ·unfold hits at hl
  rw[hr] at hl
  simp at hl
  exact absurd hm hl
theorem tu (R:Rel w0 Al N σ a w g) {z:Nat} {es:Els} {cs:Array Value} {e:TypeId} (hc:CellsRep w false z es cs.toList fun _ _ b=>¬ Owned g σ b) {nm:Nat} (hnm:get σ.row nm = none) :
  ∃ g',Rel w0 Al N (σ.swap (fun _=>false) [] nm ⟨.top,z,es⟩) a { w with heap:=w.heap.push (.cells cs e) } g' ∧
   RepV { w with heap:=w.heap.push (.cells cs e) } g' (σ.swap (fun _=>false) [] nm ⟨.top,z,es⟩) (.l (.ref nm [] z 0 es.length)) (.slice (some ⟨w.heap.size,0,none⟩) es.length es.length):=by
 have mem:=R.mem
 have hold:∀ b,b < w.heap.size → (w.heap.push (.cells cs e))[b]? = w.heap[b]?:=fun b hb=>by rw[Array.getElem?_push,if_neg (by omega)]
 let w':World:={ w with heap:=w.heap.push (.cells cs e) }
 let F:Blks:=fun b=>b = w.heap.size
 let K:Blks:=fun b=>b < w.heap.size ∧ ¬ Owned g σ b
 have hlen:cs.size = es.length * z:=by simpa using hc.len
 have hrep:RepTop w' (.slice (some ⟨w.heap.size,0,none⟩) es.length es.length) z es F K :=
  (hc.mono (w':=w') (o':=false) (f':=fun _ _=>K) fun i j v c h=>by
   obtain ⟨G,hG,hs,hlt⟩:=h.lt
   exact (hG.frame fun b hb=>hold b (hlt b hb)).mono fun b hb=>⟨hlt b hb,hs b hb⟩).closeTop (cs:=cs) (e:=e) rfl (by simp[w']) (by simp[hlen]) (Nat.le_refl _) (by simp[← hlen,List.take_of_length_le]) rfl
 have hin:=fb (w':=w') mem (kill:=fun _=>false) (rs:=[]) (k:=nm) (row:=⟨.top,z,es⟩) (hv:=.slice (some ⟨w.heap.size,0,none⟩) es.length es.length) (F:=F) (N:=K) (Or.inr hnm) (by simp) (fun h=>by cases h) (fun _=>hrep)
  (fun b hb=>⟨hb.1,Or.inl hb.2,fun h=>by have:=hb.1;simp[F] at h;omega⟩) (fun b hb=>⟨Or.inr (Nat.le_of_eq hb.symm),by simp[w',F] at hb ⊢;omega⟩) (fun b hb _=>hold b hb) (by simp[w']) (fun l hl r p hr hs hm=>by simp at hm)
 exact ⟨_,R.turn hin ⟨by simp[St.swap,bD],by simp[St.swap,bK,St.freeze]⟩ rfl rfl rfl,⟨.top,z,es⟩,es,.slice (some ⟨w.heap.size,0,none⟩) es.length es.length,by simp[St.swap,get],rfl,by simp only[valAt,Gh.row,bi],by simp,View.whole _ _ _ z _⟩
end
section
variable {P:Program} {w0 w w':World} {Al:Blks} {N:Nat} {g:Gh} {σ:St} {a:Act}
theorem CellsRep.holes {z k:Nat} {ws:List Value} (hl:ws.length = k * z) (h1:∀ v ∈ ws,v.oneCell' = true):CellsRep w true z (List.replicate k (List.replicate z .hole)) ws (fun _ _ _=>False):=by
 refine ⟨by simp[hl],fun x hx=>by rw[List.mem_replicate] at hx;rw[hx.2];simp,fun i j x c hx hc=>?_⟩;rw[List.getElem?_replicate] at hx;split at hx
 ·rename_i hi
  cases hx
  rw[List.getElem?_replicate] at hc;split at hc
  ·rename_i hj
   cases hc
   (have:i * z + j < ws.length:=by rw[hl];exact fc hi hj);exact ⟨_,List.getElem?_eq_getElem this,.hole (h1 _ (List.getElem_mem this))⟩
  ·cases hc
 ·cases hx
theorem mG {t e ty:TypeId} (hu:(tyOf P t).u = .sl e) (hk:(tyOf P e).known = true) {z:Nat} (hz:(tyOf P e).sz = z) {x b:Addr} {n cap m c:Nat} {news:List Value} {cs:Array Value} {e0:TypeId}
  (hsp:x.spot = none) (hcs:w.heap[x.block]? = some (.cells cs e0 (0,0))) (hsize:x.off + cap * z ≤ cs.size) (hroom:n + m ≤ cap) (hl:news.length = m * z) (hcell:∀ j v,news[j]? = some v → w.cell? (b.add j) = some v) (h1:∀ v ∈ news,v.oneCell' = true) :
  (Builtin.append_ #[t,t] ty #[.slice (some x) n cap,.slice (some b) m c]).run P w = .ok (.slice (some x) (n + m) cap) (w.setRow x.block (cs.toList.take (x.off + n * z) ++ news ++ cs.toList.drop (x.off + n * z + news.length)).toArray):=by
 obtain ⟨i,zv,hi,hzv,_,hsz,hby,_,hzs⟩:=bC hk
 have hsl:=gJ hu
 rw[hsz] at hz
 subst hz
 have hmul:(n + m) * i.size ≤ cap * i.size:=Nat.mul_le_mul_right _ hroom
 have hnm:(n + m) * i.size = n * i.size + m * i.size:=Nat.add_mul ..
 have hf:=run_firstCells_some (P:=P) w i.size m b m c news hl hcell
 have hst:=run_storeCells_at P x.block (x.off + n * i.size) e0 news 0 cs w hcs (by rw[hl];omega) h1
 simp only[Nat.add_zero] at hst
 have hadd:x.add (n * i.size) = ⟨x.block,x.off + n * i.size,none⟩:=Addr.add_plain hsp _
 simp[Builtin.append_,run_underlying hsl,sizeOf,typeInfo,hi,Builtin.lenOf,hroom,hf,hadd,hst]
theorem ph (R:Rel w0 Al N σ a w g) {t e ty:TypeId} (hu:(tyOf P t).u = .sl e) (hk:(tyOf P e).known = true) {z:Nat} (hz:(tyOf P e).sz = z) {r nm i j m:Nat} {row:Row} {u v:Value}
  (hrow:get σ.row r = some row) (hpm:row.pm = .own) (hzr:row.z = z) (hi:i < j) (hjm:j + m = row.es.length) (hnm:get σ.row nm = none) (hmax:row.es.length ≤ 9223372036854775807)
  (hub:(i + m) * (tyOf P e).by_ ≤ 140737488355328)
  (h1:RepL w g σ (.ref r [] z 0 i) u) (h2:RepL w g σ (.ref r [] z j m) v) :
  ∃ rv w' g',(Builtin.append_ #[t,t] ty #[u,v]).run P w = .ok rv w' ∧
   Rel w0 Al N (σ.swap (hits [r]) [r] nm ⟨.own,z,row.es.take i ++ row.es.drop j ++ List.replicate (j - i) (List.replicate z .hole)⟩) a w' g' ∧
   RepV w' g' (σ.swap (hits [r]) [r] nm ⟨.own,z,row.es.take i ++ row.es.drop j ++ List.replicate (j - i) (List.replicate z .hole)⟩) (.l (.ref nm [] z 0 (i + m))) rv:=by
 have mem:=R.mem
 have hrep:=mem.own r row hrow hpm
 rw[Row.t,hzr] at hrep
 obtain ⟨row1,es1,u1,a1,a2,a3,a4,oa,n,cap,oa',a5,a6,a7⟩:=h1
 obtain ⟨row2,es2,u2,b1,b2,b3,b4,ob,n2,cap2,ob',b5,b6,b7⟩:=h2
 rw[hrow] at a1 b1
 cases a1;cases b1
 simp only[Row.t,T.at?,Option.some.injEq,T.sl.injEq,valAt] at a2 a3 b2 b3
 obtain ⟨-,rfl⟩:=a2
 obtain ⟨-,rfl⟩:=b2
 subst a3;subst b3
 rw[a5] at b5
 cases b5
 rw[a5] at hrep
 obtain ⟨c1,c2,vals,f,c3,c4,c5,c6,c7,c8⟩:=hrep.open
 subst c1
 have hcap:cap ≠ 0:=by omega
 have hH:=c7 rfl
 rcases hH with ⟨h0,_⟩ | ⟨x,cs,e0,rfl,d1,d2,d3,d4,d5⟩
 ·exact absurd h0 hcap
 have hoa:oa' = some x:=by
  rcases a7 with h | h
  ·exact absurd h hcap
  ·rw[h];simp[Addr.add]
 subst hoa
 subst a6
 rw[Nat.sub_zero]
 obtain ⟨c9,c10⟩:=c6 rfl x rfl hcap
 have hvl:=c3.len
 let news:=vals.drop (j * z)
 have hnl:news.length = m * z:=by
  simp only[news,List.length_drop,hvl]
  rw[← hjm,Nat.add_mul];omega
 have hnone:∀ v ∈ news,v.oneCell' = true:=fun v hv=>c3.one v (List.mem_of_mem_drop hv)
 have hmul:row.es.length * z ≤ cap * z:=Nat.mul_le_mul_right z (by omega)
 have hjz:row.es.length * z = j * z + m * z:=by rw[← hjm,Nat.add_mul]
 have hiz:(i + m) * z = i * z + m * z:=Nat.add_mul ..
 have hiz2:(i + m) * z ≤ row.es.length * z:=Nat.mul_le_mul_right z (by omega)
 let tail:=(vals.drop ((i + m) * z)).take ((j - i) * z)
 have htl:tail.length = (j - i) * z:=by
  simp only[tail,List.length_take,List.length_drop,hvl]
  have:row.es.length - (i + m) = j - i:=by omega
  rw[← Nat.sub_mul,this,Nat.min_self]
 have hval:∀ k,k < row.es.length * z → (cs.toList.drop x.off)[k]? = vals[k]?:=by
  intro k hk'
  rw[d5,List.getElem?_take,if_pos hk']
 have hsz2:x.off + row.es.length * z ≤ cs.toList.length:=by simp only[Array.length_toList];omega
 obtain ⟨w',cs',hrun,hw1,hw2,hw3,hw4,hw5,hw6,hw7,hw8⟩:∃ w' cs',(Builtin.append_ #[t,t] ty #[.slice (some x) i cap,v]).run P w = .ok (.slice (some x) (i + m) cap) w' ∧ w'.heap[x.block]? = some (.cells cs' e0 (0,0)) ∧ cs'.size = cs.size ∧
   (∀ b,b ≠ x.block → w'.heap[b]? = w.heap[b]?) ∧ w'.os = w.os ∧ w'.tape = w.tape ∧ w'.output = w.output ∧ w'.heap.size = w.heap.size ∧ (cs'.toList.drop x.off).take (row.es.length * z) = vals.take (i * z) ++ news ++ tail:=by
  subst b6
  by_cases hm0:m = 0
  ·subst hm0
   have hn0:news = []:=List.eq_nil_of_length_eq_zero (by simpa using hnl)
   obtain ⟨rr,w2,q1,-,-,-,-,q2⟩:=mD (P:=P) (w:=w) (ty:=ty) (c:=cap - j) (ob:=ob') (oa:=some x) (olds:=vals.take (i * z)) (news:=[]) (n:=i) (cap:=cap) (m:=0) hu hk hz
    (Or.inr ⟨x,cs,e0,rfl,d1,d2,d3,by omega,by rw[d5,List.take_take,Nat.min_eq_left];exact Nat.mul_le_mul_right z (by omega)⟩) (by simp) (Or.inl rfl) (by simp) (by simpa using hub) (by omega)
   rcases q2 with ⟨-,q3,q4⟩ | ⟨_,_,_,_,q3,_⟩
   ·refine ⟨w,cs,by rw[q1,q3,q4,Nat.add_zero],d2,rfl,fun _ _=>rfl,rfl,rfl,rfl,rfl,?_⟩
    rw[← d5,hn0,List.append_nil]
    have:tail = vals.drop (i * z):=by
     simp only[tail,Nat.add_zero]
     refine List.take_of_length_le ?_
     rw[List.length_drop,hvl,← Nat.sub_mul]
     have:row.es.length - i = j - i:=by omega
     rw[this];exact Nat.le_refl _
    rw[this,List.take_append_drop]
   ·omega
  ·have hb':ob' = some (x.add (j * z)):=by
    rcases b7 with h | h
    ·omega
    ·simpa using h
   subst hb'
   refine ⟨_,_,mG (P:=P) (w:=w) (ty:=ty) hu hk hz d1 d2 d3 (by omega) hnl (fun k v hv=>?_) hnone,fO d2,?_,fun b hb=>kQ hb,rfl,rfl,rfl,by simp[World.setRow],?_⟩
   ·rcases c8 with h | ⟨x2,h,hc⟩
    ·omega
    ·cases h
     have hv2:vals[j * z + k]? = some v:=by rw[← List.getElem?_drop];exact hv
     have:=hc _ v hv2
     rw[Addr.add_plain d1] at this
     rw[Addr.add_plain d1,Addr.add_plain rfl]
     rw[← this]
     congr 2
     simp only
     omega
   ·have hA:x.off + i * z ≤ cs.toList.length:=by omega
    have hB:cs.toList.length = cs.size:=Array.length_toList
    simp only[List.size_toArray,List.length_append,List.length_take,List.length_drop,hnl]
    rw[Nat.min_eq_left hA]
    omega
   ·apply List.ext_getElem?
    intro k
    simp only[]
    rw[List.getElem?_take,List.getElem?_drop]
    by_cases hk:k < row.es.length * z
    ·rw[if_pos hk,dD (by rw[hnl];omega),hnl]
     have hti:(vals.take (i * z)).length = i * z:=by rw[List.length_take,hvl];omega
     by_cases h1:k < i * z
     ·rw[if_pos (by omega),List.append_assoc,List.getElem?_append_left (by omega),List.getElem?_take,if_pos h1,← hval k hk,List.getElem?_drop]
     ·by_cases h2:k < i * z + m * z
      ·rw[if_neg (by omega),if_pos (by omega),List.append_assoc,List.getElem?_append_right (by omega),List.getElem?_append_left (by rw[hti,hnl];omega),hti]
       congr 1;omega
      ·rw[if_neg (by omega),if_neg (by omega),List.getElem?_append_right (by rw[List.length_append,hti,hnl];omega),List.length_append,hti,hnl]
       simp only[tail]
       rw[List.getElem?_take,if_pos (by
        have:(j - i) * z = row.es.length * z - (i + m) * z:=by rw[← Nat.sub_mul];congr 1;omega
        omega),List.getElem?_drop,← List.getElem?_drop,hval k hk]
       congr 1;omega
    ·rw[if_neg hk,List.getElem?_eq_none]
     rw[List.length_append,List.length_append,htl,hnl,List.length_take,hvl]
     have:(j - i) * z = row.es.length * z - (i + m) * z:=by rw[← Nat.sub_mul];congr 1;omega
     omega
 have htak:row.es.take i = (row.es.drop 0).take i:=by simp
 have hdrp:row.es.drop j = (row.es.drop j).take m:=(List.take_of_length_le (by simp;omega)).symm
 have p1:CellsRep w true z (row.es.take i) (vals.take (i * z)) fun k l=>f k l:=by
  have:=c3.part 0 i (by omega)
  simpa using this
 have p2:CellsRep w true z (row.es.drop j) news fun k l=>f (k + j) l:=by
  have:=c3.part j m (by omega)
  rw[← hdrp] at this
  have e:(vals.drop (j * z)).take (m * z) = news:=List.take_of_length_le (by simp only[news] at hnl;omega)
  rw[e] at this
  exact this
 have hfr:∀ k l b,f k l b → w'.heap[b]? = w.heap[b]?:=fun k l b hb=>hw3 b fun e=>c10 k l (e ▸ hb)
 have p3:CellsRep w' true z (List.replicate (j - i) (List.replicate z .hole)) tail (fun _ _ _=>False) :=
  CellsRep.holes htl fun v hv=>c3.one v (List.mem_of_mem_drop (List.mem_of_mem_take hv))
 have hcells:=CellsRep.append (CellsRep.append (p1.mono fun k l v c h=>h.frame (hfr k l)) (p2.mono fun k l v c h=>h.frame (hfr _ l))) p3
 let F:Blks:=fun b=>b = x.block ∨ ∃ k l,f k l b
 have hlen:row.es.length = (row.es.take i ++ row.es.drop j ++ List.replicate (j - i) (List.replicate z T.hole)).length:=by
  simp;omega
 have hrep':Rep w' true (.slice (some x) row.es.length cap) (.sl z (row.es.take i ++ row.es.drop j ++ List.replicate (j - i) (List.replicate z .hole))) F:=by
  refine Holds.close (Or.inr ⟨x,cs',e0,rfl,d1,hw1,by rw[hw2];exact d3,d4,hw8.symm⟩) hlen hcells (fun y hy _=>?_) (fun k l b hb=>?_) (fun k l k' l' b hb hb'=>?_)
  ·cases hy
   refine ⟨Or.inl rfl,fun k l hb=>?_⟩
   split at hb
   ·split at hb
    ·exact c10 _ _ hb
    ·exact c10 _ _ hb
   ·exact hb
  ·split at hb
   ·split at hb
    ·exact Or.inr ⟨_,_,hb⟩
    ·exact Or.inr ⟨_,_,hb⟩
   ·exact hb.elim
  ·have hti:(row.es.take i).length = i:=by simp;omega
   split at hb
   ·split at hb'
    ·split at hb <;> split at hb'
     ·exact c5 rfl _ _ _ _ b hb hb'
     ·have:=c5 rfl _ _ _ _ b hb hb';omega
     ·have:=c5 rfl _ _ _ _ b hb hb';omega
     ·have:=c5 rfl _ _ _ _ b hb hb';omega
    ·exact hb'.elim
   ·exact hb.elim
 have fps:∀ b,g.fp r b → RowsFp g σ [r] b:=fun b hb=>⟨r,row,by simp,hrow,by simp[hpm],hb⟩
 have hxlt:x.block < w.heap.size:=(Array.getElem?_eq_some_iff.1 d2).1
 have hin:=fb (w':=w') mem (kill:=hits [r]) (rs:=[r]) (k:=nm) (row:=⟨.own,z,row.es.take i ++ row.es.drop j ++ List.replicate (j - i) (List.replicate z .hole)⟩) (hv:=.slice (some x) row.es.length cap) (F:=F) (N:=fun _=>False) (Or.inr hnm) (by simp) (fun _=>hrep') (fun h=>by cases h)
  (fun b h=>h.elim) (fun b hb=>?_) (fun b hb hp=>hw3 b fun e=>hp (fps _ (e ▸ c9))) (by omega) (fun l hl r' p hr hs hm=>?_)
 ·refine ⟨_,w',_,hrun,R.turn hin ⟨rfl,rfl⟩ hw4 hw5 hw6,⟨.own,z,row.es.take i ++ row.es.drop j ++ List.replicate (j - i) (List.replicate z .hole)⟩,row.es.take i ++ row.es.drop j ++ List.replicate (j - i) (List.replicate z .hole),.slice (some x) row.es.length cap,by simp[St.swap,get],rfl,by simp[valAt,Gh.row,bi],by rw[← hlen];omega,?_⟩
  exact View.whole (some x) _ cap z _
 ·rcases hb with rfl | ⟨k,l,hb⟩
  ·exact ⟨Or.inl (fps _ c9),by omega⟩
  ·exact ⟨Or.inl (fps _ (c4 k l b hb)),by have:=RowsFp.lt mem (fps _ (c4 k l b hb));omega⟩
 ·unfold hits at hl
  rw[hr] at hl
  simp at hl
  simp at hm
  exact absurd hm (by simpa using hl)
end
def St.swap2 (σ:St) (kill:L → Bool) (rs:List Nat) (k:Nat) (row:Row) (k2:Nat) (row2:Row):St :=
 { σ with env:=killE kill σ.env,sav:=killS kill σ.sav,box:=killB kill σ.box,row:=(k,row) :: (k2,row2) :: del rs σ.row }
def hits2 (rs:List Nat) (r2:Nat) (l:L):Bool:=match l.rowOf with
 | some (r,p)=>rs.contains r || (r == r2 && !p.isEmpty)
 | none=>false
section
variable {P:Program} {w0 w w':World} {Al:Blks} {N:Nat} {g:Gh} {σ:St} {a:Act}
theorem fR {α:Type} {k k2 n:Nat} {x x2 y:α} (h:get [(k,x),(k2,x2)] n = some y):(n = k ∧ x = y) ∨ (n ≠ k ∧ n = k2 ∧ x2 = y):=by
 simp only[get] at h;split at h
 ·rename_i e;simp only[Option.some.injEq] at h;exact Or.inl ⟨e,h⟩
 ·rename_i e
  split at h
  ·rename_i e2;simp only[Option.some.injEq] at h;exact Or.inr ⟨e,e2,h⟩
  ·cases h
theorem uN (m:Mem w g σ) {kill:L → Bool} {rs:List Nat} {k k2:Nat} {row row2:Row} {hv hv2:Value} {F F2:Blks} (hk:get σ.row k = none) (hk2:k2 ∈ rs) (hne:k ≠ k2) (hpm:row.pm = .own) (hpm2:row2.pm = .own)
  (hown:Rep w' true hv row.t F) (hown2:Rep w' true hv2 row2.t F2) (hdis:∀ b,F b → F2 b → False)
  (hF:∀ b,F b → (RowsFp g σ rs b ∨ w.heap.size ≤ b) ∧ b < w'.heap.size) (hF2:∀ b,F2 b → (RowsFp g σ rs b ∨ w.heap.size ≤ b) ∧ b < w'.heap.size) (hold:∀ b,b < w.heap.size → ¬ RowsFp g σ rs b → w'.heap[b]? = w.heap[b]?) (hsz:w.heap.size ≤ w'.heap.size)
  (hkeep:∀ l,kill l = false → ∀ r p,l.rowOf = some (r,p) → (get σ.row r).isSome → r ∈ rs → Stays w w' g ((g.row k2 hv2 F2).row k hv F) σ (σ.swap2 kill rs k row k2 row2) r p) :
  NewIn w w' g ((g.row k2 hv2 F2).row k hv F) σ (σ.swap2 kill rs k row k2 row2) rs [] [(k,row),(k2,row2)] [] kill:=by
 have pool:∀ b,Pool g σ rs [] b ↔ RowsFp g σ rs b:=fun b=>by simp[Pool,RowsFp]
 have rne:∀ r,r ∉ rs → (get σ.row r).isSome → r ≠ k ∧ r ≠ k2:=by
  rintro r h1 h2
  refine ⟨?_,?_⟩
  ·rintro rfl;rw[hk] at h2;cases h2
  ·rintro rfl;exact h1 hk2
 have v1:((g.row k2 hv2 F2).row k hv F).rw k = hv ∧ ((g.row k2 hv2 F2).row k hv F).fp k = F:=by simp[Gh.row,bi]
 have v2:((g.row k2 hv2 F2).row k hv F).rw k2 = hv2 ∧ ((g.row k2 hv2 F2).row k hv F).fp k2 = F2:=by simp[Gh.row,bi,upd_ne _ _ (Ne.symm hne)]
 refine ⟨rfl,by simp[St.swap2,bw],fun b hb hp=>hold b hb fun h=>hp ((pool b).2 h),hsz,fun r hr hs=>?_,fun _ _ _=>rfl,?_,?_,?_,?_,?_,?_,?_,?_,?_,?_,?_,hkeep,?_⟩
 ·obtain ⟨h1,h2⟩:=rne r hr hs
  exact ⟨by simp[Gh.row,upd_ne _ _ h1,upd_ne _ _ h2],by simp[Gh.row,upd_ne _ _ h1,upd_ne _ _ h2]⟩
 ·intro k' row' h
  rcases fR h with ⟨rfl,_⟩ | ⟨_,rfl,_⟩
  ·exact Or.inr hk
  ·exact Or.inl hk2
 ·intro k' ls h;simp[get] at h
 ·intro k' row' h hp
  rcases fR h with ⟨rfl,rfl⟩ | ⟨_,rfl,rfl⟩
  ·rw[v1.1,v1.2];exact hown
  ·rw[v2.1,v2.2];exact hown2
 ·intro k' row' h hp
  rcases fR h with ⟨rfl,rfl⟩ | ⟨_,rfl,rfl⟩
  ·rw[hpm] at hp;cases hp
  ·rw[hpm2] at hp;cases hp
 ·intro k' row' h hp
  rcases fR h with ⟨rfl,rfl⟩ | ⟨_,rfl,rfl⟩
  ·rw[hpm] at hp;cases hp
  ·rw[hpm2] at hp;cases hp
 ·intro k' row' b h hp hb
  rcases fR h with ⟨rfl,rfl⟩ | ⟨_,rfl,rfl⟩
  ·rw[v1.2] at hb;exact ⟨(hF b hb).1.imp (pool b).2 id,(hF b hb).2⟩
  ·rw[v2.2] at hb;exact ⟨(hF2 b hb).1.imp (pool b).2 id,(hF2 b hb).2⟩
 ·intro k' ls h;simp[get] at h
 ·intro r r' row1 row2' b h h' _ _ hb hb'
  rcases fR h with ⟨rfl,rfl⟩ | ⟨_,rfl,rfl⟩ <;> rcases fR h' with ⟨rfl,rfl⟩ | ⟨_,rfl,rfl⟩
  ·rfl
  ·rw[v1.2] at hb;rw[v2.2] at hb';exact (hdis b hb hb').elim
  ·rw[v2.2] at hb;rw[v1.2] at hb';exact (hdis b hb' hb).elim
  ·rfl
 ·intro k' ls r row' h;simp[get] at h
 ·intro k1 k2' l1 l2 h;simp[get] at h
 ·intro k' ls h;simp[get] at h
 ·intro l _ b _ _ h;simp at h
def movedEs (es:Els) (z off len:Nat):Els:=es.take off ++ List.replicate len (List.replicate z .hole) ++ es.drop (off + len)
theorem pi (R:Rel w0 Al N σ a w g) {t e ty:TypeId} (hu:(tyOf P t).u = .sl e) (hk:(tyOf P e).known = true) {z:Nat} (hz:(tyOf P e).sz = z) {rs:List Nat} {es:Els} {oa:Option Addr} {n cap:Nat} {olds:List Value} {nm r2 off len:Nat} {row2:Row} {v:Value}
  (hT:TgtOk w g σ z rs .own es oa n cap olds) (hrow2:get σ.row r2 = some row2) (hpm2:row2.pm = .own) (hz2:row2.z = z) (hl2:off + len ≤ row2.es.length) (hv:RepL w g σ (.ref r2 [] z off len) v)
  (hd:r2 ∉ rs) (hnm:get σ.row nm = none) (hb:(es.length + len) * (tyOf P e).by_ ≤ 140737488355328) (hm:es.length + len ≤ 9223372036854775807) :
  ∃ rv w' g',(Builtin.append_ #[t,t] ty #[.slice oa n cap,v]).run P w = .ok rv w' ∧
   Rel w0 Al N (σ.swap2 (hits2 rs r2) (rs ++ [r2]) nm ⟨.own,z,es ++ (row2.es.drop off).take len⟩ r2 ⟨.own,z,movedEs row2.es z off len⟩) a w' g' ∧
   RepV w' g' (σ.swap2 (hits2 rs r2) (rs ++ [r2]) nm ⟨.own,z,es ++ (row2.es.drop off).take len⟩ r2 ⟨.own,z,movedEs row2.es z off len⟩) (.l (.ref nm [] z 0 (es.length + len))) rv:=by
 obtain ⟨hn,hcap,hh,hblk,hlive,howns,_⟩:=hT
 obtain ⟨f,hf,s1,d1,hdf⟩:=howns rfl
 have mem:=R.mem
 have hrep:=mem.own r2 row2 hrow2 hpm2
 rw[Row.t,hz2] at hrep
 obtain ⟨row3,es3,u3,b1,b2,b3,b4,b5⟩:=hv
 rw[hrow2] at b1
 cases b1
 simp only[Row.t,T.at?,Option.some.injEq,T.sl.injEq,valAt] at b2 b3
 obtain ⟨-,rfl⟩:=b2
 subst b3
 have hpart:=hrep.view b5 b4
 obtain ⟨ob0,n2,cap2,ob,c0,c1,c2⟩:=b5
 subst c1
 rw[c0] at hrep
 obtain ⟨e1,e2,vals,f2,e3,e4,e5,e6,e7,e8⟩:=hrep.open
 obtain ⟨k1,k2,news,f3,k3,k4,k5,k6,k7,k8⟩:=hpart.open
 have hlen:len = ((row2.es.drop off).take len).length:=k1
 have hnews:news = (vals.drop (off * z)).take (len * z):=by
  have hnl:news.length = len * z:=by rw[k3.len,← hlen]
  have hvl:=e3.len
  have hmul:(off + len) * z ≤ row2.es.length * z:=Nat.mul_le_mul_right z b4
  rw[Nat.add_mul] at hmul
  by_cases h0:len = 0
  ·subst h0
   simp at hnl ⊢
   exact hnl
  ·rcases k8 with h | ⟨y,hy,hcy⟩
   ·omega
   ·rcases e8 with h | ⟨y0,hy0,hc0⟩
    ·omega
    ·have:ob = ob0.map fun a=>a.add (off * z):=by
      rcases c2 with h | h
      ·omega
      ·exact h
     rw[hy,hy0] at this
     simp only[Option.map_some,Option.some.injEq] at this
     subst this
     apply List.ext_getElem?
     intro j
     by_cases hj:j < len * z
     ·rw[List.getElem?_take,if_pos hj,List.getElem?_drop,List.getElem?_eq_getElem (by omega),List.getElem?_eq_getElem (by omega)]
      have q1:=hcy j _ (List.getElem?_eq_getElem (by omega))
      have q2:=hc0 (off * z + j) _ (List.getElem?_eq_getElem (by omega))
      have hsp:y0.spot = none:=by
       rcases e7 rfl with ⟨h9,_⟩ | ⟨x,cs,e0,h9,h10,_⟩
       ·omega
       ·rw[hy0] at h9;cases h9;exact h10
      rw[Addr.add_plain hsp] at q1 q2
      rw[Addr.add_plain rfl] at q1
      have q3:(⟨y0.block,y0.off + off * z + j,none⟩:Addr) = ⟨y0.block,y0.off + (off * z + j),none⟩:=by congr 1;omega
      simp only at q1
      rw[q3,q2] at q1
      exact q1.symm
     ·rw[List.getElem?_eq_none (by omega),List.getElem?_eq_none (by simp;omega)]
 have hpc:=e3.part off len b4
 rw[← hnews] at hpc
 have hnl:news.length = len * z:=by rw[hpc.len,← hlen]
 obtain ⟨oa',cap',w',hr,h2,h3,h4,h5,h6,h7,h8⟩:=gO (ty:=ty) (c:=cap2 - off) hu hk hz hh hnl k8 k3.one (by rw[hn];exact hb) (by rw[hn];exact hm)
 have hsum:n + len = (es ++ (row2.es.drop off).take len).length:=by rw[List.length_append,hn,← hlen]
 rw[hsum] at hr h6
 have fps:∀ b,g.fp r2 b → RowsFp g σ [r2] b:=fun b hb=>⟨r2,row2,by simp,hrow2,by simp[hpm2],hb⟩
 have hdj:∀ r ∈ rs,r ∉ [r2]:=fun r hr e=>hd (by simp only[List.mem_singleton] at e;rw[← e];exact hr)
 have s2:∀ i j b,f2 i j b → RowsFp g σ [r2] b:=fun i j b hb=>fps b (e4 i j b hb)
 have hkeepf:∀ i j b,f i j b → w'.heap[b]? = w.heap[b]?:=fun i j b hb=>h8 b (RowsFp.lt mem (s1 i j b hb)) fun y hy hc e=>hdf y hy hc i j (e ▸ hb)
 have hkeepR:∀ b,g.fp r2 b → w'.heap[b]? = w.heap[b]?:=fun b hb=>h8 b (RowsFp.lt mem (fps b hb)) fun y hy hc e=>RowsFp.dis mem hdj (hblk y hy hc) (e ▸ fps b hb)
 have hcells:CellsRep w' true z (es ++ (row2.es.drop off).take len) (olds ++ news) fun i j=>if i < es.length then f i j else f2 (i - es.length + off) j :=
  CellsRep.append (hf.mono fun i j v c h=>h.frame (hkeepf i j)) (hpc.mono fun i j v c h=>h.frame fun b hb=>hkeepR b (e4 _ _ b hb))
 let F:Blks:=fun b=>(∃ x,oa' = some x ∧ cap' ≠ 0 ∧ b = x.block) ∨ (∃ i j,f i j b) ∨ ∃ i j,i < len ∧ f2 (i + off) j b
 let F2:Blks:=fun b=>g.fp r2 b ∧ ∀ i j,i < len → ¬ f2 (i + off) j b
 have hrep1:Rep w' true (.slice oa' (es ++ (row2.es.drop off).take len).length cap') (.sl z (es ++ (row2.es.drop off).take len)) F:=by
  let f9:Nat → Nat → Blks:=fun i j=>if i < es.length then f i j else if i - es.length < len then f2 (i - es.length + off) j else fun _=>False
  have hcells9:CellsRep w' true z (es ++ (row2.es.drop off).take len) (olds ++ news) f9:=by
   refine ⟨hcells.len,hcells.each,fun i j x c hx hc=>?_⟩
   obtain ⟨v,hv,hr⟩:=hcells.rep i j x c hx hc
   refine ⟨v,hv,?_⟩
   have hil:i < es.length + len:=by
    have:=(List.getElem?_eq_some_iff.1 hx).1
    rw[List.length_append,← hlen] at this;exact this
   simp only[f9]
   by_cases h1:i < es.length
   ·rw[if_pos h1] at hr ⊢;exact hr
   ·rw[if_neg h1] at hr ⊢;rw[if_pos (by omega)];exact hr
  refine h6.close rfl hcells9 (fun x hx hc=>⟨Or.inl ⟨x,hx,hc,rfl⟩,fun i j hf'=>?_⟩) (fun i j b hb=>?_) (fun i j i' j' b hb hb'=>?_)
  ·obtain ⟨_,h9⟩:=h7 x hx hc
   simp only[f9] at hf'
   split at hf'
   ·rcases h9 with ⟨y,hy,hc',e⟩ | e
    ·exact hdf y hy hc' i j (e ▸ hf')
    ·have:=RowsFp.lt mem (s1 _ _ _ hf');omega
   ·split at hf'
    ·rcases h9 with ⟨y,hy,hc',e⟩ | e
     ·exact RowsFp.dis mem hdj (hblk y hy hc') (e ▸ s2 _ _ _ hf')
     ·have:=RowsFp.lt mem (s2 _ _ _ hf');omega
    ·exact hf'
  ·simp only[f9] at hb
   split at hb
   ·exact Or.inr (Or.inl ⟨i,j,hb⟩)
   ·split at hb
    ·rename_i h9
     exact Or.inr (Or.inr ⟨_,j,h9,hb⟩)
    ·exact hb.elim
  ·simp only[f9] at hb hb'
   by_cases g1:i < es.length <;> by_cases g2:i' < es.length
   ·rw[if_pos g1] at hb;rw[if_pos g2] at hb';exact d1 _ _ _ _ b hb hb'
   ·rw[if_pos g1] at hb;rw[if_neg g2] at hb'
    split at hb'
    ·exact (RowsFp.dis mem hdj (s1 _ _ _ hb) (s2 _ _ _ hb')).elim
    ·exact hb'.elim
   ·rw[if_neg g1] at hb;rw[if_pos g2] at hb'
    split at hb
    ·exact (RowsFp.dis mem hdj (s1 _ _ _ hb') (s2 _ _ _ hb)).elim
    ·exact hb.elim
   ·rw[if_neg g1] at hb;rw[if_neg g2] at hb'
    split at hb
    ·split at hb'
     ·have:=e5 rfl _ _ _ _ b hb hb'
      omega
     ·exact hb'.elim
    ·exact hb.elim
 have hm2:(movedEs row2.es z off len).length = row2.es.length:=by
  simp[movedEs];omega
 have hvl:=e3.len
 have hrep2:Rep w' true (.slice ob0 n2 cap2) (.sl z (movedEs row2.es z off len)) F2:=by
  have hH:Holds w' z ob0 n2 cap2 vals:=by
   rcases e7 rfl with h | ⟨x,cs,e0,q1,q2,q3,q4⟩
   ·exact Or.inl h
   ·by_cases hc0:cap2 = 0
    ·refine Or.inl ⟨hc0,by omega,List.eq_nil_of_length_eq_zero ?_⟩
     rw[hvl,← e1,show n2 = 0 by omega,Nat.zero_mul]
    ·exact Or.inr ⟨x,cs,e0,q1,q2,by rw[hkeepR _ (e6 rfl x q1 hc0).1];exact q3,q4⟩
  let f9:Nat → Nat → Blks:=fun i j=>if i < off then f2 i j else if i < off + len then fun _=>False else f2 i j
  have hcells9:CellsRep w' true z (movedEs row2.es z off len) vals f9:=by
   refine ⟨by rw[hm2];exact hvl,fun x hx=>?_,fun i j x c hx hc=>?_⟩
   ·simp only[movedEs,List.mem_append,List.mem_replicate] at hx
    rcases hx with (hx | hx) | hx
    ·exact e3.each x (List.mem_of_mem_take hx)
    ·rw[hx.2];simp
    ·exact e3.each x (List.mem_of_mem_drop hx)
   ·simp only[movedEs] at hx
    have hto:(row2.es.take off).length = off:=by simp;omega
    by_cases g1:i < off
    ·rw[List.append_assoc,List.getElem?_append_left (by omega),List.getElem?_take,if_pos g1] at hx
     obtain ⟨v,hv,hr⟩:=e3.rep i j x c hx hc
     refine ⟨v,hv,?_⟩
     simp only[f9,if_pos g1]
     exact hr.frame fun b hb=>hkeepR b (e4 _ _ b hb)
    ·by_cases g2:i < off + len
     ·rw[List.append_assoc,List.getElem?_append_right (by omega),List.getElem?_append_left (by simp;omega),List.getElem?_replicate,if_pos (by omega)] at hx
      cases hx
      rw[List.getElem?_replicate] at hc
      split at hc
      ·rename_i hjz
       cases hc
       have hlt:i * z + j < vals.length:=by rw[hvl];exact fc (by omega) hjz
       exact ⟨_,List.getElem?_eq_getElem hlt,.hole (e3.one _ (List.getElem_mem hlt))⟩
      ·cases hc
     ·rw[List.getElem?_append_right (by rw[List.length_append,hto];simp;omega),List.length_append,hto,List.length_replicate,List.getElem?_drop,show off + len + (i - (off + len)) = i by omega] at hx
      obtain ⟨v,hv,hr⟩:=e3.rep i j x c hx hc
      refine ⟨v,hv,?_⟩
      simp only[f9,if_neg g1,if_neg g2]
      exact hr.frame fun b hb=>hkeepR b (e4 _ _ b hb)
  have f9sub:∀ i j b,f9 i j b → f2 i j b ∧ (i < off ∨ off + len ≤ i):=by
   intro i j b hb
   simp only[f9] at hb
   split at hb
   ·exact ⟨hb,by omega⟩
   ·split at hb
    ·exact hb.elim
    ·exact ⟨hb,by omega⟩
  refine hH.close (by rw[hm2];exact e1) hcells9 (fun x hx hc=>⟨⟨(e6 rfl x hx hc).1,fun i j _=>(e6 rfl x hx hc).2 _ _⟩,fun i j hb=>(e6 rfl x hx hc).2 i j (f9sub i j _ hb).1⟩) (fun i j b hb=>⟨e4 _ _ b (f9sub i j b hb).1,fun i' j' hi' hb'=>?_⟩) (fun i j i' j' b hb hb'=>e5 rfl _ _ _ _ b (f9sub i j b hb).1 (f9sub i' j' b hb').1)
  have:=e5 rfl _ _ _ _ b (f9sub i j b hb).1 hb'
  have:=(f9sub i j b hb).2
  omega
 have hrs:∀ b,RowsFp g σ rs b → RowsFp g σ (rs ++ [r2]) b:=fun b ⟨r,row,h1,h⟩=>⟨r,row,by simp[h1],h⟩
 have hrs2:∀ b,RowsFp g σ [r2] b → RowsFp g σ (rs ++ [r2]) b:=fun b ⟨r,row,h1,h⟩=>⟨r,row,by simp[List.mem_singleton.1 h1],h⟩
 have hnr:nm ≠ r2:=fun e=>by rw[e,hrow2] at hnm;cases hnm
 have hin:=uN (w':=w') mem (kill:=hits2 rs r2) (rs:=rs ++ [r2]) (k:=nm) (k2:=r2) (row:=⟨.own,z,es ++ (row2.es.drop off).take len⟩) (row2:=⟨.own,z,movedEs row2.es z off len⟩) (hv:=.slice oa' (es ++ (row2.es.drop off).take len).length cap') (hv2:=.slice ob0 n2 cap2) (F:=F) (F2:=F2)
  hnm (by simp) hnr rfl rfl hrep1 hrep2 (fun b hb hb2=>?_) (fun b hb=>?_) (fun b hb=>?_) (fun b hb hp=>h8 b hb fun y hy hc e=>hp (hrs _ (e ▸ hblk y hy hc))) h5 (fun l hl r p hr' hs hm'=>?_)
 ·refine ⟨_,w',_,hr,R.turn hin ⟨rfl,rfl⟩ h2 h3 h4,⟨.own,z,es ++ (row2.es.drop off).take len⟩,es ++ (row2.es.drop off).take len,.slice oa' (es ++ (row2.es.drop off).take len).length cap',by simp[St.swap2,get],rfl,by simp[valAt,Gh.row,bi],by rw[← hsum];omega,?_⟩
  rw[← hsum,hn]
  exact View.whole oa' _ cap' z _
 ·rcases hb with ⟨x,hx,hc,rfl⟩ | ⟨i,j,hb⟩ | ⟨i,j,hi,hb⟩
  ·obtain ⟨h9,h10⟩:=h7 x hx hc
   rcases h10 with ⟨y,hy,hc',e⟩ | e
   ·exact RowsFp.dis mem hdj (hblk y hy hc') (e ▸ fps _ hb2.1)
   ·have:=RowsFp.lt mem (fps _ hb2.1);omega
  ·exact RowsFp.dis mem hdj (s1 i j b hb) (fps _ hb2.1)
  ·exact hb2.2 i j hi hb
 ·rcases hb with ⟨x,hx,hc,rfl⟩ | ⟨i,j,hb⟩ | ⟨i,j,hi,hb⟩
  ·obtain ⟨h9,h10⟩:=h7 x hx hc
   refine ⟨?_,h9⟩
   rcases h10 with ⟨y,hy,hc',e⟩ | e
   ·exact Or.inl (hrs _ (e ▸ hblk y hy hc'))
   ·exact Or.inr (by omega)
  ·exact ⟨Or.inl (hrs _ (s1 i j b hb)),Nat.lt_of_lt_of_le (RowsFp.lt mem (s1 i j b hb)) h5⟩
  ·exact ⟨Or.inl (hrs2 _ (s2 _ _ b hb)),Nat.lt_of_lt_of_le (RowsFp.lt mem (s2 _ _ b hb)) h5⟩
 ·exact ⟨Or.inl (hrs2 _ (fps b hb.1)),Nat.lt_of_lt_of_le (RowsFp.lt mem (fps b hb.1)) h5⟩
 ·unfold hits2 at hl
  rw[hr'] at hl
  simp only[Bool.or_eq_false_iff] at hl
  obtain ⟨hl1,hl2⟩:=hl
  have hr2:r = r2:=by
   rcases List.mem_append.1 hm' with h | h
   ·simp at hl1;exact absurd h hl1
   ·exact List.mem_singleton.1 h
  subst hr2
  have hp0:p = []:=by
   cases p with
   | nil=>rfl
   | cons q p=>simp at hl2
  subst hp0
  intro row4 hrow4
  rw[hrow2] at hrow4
  cases hrow4
  refine ⟨⟨.own,z,movedEs row2.es z off len⟩,by simp[St.swap2,get,Ne.symm hnr],by simp[Gh.row,bi,upd_ne _ _ (Ne.symm hnr),c0],fun zz es4 u hat hval=>?_⟩
  simp only[Row.t,T.at?,Option.some.injEq,T.sl.injEq,valAt] at hat hval
  obtain ⟨rfl,rfl⟩:=hat
  subst hval
  refine ⟨movedEs row2.es z off len,by simp[Row.t,T.at?,hz2],hm2,by simp[valAt,Gh.row,bi,upd_ne _ _ (Ne.symm hnr),c0]⟩
end
def effSame (P:Program) (σ:St) (nm:Nat) (t t' e:TypeId) (c1 c2:Bool):V → V → Option (Prop × St × Option V)
 | .l (.ref r [] z1 0 i),.l (.ref r' [] z2 j m)=>if r = r' then match get σ.row r with
  | some row=>match row.pm with
   | .own=>some (t' = t ∧ c1 = true ∧ c2 = true ∧ z1 = (tyOf P e).sz ∧ z2 = (tyOf P e).sz ∧ row.z = (tyOf P e).sz ∧ i < j ∧ j + m = row.es.length ∧ row.es.length ≤ 9223372036854775807 ∧ (i + m) * (tyOf P e).by_ ≤ 140737488355328 ∧ (tyOf P e).known = true ∧ get σ.row nm = none,σ.swap (hits [r]) [r] nm ⟨.own,(tyOf P e).sz,row.es.take i ++ row.es.drop j ++ List.replicate (j - i) (List.replicate (tyOf P e).sz .hole)⟩,some (.l (.ref nm [] (tyOf P e).sz 0 (i + m))))
   | _=>none
  | none=>none
  else none
 | _,_=>none
def eff (P:Program) (σ:St) (nm:Nat):Op → Option (Prop × St × Option V)
 | .alloc t=>some ((tyOf P t).known = true ∧ get σ.box nm = none,{ σ with box:=(nm,(tyOf P t).ze) :: σ.box },some (.l (.ptr nm 0)))
 | .box _ x=>match evO σ x with
  | some (c,v)=>match v.cells with
   | some ls=>some (c = true ∧ get σ.box nm = none,{ σ with box:=(nm,ls) :: σ.box },some (.l (.ptr nm 0)))
   | none=>none
  | none=>none
 | .buildSlice t n parts=>match (tyOf P t).u with
  | .sl e=>match partsL σ 0 parts.toList with
   | some (_,[])=>some (n = 0 ∧ (tyOf P e).known = true,σ,some (.l .nil))
   | some (c,lss)=>match takeLss σ (tyOf P e).cz lss with
    | some (c',es,rs)=>some (c ∧ c' ∧ n = lss.length ∧ (tyOf P e).cz.length = (tyOf P e).sz ∧ 0 < (tyOf P e).sz ∧ (tyOf P e).known = true ∧ n * (tyOf P e).sz ≤ 16777216 ∧ get σ.row nm = none,σ.swap (hits rs) rs nm ⟨.own,(tyOf P e).sz,es⟩,some (.l (.ref nm [] (tyOf P e).sz 0 es.length)))
    | none=>match shareLss σ (tyOf P e).cz lss with
     | some (c',es,rs)=>some (c ∧ c' ∧ n = lss.length ∧ (tyOf P e).cz.length = (tyOf P e).sz ∧ 0 < (tyOf P e).sz ∧ (tyOf P e).known = true ∧ n * (tyOf P e).sz ≤ 16777216 ∧ get σ.row nm = none,(σ.freeze rs).swap (fun _=>false) [] nm ⟨.top,(tyOf P e).sz,es⟩,some (.l (.ref nm [] (tyOf P e).sz 0 es.length)))
     | none=>none
   | none=>none
  | _=>none
 | .makeSlice t l c=>match (tyOf P t).u,evO σ l,evO σ c with
  | .sl e,some (c1,.l (.t (.int _ n))),some (c2,.l (.t (.int _ n')))=>match takeLs σ (tyOf P e).cz (tyOf P e).ze with
   | some (q,ts,[])=>some (q ∧ c1 = true ∧ c2 = true ∧ n = n' ∧ (0 ≤ n ∧ n ≤ 9223372036854775807 ∧ n * (tyOf P e).by_ ≤ 281474976710656) ∧ (tyOf P e).known = true ∧ (tyOf P e).cz.length = (tyOf P e).sz ∧ 0 < (tyOf P e).sz ∧ get σ.row nm = none,σ.swap (fun _=>false) [] nm ⟨.own,(tyOf P e).sz,List.replicate n.toNat ts⟩,some (.l (.ref nm [] (tyOf P e).sz 0 n.toNat)))
   | _=>none
  | _,_,_=>none
 | .store t ad x=>match evO σ ad,evO σ x with
  | some (c1,.l (.ptr k j)),some (c2,v)=>match get σ.box k,v.cells with
   | some ls,some xs=>some (c1 = true ∧ c2 = true ∧ xs.length = (tyOf P t).sz ∧ (tyOf P t).known = true ∧ j + xs.length ≤ ls.length,{ σ with box:=(k,patch ls j xs) :: del [k] σ.box },none)
   | _,_=>none
  | some (c1,.l (.ept r p i j d)),some (c2,v)=>match get σ.row r,v.cells with
   | some row,some xs=>match row.t.at? p with
    | some (.sl z es)=>match row.pm,p with
      | .own,p=>match takeLs σ (tyOf P t).cz xs with
       | some (c,ts,rs)=>some (c1 = true ∧ c2 = true ∧ c ∧ xs.length = (tyOf P t).sz ∧ (tyOf P t).known = true ∧ j + ts.length ≤ (es.getD i (tyOf P d).dz).length ∧ r ∉ rs,σ.swap (killSt rs r p) (r :: rs) r (row.store p z es i j (es.getD i (tyOf P d).dz) ts),none)
       | none=>none
      | .top,[]=>match shareLs σ (tyOf P t).cz xs with
       | some (c,ts,rs)=>some (c1 = true ∧ c2 = true ∧ c ∧ xs.length = (tyOf P t).sz ∧ (tyOf P t).known = true ∧ j + ts.length ≤ (es.getD i (tyOf P d).dz).length ∧ r ∉ rs,(σ.freeze rs).swap (killSt [] r []) [r] r (row.store [] row.z row.es i j (es.getD i (tyOf P d).dz) ts),none)
       | none=>none
      | _,_=>none
    | _=>none
   | _,_=>none
  | _,_=>none
 | .call { callee:=.builtin .append,args,argTypes }=>match args.toList,argTypes.toList with
  | [s,x],[t,t']=>match (tyOf P t).u,evO σ s,evO σ x with
   | .sl e,some (c1,vs),some (c2,vx)=>match effSame P σ nm t t' e c1 c2 vs vx with
    | some q=>some q
    | none=>match appT σ (tyOf P e).sz vs,appS σ (tyOf P e).sz vx with
    | some (c3,rs,pm,es),some (c4,who,els)=>match (tyOf P e).cz.all (· == 0),who,pm with
     | true,_,.own=>some (t' = t ∧ c1 = true ∧ c2 = true ∧ c3 ∧ c4 ∧ Flat els ∧ (es.length + els.length) * (tyOf P e).by_ ≤ 140737488355328 ∧ 0 < (tyOf P e).by_ ∧ (tyOf P e).known = true ∧ get σ.row nm = none,σ.swap (hits (rs ++ [])) (rs ++ []) nm ⟨.own,(tyOf P e).sz,es ++ els⟩,some (.l (.ref nm [] (tyOf P e).sz 0 (es.length + els.length))))
     | true,_,pm=>some (t' = t ∧ c1 = true ∧ c2 = true ∧ c3 ∧ c4 ∧ Flat els ∧ (es.length + els.length) * (tyOf P e).by_ ≤ 140737488355328 ∧ 0 < (tyOf P e).by_ ∧ (tyOf P e).known = true ∧ get σ.row nm = none ∧ pm ≠ .ro,σ.swap (hits rs) rs nm ⟨.top,(tyOf P e).sz,es ++ els⟩,some (.l (.ref nm [] (tyOf P e).sz 0 (es.length + els.length))))
     | false,some (r2,[]),.own=>match get σ.row r2 with
      | some row2=>match row2.pm with
       | .own=>match vx with
        | .l (.ref _ _ z' off len)=>some (t' = t ∧ c1 = true ∧ c2 = true ∧ c3 ∧ c4 ∧ r2 ∉ rs ∧ row2.z = (tyOf P e).sz ∧ (es.length + len) * (tyOf P e).by_ ≤ 140737488355328 ∧ 0 < (tyOf P e).by_ ∧ (tyOf P e).known = true ∧ get σ.row nm = none,σ.swap2 (hits2 rs r2) (rs ++ [r2]) nm ⟨.own,(tyOf P e).sz,es ++ (row2.es.drop off).take len⟩ r2 ⟨.own,(tyOf P e).sz,movedEs row2.es (tyOf P e).sz off len⟩,some (.l (.ref nm [] (tyOf P e).sz 0 (es.length + len))))
        | _=>none
       | _=>some (t' = t ∧ c1 = true ∧ c2 = true ∧ c3 ∧ c4 ∧ r2 ∉ rs ∧ (es.length + els.length) * (tyOf P e).by_ ≤ 140737488355328 ∧ 0 < (tyOf P e).by_ ∧ (tyOf P e).known = true ∧ get σ.row nm = none,(σ.freeze [r2]).swap (hits rs) rs nm ⟨.top,(tyOf P e).sz,es ++ els⟩,some (.l (.ref nm [] (tyOf P e).sz 0 (es.length + els.length))))
      | none=>none
     | false,some (r2,_),pm=>some (t' = t ∧ c1 = true ∧ c2 = true ∧ c3 ∧ c4 ∧ r2 ∉ rs ∧ (es.length + els.length) * (tyOf P e).by_ ≤ 140737488355328 ∧ 0 < (tyOf P e).by_ ∧ (tyOf P e).known = true ∧ get σ.row nm = none ∧ pm ≠ .ro,(σ.freeze [r2]).swap (hits rs) rs nm ⟨.top,(tyOf P e).sz,es ++ els⟩,some (.l (.ref nm [] (tyOf P e).sz 0 (es.length + els.length))))
     | false,none,.own=>some (t' = t ∧ c1 = true ∧ c2 = true ∧ c3 ∧ c4 ∧ (es.length + els.length) * (tyOf P e).by_ ≤ 140737488355328 ∧ 0 < (tyOf P e).by_ ∧ (tyOf P e).known = true ∧ get σ.row nm = none,σ.swap (hits (rs ++ [])) (rs ++ []) nm ⟨.own,(tyOf P e).sz,es ++ els⟩,some (.l (.ref nm [] (tyOf P e).sz 0 (es.length + els.length))))
     | false,none,_=>none
    | _,_=>none
   | _,_,_=>none
  | _,_=>none
 | .call { callee:=.builtin .clear,args,argTypes }=>match args.toList,argTypes.toList with
  | [x],[t]=>match (tyOf P t).u,evO σ x with
   | .sl e,some (c1,.l (.ref r p z off len))=>match get σ.row r with
    | some row=>match row.t.at? p,takeLs σ (tyOf P e).cz (tyOf P e).ze with
     | some (.sl z' es),some (q,ts,[])=>some (c1 = true ∧ row.pm = .own ∧ z' = z ∧ q ∧ z = (tyOf P e).sz ∧ (tyOf P e).cz.length = (tyOf P e).sz ∧ (tyOf P e).known = true ∧ off + len ≤ es.length,σ.swap (killSt [] r p) [r] r { row with es:=(row.t.put p (.sl z (es.take off ++ List.replicate len ts ++ es.drop (off + len)))).els },some (.tup []))
     | _,_=>none
    | none=>none
   | _,_=>none
  | _,_=>none
 | _=>none
section
variable {P:Program} {w0 w w':World} {Al:Blks} {N:Nat} {g:Gh} {σ:St} {a:Act}
theorem ja {t:TypeId} (h:(tyOf P t).known = true):(P.info? t).isSome:=by
 obtain ⟨i,_,hi,_⟩:=fj h;simp[hi]
theorem rb {t:TypeId} (h:(tyOf P t).known = true):∃ i z,P.info? t = some i ∧ i.zero = some z ∧ RepLs w g σ (tyOf P t).ze z.cells.toList ∧ z.cells.size = (tyOf P t).sz:=by
 obtain ⟨i,z,hi,hz,hze,hsz,_,hone,hs⟩:=bC h;refine ⟨i,z,hi,hz,?_,by rw[hs,hsz]⟩;rw[hze];refine .of_nth (by simp) fun j l v hl hv=>?_;simp only[List.getElem?_map,hv,Option.map_some,Option.some.injEq] at hl;subst hl;exact jJ v (hone v (List.mem_of_getElem? hv))
theorem mH (R:Rel w0 Al N σ a w g) {nm:Nat} (h:get σ.box nm = none) {cs:Array Value} {e:TypeId} {ls:List L} (hr:RepLs w g σ ls cs.toList) :
  ∃ g',Rel w0 Al N { σ with box:=(nm,ls) :: σ.box } a { w with heap:=w.heap.push (.cells cs e) } g' ∧ RepV { w with heap:=w.heap.push (.cells cs e) } g' { σ with box:=(nm,ls) :: σ.box } (.l (.ptr nm 0)) (.pointer (some ⟨w.heap.size,0,none⟩)):=by
 have hin:=tn R.mem h (e:=e) hr
 refine ⟨_,R.turn (σ1:={ σ with box:=(nm,ls) :: σ.box }) hin ⟨by rw[bD],(bK _).symm⟩ rfl rfl rfl,?_,?_⟩
 ·simp[get]
 ·simp
theorem uO (R:Rel w0 Al N σ a w g) (o:Obj):Rel w0 Al N σ a { w with heap:=w.heap.push o } g:=by
 have hold:∀ b,b < w.heap.size → (w.heap.push o)[b]? = w.heap[b]?:=fun b hb=>by rw[Array.getElem?_push,if_neg (by omega)]
 have hn:NewIn w { w with heap:=w.heap.push o } g g σ { σ with env:=killE (fun _=>false) σ.env } [] [] [] [] (fun _=>false):=by
  refine ⟨by simp[bw],by simp[bw,cD],fun b hb _=>hold b hb,by simp,fun _ _ _=>⟨rfl,rfl⟩,fun _ _ _=>rfl,?_,?_,?_,?_,?_,?_,?_,?_,?_,?_,?_,?_,?_⟩ <;> intros <;> simp_all [get]
 have:=R.turn hn ⟨rfl,(bK _).symm⟩ rfl rfl rfl;rwa [bD] at this
theorem pj (size:Nat):∀ (vs:List Value) (k:Nat) (cells:Array Value),(∀ v ∈ vs,v.cells.size = size) → (k + vs.length) * size ≤ cells.size →
  ∃ cs',Instr.fill (fun i=>some (i * size,size)) cells (vs.zipIdx k |>.map fun q=>(q.2,q.1)) = some cs' ∧
   cs'.toList = cells.toList.take (k * size) ++ vs.flatMap (fun v=>v.cells.toList) ++ cells.toList.drop ((k + vs.length) * size)
 | [],k,cells,_,_=>⟨cells,rfl,by simp⟩
 | v :: vs,k,cells,hv,hs=>by
  have hvs:v.cells.size = size:=hv v (by simp)
  have hk1:(k + 1 + vs.length) * size ≤ cells.size:=by simpa [Nat.add_assoc,Nat.add_comm 1] using hs
  have hk2:(k + 1) * size ≤ cells.size:=Nat.le_trans (Nat.mul_le_mul_right size (by omega)) hk1
  have hk3:(k + 1) * size = k * size + size:=by rw[Nat.add_mul,Nat.one_mul]
  have e:=oX v.cells.toList 0 (k * size) cells (by simp;omega)
  simp only[Nat.add_zero] at e
  obtain ⟨cs',h1,h2⟩:=pj size vs (k + 1) (v.cells.toList.zipIdx.foldl (fun (cs:Array Value) (p:Value × Nat)=>cs.setIfInBounds (k * size + p.2) p.1) cells) (fun x hx=>hv x (by simp[hx])) (by
   have:(v.cells.toList.zipIdx.foldl (fun (cs:Array Value) (p:Value × Nat)=>cs.setIfInBounds (k * size + p.2) p.1) cells).size = cells.size:=by
    rw[← Array.length_toList,e];simp;omega
   rw[this];exact hk1)
  refine ⟨cs',?_,?_⟩
  ·simp only[List.zipIdx_cons,List.map_cons,Instr.fill]
   rw[if_neg (by simp;omega),← Array.foldl_toList,Array.toList_zipIdx]
   exact h1
  ·rw[h2,e]
   have l1:(cells.toList.take (k * size)).length = k * size:=by simp;omega
   have l2:v.cells.toList.length = size:=by simpa using hvs
   rw[List.flatMap_cons]
   have t1:(cells.toList.take (k * size) ++ v.cells.toList ++ cells.toList.drop (k * size + v.cells.toList.length)).take ((k + 1) * size) = cells.toList.take (k * size) ++ v.cells.toList:=by
    rw[List.take_append_of_le_length (by simp[l1];omega)]
    exact List.take_of_length_le (by simp[l1];omega)
   have t2:(cells.toList.take (k * size) ++ v.cells.toList ++ cells.toList.drop (k * size + v.cells.toList.length)).drop ((k + 1 + vs.length) * size) = cells.toList.drop ((k + (vs.length + 1)) * size):=by
    have hge:(k + 1) * size ≤ (k + 1 + vs.length) * size:=Nat.mul_le_mul_right size (by omega)
    rw[List.drop_append,List.drop_of_length_le (by simp[l1];omega),List.nil_append,List.drop_drop]
    congr 1
    simp only[List.length_append,l1,l2]
    have:k + (vs.length + 1) = k + 1 + vs.length:=by omega
    rw[this]
    omega
   rw[t1,t2]
   simp
theorem Rows.vals {lss:List (List L)} {vs vals:List Value} (h:Rows w g σ lss vs vals):vals = vs.flatMap (fun v=>v.cells.toList) ∧ vs.length = lss.length:=by
 induction h with
 | nil=>simp
 | cons h t ih=>simp[ih.1,ih.2]
theorem Rows.sizes {lss:List (List L)} {vs vals:List Value} (h:Rows w g σ lss vs vals) {n:Nat} (hn:∀ ls ∈ lss,ls.length = n):∀ v ∈ vs,v.cells.size = n:=by
 induction h with
 | nil=>simp
 | cons h t ih =>
  intro v hv;rcases List.mem_cons.1 hv with rfl | hv
  ·rw[← hn _ (List.mem_cons_self ..),h.length];simp
  ·exact ih (fun ls hl=>hn ls (by simp[hl])) v hv
theorem tv (parts:List (Nat × Operand)) (h:∀ (i:Nat) q,parts[i]? = some q → q.1 = 0 + i):parts.map (fun q=>(q.1,a.eval q.2)) = ((parts.map fun q=>a.eval q.2).zipIdx 0).map fun q=>(q.2,q.1):=by
 apply List.ext_getElem?;intro i;simp only[List.getElem?_map,List.getElem?_zipIdx];cases hp:parts[i]? with
 | none=>rfl
 | some q=>simp[h i q hp]
theorem gQ {t e:TypeId} (hu:(tyOf P t).u = .sl e) (hk:(tyOf P e).known = true) {n:Nat} {parts:Array (Nat × Operand)} {lss:List (List L)} {vals:List Value}
  (hr:Rows w g σ lss (parts.toList.map fun q=>a.eval q.2) vals) (hi:∀ (i:Nat) q,parts.toList[i]? = some q → q.1 = 0 + i) (hn:n = lss.length) (hl:∀ ls ∈ lss,ls.length = (tyOf P e).sz) (hb:n * (tyOf P e).sz ≤ 16777216) :
  ∃ cs:Array Value,cs.toList = vals ∧ (Instr.buildSlice t n (parts.map fun q=>(q.1,a.eval q.2))).run P w = .ok (.slice (some ⟨w.heap.size,0,none⟩) n n) { w with heap:=w.heap.push (.cells cs e) }:=by
 obtain ⟨i,z,hi',hz,hze,hsz,_,hone,hzs⟩:=bC hk
 obtain ⟨hv1,hv2⟩:=hr.vals
 have hlen:(parts.toList.map fun q=>a.eval q.2).length = n:=by rw[hv2,hn]
 have hsizes:=hr.sizes hl
 have main:∀ zero:Array Value,∃ cs':Array Value,cs'.toList = vals ∧ Instr.fill (fun i=>some (i * (tyOf P e).sz,(tyOf P e).sz)) ((Array.range (n * (tyOf P e).sz)).map fun x=>zero[x % zero.size]!) (parts.map fun q=>(q.1,a.eval q.2)).toList = some cs':=by
  intro zero
  obtain ⟨cs',h1,h2⟩:=pj (tyOf P e).sz (parts.toList.map fun q=>a.eval q.2) 0 ((Array.range (n * (tyOf P e).sz)).map fun x=>zero[x % zero.size]!) hsizes (by rw[hlen];simp)
  refine ⟨cs',?_,?_⟩
  ·rw[h2,← hv1,hlen]
   simp[List.drop_of_length_le]
  ·rw[Array.toList_map,tv parts.toList hi]
   exact h1
 have hnb:¬ n * (tyOf P e).sz > 2 ^ 24:=by omega
 by_cases h0:n * (tyOf P e).sz = 0
 ·obtain ⟨cs',q1,q2⟩:=main #[]
  refine ⟨cs',q1,?_⟩
  simp only[Instr.buildSlice,Sem.run_bind,run_underlying (gJ hu),Result.andThen_ok,cg hk,hnb,if_false]
  rw[if_pos h0]
  simp only[Sem.run_bind,Sem.run_pure,Result.andThen_ok,q2]
  rfl
 ·obtain ⟨cs',q1,q2⟩:=main z.cells
  refine ⟨cs',q1,?_⟩
  simp only[Instr.buildSlice,Sem.run_bind,run_underlying (gJ hu),Result.andThen_ok,cg hk,hnb,if_false]
  rw[if_neg h0]
  simp only[Sem.run_bind,zeroValue,typeInfo,run_program,Result.andThen_ok,hi',hz,Sem.run_pure,q2]
  rfl
end
section
variable {P:Program} {w0 w w':World} {Al:Blks} {N:Nat} {g:Gh} {σ:St} {a:Act}
theorem er (w:World) (o:Obj):Kept w { w with heap:=w.heap.push o }:=fun b hb=>by simp only;rw[Array.getElem?_push,if_neg (by omega)]
def Op.grows:Op → Bool
 | .alloc _ | .box .. | .makeSlice .. | .buildSlice ..=>true
 | _=>false
def Leaves (w:World) (k:Bool) (w0:World) (Al:Blks) (N:Nat) (σ:St) (a:Act) (rv:Option V) (r:Result Next):Prop :=
 ∃ n w' g',r = .ok n w' ∧ (k = true → Kept w w') ∧ Rel w0 Al N σ a w' g' ∧ match rv with
  | some v=>∃ x,n = .value x ∧ RepV w' g' σ v x
  | none=>n = .skip
theorem iA {z:Nat} {ts:List T} {zc:Array Value} (n:Nat) (hz:zc.size = z) (hl:ts.length = z) (hr:∀ (j:Nat) (t:T) (v:Value),ts[j]? = some t → zc.toList[j]? = some v → Rep w true v t fun _=>False) :
  CellsRep w true z (List.replicate n ts) (madeCells zc (n * z)).toList fun _ _ _=>False:=by
 refine ⟨by simp[madeCells],fun x hx=>by rw[List.eq_of_mem_replicate hx];exact hl,fun i j x c hx hc=>?_⟩
 have hi:i < n:=by simpa using (List.getElem?_eq_some_iff.1 hx).1
 have hx':x = ts:=List.eq_of_mem_replicate (List.mem_of_getElem? hx)
 subst hx'
 have hj:j < z:=hl ▸ (List.getElem?_eq_some_iff.1 hc).1
 have hlt:=fc hi hj
 have hmod:(i * z + j) % z = j:=by rw[Nat.mul_comm,Nat.mul_add_mod];exact Nat.mod_eq_of_lt hj
 have hjz:j < zc.size:=by omega
 refine ⟨zc[j],?_,hr j c _ hc (by simp[hjz])⟩
 simp only[madeCells,Array.toList_map,Array.toList_range,List.getElem?_map,List.getElem?_range hlt,Option.map_some,hz,hmod]
 simp[hjz]
theorem tw (R:Rel w0 Al N σ a w g) {nm:Nat} {t:TypeId} (hk:(tyOf P t).known = true) (hnm:get σ.box nm = none) :
  Leaves w true w0 Al N { σ with box:=(nm,(tyOf P t).ze) :: σ.box } a (some (.l (.ptr nm 0))) (((do pure (Next.value (← Instr.alloc t true (.tuple #[])))):Sem Next).run P w):=by
 obtain ⟨i,z,hi,hz,hr,hs⟩:=rb (w:=w) (g:=g) (σ:=σ) hk
 obtain ⟨g',h1,h2⟩:=mH R hnm (e:=t) hr
 refine ⟨_,_,g',?_,fun _=>er w _,h1,_,rfl,h2⟩
 simp only[Instr.alloc,Sem.run_bind,zeroValue,typeInfo,run_program,Result.andThen_ok,hi,hz,Sem.run_pure,newVar,newRow,run_newObj]
theorem eff_box (R:Rel w0 Al N σ a w g) {nm:Nat} {t:TypeId} {x:Operand} {v:V} {ls:List L} {c:Bool} (hx:evO σ x = some (c,v)) (hc:c = true) (hv:v.cells = some ls) (hnm:get σ.box nm = none) :
  Leaves w true w0 Al N { σ with box:=(nm,ls) :: σ.box } a (some (.l (.ptr nm 0))) (((do pure (Next.value (← Instr.box t (a.eval x)))):Sem Next).run P w):=by
 obtain ⟨g',h1,h2⟩:=mH R hnm (e:=t) (cs:=(a.eval x).cells) (RepV.cells (az R.slots hx hc) hv)
 refine ⟨_,_,g',?_,fun _=>er w _,h1,_,rfl,h2⟩
 simp only[Instr.box,Sem.run_bind,Result.andThen_ok,Sem.run_pure,newVar,newRow,run_newObj]
theorem uP (R:Rel w0 Al N σ a w g) {nm:Nat} {t e:TypeId} (hu:(tyOf P t).u = .sl e) {l c:Operand} {c1 c2:Bool} {k1 k2:IntKind} {n n':Int} (hl:evO σ l = some (c1,.l (.t (.int k1 n)))) (hc:evO σ c = some (c2,.l (.t (.int k2 n'))))
  {q:Prop} {ts:List T} (hts:takeLs σ (tyOf P e).cz (tyOf P e).ze = some (q,ts,[])) (hq:q) (h1:c1 = true) (h2:c2 = true) (hn:n = n') (hb:0 ≤ n ∧ n ≤ 9223372036854775807 ∧ n * (tyOf P e).by_ ≤ 281474976710656)
  (hk:(tyOf P e).known = true) (hz:(tyOf P e).cz.length = (tyOf P e).sz) (hnm:get σ.row nm = none) :
  Leaves w true w0 Al N (σ.swap (fun _=>false) [] nm ⟨.own,(tyOf P e).sz,List.replicate n.toNat ts⟩) a (some (.l (.ref nm [] (tyOf P e).sz 0 n.toNat))) (((do pure (Next.value (← Instr.makeSlice t (a.eval l) (a.eval c)))):Sem Next).run P w):=by
 subst hn
 obtain ⟨i,z,hi,hzv,hze,hsz,hby,_,hzs⟩:=bC hk
 obtain ⟨i',z',hi',hzv',hr,hs⟩:=rb (w:=w) (g:=g) (σ:=σ) hk
 rw[hi] at hi'
 cases hi'
 rw[hzv] at hzv'
 cases hzv'
 have e1:=bR (g:=g) (σ:=σ) (az R.slots hl h1)
 have e2:=bR (g:=g) (σ:=σ) (az R.slots hc h2)
 have hrun:=run_make (P:=P) w t e i z (gJ hu) hi hzv k1 k2 n n hb.1 (Int.le_refl n) (by rw[hby] at hb;rw[Int.mul_comm];exact hb.2.2) hb.2.1
 obtain ⟨tl,_,f,r1,s1,d1⟩:=bM R.mem hts hq hr
 obtain ⟨t1,t2⟩:=fQ hts
 have hcells:=iA (w:=w) (ts:=ts) (zc:=z.cells) n.toNat hs (by rw[t1,hz]) (fun j t v h1 h2=>by
  have:=r1 j t v h1 h2
  exact this.mono fun b hb=>by obtain ⟨r,row,hr,_⟩:=s1 j b hb;simp at hr)
 obtain ⟨g',h3,h4⟩:=nL R (e:=e) (rs:=[]) hcells (fun _ _ _ h=>h.elim) (fun _ _ _ _ _ h=>h.elim) hnm
 have hkill:hits [] = fun _=>false:=by funext l;unfold hits;cases l.rowOf <;> simp
 rw[hkill] at h3 h4
 rw[List.length_replicate] at h4
 refine ⟨_,_,g',?_,fun _=>er w _,h3,_,rfl,h4⟩
 rw[← hsz] at hrun
 simp only[Sem.run_bind,e1,e2,hrun,Result.andThen_ok,Sem.run_pure]
 rfl
theorem pk (R:Rel w0 Al N σ a w g) {t e:TypeId} (hu:(tyOf P t).u = .sl e) (hk:(tyOf P e).known = true) {parts:Array (Nat × Operand)} {c:Prop} (hp:partsL σ 0 parts.toList = some (c,[])) :
  Leaves w true w0 Al N σ a (some (.l .nil)) (((do pure (Next.value (← Instr.buildSlice t 0 (parts.map fun q=>(q.1,a.eval q.2))))):Sem Next).run P w):=by
 have hpe:parts = #[]:=by
  cases parts with
  | mk l =>
   cases l with
   | nil=>rfl
   | cons q r =>
    simp only[partsL] at hp
    split at hp
    ·split at hp <;> simp at hp
    ·cases hp
 subst hpe
 obtain ⟨cs,q1,q2⟩:=gQ (P:=P) (w:=w) (g:=g) (σ:=σ) (a:=a) hu hk (n:=0) (parts:=#[]) (lss:=[]) (vals:=[]) .nil (by simp) rfl (by simp) (by omega)
 refine ⟨_,_,g,?_,fun _=>er w _,uO R (.cells cs e),_,rfl,some ⟨w.heap.size,0,none⟩,rfl⟩
 simp only[Sem.run_bind,q2,Result.andThen_ok,Sem.run_pure]
theorem po (R:Rel w0 Al N σ a w g) {nm:Nat} {t e:TypeId} (hu:(tyOf P t).u = .sl e) (hk:(tyOf P e).known = true) {n:Nat} {parts:Array (Nat × Operand)} {c c':Prop} {lss:List (List L)} {es:Els} {rs:List Nat}
  (hp:partsL σ 0 parts.toList = some (c,lss)) (hc:c) (ht:takeLss σ (tyOf P e).cz lss = some (c',es,rs)) (hc':c') (hn:n = lss.length) (hz:(tyOf P e).cz.length = (tyOf P e).sz) (hb:n * (tyOf P e).sz ≤ 16777216) (hnm:get σ.row nm = none) :
  Leaves w true w0 Al N (σ.swap (hits rs) rs nm ⟨.own,(tyOf P e).sz,es⟩) a (some (.l (.ref nm [] (tyOf P e).sz 0 es.length))) (((do pure (Next.value (← Instr.buildSlice t n (parts.map fun q=>(q.1,a.eval q.2))))):Sem Next).run P w):=by
 obtain ⟨⟨vals,hr⟩,hi⟩:=gP R.slots parts.toList 0 c lss hp hc
 obtain ⟨el,f,h1,h2,h3⟩:=ld R.mem ht hc' hr
 have hl:∀ ls ∈ lss,ls.length = (tyOf P e).sz:=by
  intro ls hls
  have:∀ (lss:List (List L)) (c:Prop) (es:Els) (rs:List Nat),takeLss σ (tyOf P e).cz lss = some (c,es,rs) → ∀ ls ∈ lss,ls.length = (tyOf P e).cz.length:=by
   intro lss
   induction lss with
   | nil=>simp
   | cons x xs ih =>
    intro c es rs h ls hls
    simp only[takeLss] at h
    split at h
    ·rename_i h1 h2
     rcases List.mem_cons.1 hls with rfl | hls
     ·exact (fQ h1).2
     ·exact ih _ _ _ h2 ls hls
    ·cases h
  rw[this lss _ _ _ ht ls hls,hz]
 obtain ⟨cs,q1,q2⟩:=gQ (P:=P) hu hk hr hi hn hl hb
 rw[hz,← q1] at h1
 obtain ⟨g',h4,h5⟩:=nL R (e:=e) (rs:=rs) h1 h2 h3 hnm
 have hes:es.length = n:=by rw[el,hn]
 refine ⟨_,_,g',?_,fun _=>er w _,h4,_,rfl,h5⟩
 simp only[Sem.run_bind,q2,Result.andThen_ok,Sem.run_pure,hes]
theorem RowsFp.ro {rs:List Nat} {b:Nat} (m:Mem w g σ) (h:RowsFp g σ rs b ∨ ¬ Owned g σ b):¬ Owned g (σ.freeze rs) b:=by
 intro ho;rcases ho with ⟨k',ls,h1,h2⟩ | ⟨r,row',h1,h2,h3⟩
 ·rcases h with ⟨r,row,_,h4,h5,h6⟩ | h
  ·subst h2;exact m.br k' ls r row h1 h4 h5 h6
  ·exact h (Or.inl ⟨k',ls,h1,h2⟩)
 ·simp only[St.freeze,get_append,fP,bq] at h1;by_cases hr:r ∈ rs
  ·simp only[hr,if_true] at h1;cases hg:get σ.row r with
   | none=>simp[hg] at h1
   | some row0 =>
    simp only[hg,Option.map_some,Option.some.injEq] at h1;subst h1;exact absurd rfl h2
  ·simp only[hr,if_false] at h1;rcases h with ⟨r2,row2,h4,h5,h6,h7⟩ | h
   ·exact hr (m.rr r r2 row' row2 b h1 h5 h2 h6 h3 h7 ▸ h4)
   ·exact h (Or.inr ⟨r,row',h1,h2,h3⟩)
theorem fS (R:Rel w0 Al N σ a w g) (rs:List Nat):Rel w0 Al N (σ.freeze rs) a w g:=by
 have:=R.turn (nK R.mem rs) (σ1:=σ.freeze rs) ⟨by rw[bD];rfl,(bK _).symm⟩ rfl rfl rfl;exact this
theorem gR {rs:List Nat} {k:Nat} (h:get σ.row k = none):get (σ.freeze rs).row k = none:=by
 simp[St.freeze,get_append,fP,bq,h]
theorem pp (R:Rel w0 Al N σ a w g) {nm:Nat} {t e:TypeId} (hu:(tyOf P t).u = .sl e) (hk:(tyOf P e).known = true) {n:Nat} {parts:Array (Nat × Operand)} {c c':Prop} {lss:List (List L)} {es:Els} {rs:List Nat}
  (hp:partsL σ 0 parts.toList = some (c,lss)) (hc:c) (ht:shareLss σ (tyOf P e).cz lss = some (c',es,rs)) (hc':c') (hn:n = lss.length) (hz:(tyOf P e).cz.length = (tyOf P e).sz) (hb:n * (tyOf P e).sz ≤ 16777216) (hnm:get σ.row nm = none) :
  Leaves w true w0 Al N ((σ.freeze rs).swap (fun _=>false) [] nm ⟨.top,(tyOf P e).sz,es⟩) a (some (.l (.ref nm [] (tyOf P e).sz 0 es.length))) (((do pure (Next.value (← Instr.buildSlice t n (parts.map fun q=>(q.1,a.eval q.2))))):Sem Next).run P w):=by
 obtain ⟨⟨vals,hr⟩,hi⟩:=gP R.slots parts.toList 0 c lss hp hc
 obtain ⟨el,h1⟩:=jM R.mem ht hc' hr
 have hl:∀ ls ∈ lss,ls.length = (tyOf P e).sz:=by
  intro ls hls
  have:∀ (lss:List (List L)) (c:Prop) (es:Els) (rs:List Nat),shareLss σ (tyOf P e).cz lss = some (c,es,rs) → ∀ ls ∈ lss,ls.length = (tyOf P e).cz.length:=by
   intro lss
   induction lss with
   | nil=>simp
   | cons x xs ih =>
    intro c es rs h ls hls
    simp only[shareLss] at h
    split at h
    ·rename_i h1 h2
     rcases List.mem_cons.1 hls with rfl | hls
     ·exact (lc h1).2
     ·exact ih _ _ _ h2 ls hls
    ·cases h
  rw[this lss _ _ _ ht ls hls,hz]
 obtain ⟨cs,q1,q2⟩:=gQ (P:=P) hu hk hr hi hn hl hb
 rw[hz,← q1] at h1
 obtain ⟨g',h4,h5⟩:=tu (fS R rs) (e:=e) (h1.mono fun i j v c h=>h.mono fun b hb=>RowsFp.ro R.mem hb) (gR hnm)
 have hes:es.length = n:=by rw[el,hn]
 refine ⟨_,_,g',?_,fun _=>er w _,h4,_,rfl,h5⟩
 simp only[Sem.run_bind,q2,Result.andThen_ok,Sem.run_pure,hes]
end
section
variable {P:Program} {w0 w w':World} {Al:Blks} {N:Nat} {g:Gh} {σ:St} {a:Act}
theorem bN {t:TypeId} {s x:Operand} {dst:Option Tmp} {type:TypeId} {pos:String} {after:Array Edge} {guard:Option (Nat × Bool)} :
  (execOp a.eval { dst,op:=.call { callee:=.builtin .append,args:=#[s,x],argTypes:=#[t,t] },type,pos,after,guard }).run P w =
   ((Builtin.append_ #[t,t] type #[a.eval s,a.eval x]).run P w).andThen fun v w'=>.ok (.value v) w':=by
 simp only[execOp,resolve,invoke,builtin,Sem.run_bind,Sem.run_pure,Result.andThen_ok]
 rw[show Array.map a.eval #[s,x] = #[a.eval s,a.eval x] by simp]
theorem Flat.cells {o:Bool} {z:Nat} {els:Els} {vals:List Value} {f:Nat → Nat → Blks} (h:CellsRep w o z els vals f) (hf:Flat els) (o':Bool) (f':Nat → Nat → Blks):CellsRep w o' z els vals f':=by
 refine ⟨h.len,h.each,fun i j x c hx hc=>?_⟩;obtain ⟨v,hv,hr⟩:=h.rep i j x c hx hc;exact ⟨v,hv,hr.flat (hf x (List.mem_of_getElem? hx) c (List.mem_of_getElem? hc))⟩
theorem eu {n by_:Nat} (h:n * by_ ≤ 140737488355328) (h0:0 < by_):n ≤ 9223372036854775807:=by
 have:n * 1 ≤ n * by_:=Nat.mul_le_mul_left n h0;omega
theorem mI {z:Nat} {rs rs2:List Nat} {pm:Pm} {es:Els} {oa:Option Addr} {n cap:Nat} {olds:List Value} (m:Mem w g σ) (h:TgtOk w g σ z rs pm es oa n cap olds) (hd:∀ r ∈ rs,r ∉ rs2):TgtOk w g (σ.freeze rs2) z rs pm es oa n cap olds:=by
 (have hrow:∀ r ∈ rs,get (σ.freeze rs2).row r = get σ.row r:=fun r hr=>by simp[St.freeze,get_append,fP,bq,hd r hr]);have hfp:∀ b,RowsFp g σ rs b → RowsFp g (σ.freeze rs2) rs b:=fun b ⟨r,row,h1,h2,h3⟩=>⟨r,row,h1,by rw[hrow r h1];exact h2,h3⟩;refine ⟨h.len,h.cap_,h.holds,fun a ha hc=>hfp _ (h.blk a ha hc),fun r hr=>by rw[hrow r hr];exact h.live r hr,fun hp=>?_,fun hp=>?_⟩
 ·obtain ⟨f,h1,h2,h3,h4⟩:=h.own hp;exact ⟨f,h1,fun i j b hb=>hfp b (h2 i j b hb),h3,h4⟩
 ·exact (h.top hp).mono fun i j v c hr=>hr.mono fun b hb=>RowsFp.ro m (Or.inr hb)
theorem mJ (m:Mem w g σ) {z:Nat} {x:V} {v:Value} {c:Prop} {r2:Nat} {p2:Path} {els:Els} (h:appS σ z x = some (c,some (r2,p2),els)) (hc:c) (hv:RepV w g σ x v) :
  ∃ ob k cap news,v = .slice ob k cap ∧ SrcOk w z els ob k news ∧ CellsRep w false z els news fun _ _ b=>¬ Owned g (σ.freeze [r2]) b:=by
 unfold appS at h
 split at h
 ·simp at h
 ·rename_i r p z' off len
  split at h
  ·rename_i zz es hn
   simp only[Option.some.injEq,Prod.mk.injEq] at h
   obtain ⟨rfl,⟨rfl,rfl⟩,rfl⟩:=h
   subst hc
   obtain ⟨row',es',u,h1,h2,h3,h4,h5⟩:=hv
   have hn':nodeOf σ r p = some (z',es'):=by simp[nodeOf,h1,h2]
   rw[hn] at hn'
   simp only[Option.some.injEq,Prod.mk.injEq] at hn'
   obtain ⟨rfl,rfl⟩:=hn'
   obtain ⟨u',hu',hru⟩:=(m.lentRow h1).focus_ro h2
   rw[h3] at hu'
   cases hu'
   have hvw:=hru.view h5 h4
   obtain ⟨oa,n,cap,oa',hu,rfl,hoa⟩:=id h5
   obtain ⟨g1,g2,vals,f,g3,g4,g5,g6,g7,g8⟩:=hvw.open
   exact ⟨oa',len,cap - off,vals,rfl,⟨g1,g3.mono fun _ _ _ _ h=>h.mono fun _ _=>trivial,g8,g3.one⟩,g3.mono fun i j v c h=>h.mono fun b hb=>RowsFp.ro m (g4 i j b hb)⟩
  ·cases h
 ·cases h
theorem rc (R:Rel w0 Al N σ a w g) {nm:Nat} {o:Oper} {args:Array Operand} {argTypes:Array TypeId} (ho:o.op = .call { callee:=.builtin .append,args,argTypes }) {c:Prop} {σ':St} {rv:Option V}
  (h:eff P σ nm (.call { callee:=.builtin .append,args,argTypes }) = some (c,σ',rv)) (hc:c):Leaves w false w0 Al N σ' a rv ((execOp a.eval o).run P w):=by
 obtain ⟨dst,op,type,pos,after,guard⟩:=o
 simp only at ho
 subst ho
 simp only[eff] at h
 split at h
 ·rename_i s x t t' ha ht
  have ea:args = #[s,x]:=by cases args;simpa using ha
  have et:argTypes = #[t,t']:=by cases argTypes;simpa using ht
  subst ea;subst et
  split at h
  ·rename_i e c1 vs c2 vx hu hs hx
   split at h
   ·
    rename_i q hq
    cases h
    unfold effSame at hq
    split at hq
    ·split at hq
     ·rename_i r z1 i r' z2 j m he
      subst he
      split at hq
      ·rename_i row hrow
       split at hq
       ·rename_i hpm
        simp only[Option.some.injEq,Prod.mk.injEq] at hq
        obtain ⟨rfl,rfl,rfl⟩:=hq
        obtain ⟨rfl,h1,h2,rfl,rfl,h3,h4,h5,h6,h7,h8,h9⟩:=hc
        obtain ⟨rv,w',g',d1,d2,d3⟩:=ph (P:=P) (ty:=type) R hu h8 rfl hrow hpm h3 h4 h5 h9 h6 h7 (az R.slots hs h1) (az R.slots hx h2)
        refine ⟨_,w',g',?_,fun e=>(by cases e),d2,rv,rfl,d3⟩
        rw[bN,d1]
        rfl
       ·cases hq
      ·cases hq
     ·cases hq
    ·cases hq
   split at h
   ·rename_i c3 rs pm es c4 who els hT hS
    split at h
    ·
     simp only[Option.some.injEq,Prod.mk.injEq] at h
     obtain ⟨rfl,rfl,rfl⟩:=h
     obtain ⟨rfl,h1,h2,h3,h4,h5,h6,h7,h8,h9⟩:=hc
     obtain ⟨_,oa,n,cap,olds,q1,q2⟩:=ik R.mem hT h3 (az R.slots hs h1)
     obtain ⟨ob,k,cap2,news,q3,q4,_⟩:=oy R.mem hS h4 (az R.slots hx h2)
     obtain ⟨rv,w',g',d1,d2,d3⟩:=mE (P:=P) (ty:=type) (c:=cap2) R hu h8 rfl (rs2:=[]) (f2:=fun _ _ _=>False) q2 q4 (Flat.cells q4.cells h5 true _) (fun _ _ _ h=>h.elim) (fun _ _ _ _ _ h=>h.elim) (by simp) h9 h6 (eu h6 h7)
     refine ⟨_,w',g',?_,fun e=>(by cases e),d2,rv,rfl,d3⟩
     rw[bN,q1,q3,d1]
     rfl
    ·
     rename_i hne
     simp only[Option.some.injEq,Prod.mk.injEq] at h
     obtain ⟨rfl,rfl,rfl⟩:=h
     obtain ⟨rfl,h1,h2,h3,h4,h5,h6,h7,h8,h9,h10⟩:=hc
     obtain ⟨_,oa,n,cap,olds,q1,q2⟩:=ik R.mem hT h3 (az R.slots hs h1)
     obtain ⟨ob,k,cap2,news,q3,q4,_⟩:=oy R.mem hS h4 (az R.slots hx h2)
     obtain ⟨rv,w',g',d1,d2,d3⟩:=iZ (P:=P) (ty:=type) (c:=cap2) R hu h8 rfl h10 q2 q4 (Flat.cells q4.cells h5 false _) h9 h6 (eu h6 h7)
     refine ⟨_,w',g',?_,fun e=>(by cases e),d2,rv,rfl,d3⟩
     rw[bN,q1,q3,d1]
     rfl
    ·rename_i r2 _
     split at h
     ·rename_i row2 hrow2
      split at h
      ·
       rename_i hpm2
       split at h
       ·rename_i z' off len _
        simp only[Option.some.injEq,Prod.mk.injEq] at h
        obtain ⟨rfl,rfl,rfl⟩:=h
        obtain ⟨rfl,h1,h2,h3,h4,h5,h51,h6,h7,h8,h9⟩:=hc
        obtain ⟨_,oa,n,cap,olds,q1,q2⟩:=ik R.mem hT h3 (az R.slots hs h1)
        have hS2:=hS
        unfold appS at hS2
        simp only at hS2
        split at hS2
        ·simp only[Option.some.injEq,Prod.mk.injEq] at hS2
         obtain ⟨q5,⟨rfl,rfl⟩,-⟩:=hS2
         subst q5
         obtain ⟨rfl⟩:=(show z' = (tyOf P e).sz from h4)
         obtain ⟨rv,w',g',d1,d2,d3⟩:=pi (P:=P) (ty:=type) R hu h8 rfl q2 hrow2 hpm2 h51 (by obtain ⟨row9,es9,u9,x1,x2,x3,x4,x5⟩:=az R.slots hx h2;rw[hrow2] at x1;cases x1;simp only[Row.t,T.at?,Option.some.injEq,T.sl.injEq] at x2;rw[x2.2];exact x4) (az R.slots hx h2) h5 h9 h6 (eu h6 h7)
         refine ⟨_,w',g',?_,fun e=>(by cases e),d2,rv,rfl,d3⟩
         rw[bN,q1,d1]
         rfl
        ·cases hS2
       ·cases h
      ·
       simp only[Option.some.injEq,Prod.mk.injEq] at h
       obtain ⟨rfl,rfl,rfl⟩:=h
       obtain ⟨rfl,h1,h2,h3,h4,h5,h6,h7,h8,h9⟩:=hc
       obtain ⟨_,oa,n,cap,olds,q1,q2⟩:=ik R.mem hT h3 (az R.slots hs h1)
       obtain ⟨ob,k,cap2,news,q3,q4,q5⟩:=mJ R.mem hS h4 (az R.slots hx h2)
       obtain ⟨rv,w',g',d1,d2,d3⟩:=iZ (P:=P) (ty:=type) (c:=cap2) (fS R [r2]) hu h8 rfl (by simp) (mI R.mem q2 (fun r hr e=>h5 (by simp only[List.mem_singleton] at e;rw[← e];exact hr))) q4 q5 (gR h9) h6 (eu h6 h7)
       refine ⟨_,w',g',?_,fun e=>(by cases e),d2,rv,rfl,d3⟩
       rw[bN,q1,q3,d1]
       rfl
     ·cases h
    ·
     rename_i r2 p2 _ _
     simp only[Option.some.injEq,Prod.mk.injEq] at h
     obtain ⟨rfl,rfl,rfl⟩:=h
     obtain ⟨rfl,h1,h2,h3,h4,h5,h6,h7,h8,h9,h10⟩:=hc
     obtain ⟨_,oa,n,cap,olds,q1,q2⟩:=ik R.mem hT h3 (az R.slots hs h1)
     obtain ⟨ob,k,cap2,news,q3,q4,q5⟩:=mJ R.mem hS h4 (az R.slots hx h2)
     obtain ⟨rv,w',g',d1,d2,d3⟩:=iZ (P:=P) (ty:=type) (c:=cap2) (fS R [r2]) hu h8 rfl h10 (mI R.mem q2 (fun r hr e=>h5 (by simp only[List.mem_singleton] at e;rw[← e];exact hr))) q4 q5 (gR h9) h6 (eu h6 h7)
     refine ⟨_,w',g',?_,fun e=>(by cases e),d2,rv,rfl,d3⟩
     rw[bN,q1,q3,d1]
     rfl
    ·
     simp only[Option.some.injEq,Prod.mk.injEq] at h
     obtain ⟨rfl,rfl,rfl⟩:=h
     obtain ⟨rfl,h1,h2,h3,h4,h6,h7,h8,h9⟩:=hc
     obtain ⟨_,oa,n,cap,olds,q1,q2⟩:=ik R.mem hT h3 (az R.slots hs h1)
     obtain ⟨ob,k,cap2,news,q3,q4,_⟩:=oy R.mem hS h4 (az R.slots hx h2)
     have hels:els = []:=by
      unfold appS at hS
      split at hS
      ·simp only[Option.some.injEq,Prod.mk.injEq] at hS;exact hS.2.2.symm
      ·split at hS <;> simp at hS
      ·cases hS
     obtain ⟨rv,w',g',d1,d2,d3⟩:=mE (P:=P) (ty:=type) (c:=cap2) R hu h8 rfl (rs2:=[]) (f2:=fun _ _ _=>False) q2 q4 (Flat.cells q4.cells (by rw[hels];intro x hx;simp at hx) true _) (fun _ _ _ h=>h.elim) (fun _ _ _ _ _ h=>h.elim) (by simp) h9 h6 (eu h6 h7)
     refine ⟨_,w',g',?_,fun e=>(by cases e),d2,rv,rfl,d3⟩
     rw[bN,q1,q3,d1]
     rfl
    ·cases h
   ·cases h
  ·cases h
 ·cases h
end
section
variable {P:Program} {w0 w w':World} {Al:Blks} {N:Nat} {g:Gh} {σ:St} {a:Act}
theorem uQ {oa:Option Addr} {n cap z:Nat} {es:Els} {G:Blks} (h:Rep w true (.slice oa n cap) (.sl z es) G) {off:Nat} {els:Els} {vals:List Value}
  (hc:∀ w',CellsRep w' true z els vals fun _ _ _=>False) (hl:off + els.length ≤ es.length) (hpos:0 < els.length) :
  ∃ ad cs e,oa = some ad ∧ ad.spot = none ∧ w.heap[ad.block]? = some (.cells cs e (0,0)) ∧ ad.off + off * z + vals.length ≤ cs.size ∧ G ad.block ∧
   Rep (World.seg w ad.block (ad.off + off * z) cs vals) true (.slice oa n cap) (.sl z (es.take off ++ els ++ es.drop (off + els.length))) G:=by
 cases h with
 | nils=>simp at hl;rw[hl.2] at hpos;simp at hpos
 | bare=>simp at hl;rw[hl.2] at hpos;simp at hpos
 | @sl ad _ _ _ _ cs f hlies hF hsub hdn hdd hr =>
  obtain ⟨e,fr,hb,hfr⟩:=hlies.blk
  rw[hfr rfl] at hb
  obtain ⟨v1,v2,v3⟩:=hc (World.seg w ad.block (ad.off + off * z) cs vals)
  have hroom:=hlies.room
  have hmul:(off + els.length) * z ≤ cap * z:=Nat.mul_le_mul_right z (by have:=hlies.len;omega)
  rw[Nat.add_mul] at hmul
  have hfit:ad.off + off * z + vals.length ≤ cs.size:=by rw[v1];omega
  refine ⟨ad,cs,e,rfl,hlies.spot,hb,hfit,hF,?_⟩
  have hlen:(es.take off ++ els ++ es.drop (off + els.length)).length = es.length:=by simp;omega
  rw[← hlen]
  have hget:=fun i=>dD (ls:=es) (off:=off) (xs:=els) hl i
  have heach:∀ y ∈ es.take off ++ els ++ es.drop (off + els.length),y.length = z:=by
   intro y hy
   simp only[List.mem_append] at hy
   rcases hy with (hy | hy) | hy
   ·exact hlies.each y (List.mem_of_mem_take hy)
   ·exact v2 y hy
   ·exact hlies.each y (List.mem_of_mem_drop hy)
  refine .sl (fun i' j' b=>¬ (off ≤ i' ∧ i' < off + els.length) ∧ f i' j' b) ⟨⟨e,(0,0),jL hb,fun _=>rfl⟩,hlies.spot,by rw[hlen];exact hlies.len,by simp;omega,heach⟩ hF (fun i' j' b hb'=>hsub _ _ b hb'.2) (fun _ i' j' hb'=>hdn rfl _ _ hb'.2)
   (fun _ i1 j1 i2 j2 b h1 h2=>hdd rfl _ _ _ _ b h1.2 h2.2) (fun i' j' y c hy hcc=>?_)
  have hj'z:j' < z:=heach y (List.mem_of_getElem? hy) ▸ (List.getElem?_eq_some_iff.1 hcc).1
  rw[hget] at hy
  rw[oz hfit]
  by_cases h1:i' < off
  ·rw[if_pos h1] at hy
   have:(i' + 1) * z ≤ off * z:=Nat.mul_le_mul_right z h1
   rw[Nat.add_mul,Nat.one_mul] at this
   rw[if_pos (by omega)]
   exact ((hr i' j' y c hy hcc).frame (w':=World.seg w ad.block (ad.off + off * z) cs vals) fun b hb'=>eK fun e=>hdn rfl i' j' (e ▸ hb')).mono fun b hb'=>⟨by omega,hb'⟩
  ·rw[if_neg h1] at hy
   by_cases h2:i' < off + els.length
   ·rw[if_pos h2] at hy
    obtain ⟨v,q1,q2⟩:=v3 (i' - off) j' y c hy hcc
    have hlt:(i' - off) * z + j' < vals.length:=(List.getElem?_eq_some_iff.1 q1).1
    have e1:i' * z = off * z + (i' - off) * z:=by rw[← Nat.add_mul];congr 1;omega
    rw[if_neg (by omega),if_pos (by omega),show ad.off + i' * z + j' - (ad.off + off * z) = (i' - off) * z + j' by omega,List.getD_eq_getElem?_getD,q1]
    exact q2.mono fun b hb'=>hb'.elim
   ·rw[if_neg h2] at hy
    have:(off + els.length) * z ≤ i' * z:=Nat.mul_le_mul_right z (by omega)
    rw[Nat.add_mul] at this
    rw[if_neg (by omega),if_neg (by rw[v1];omega)]
    exact ((hr i' j' y c hy hcc).frame (w':=World.seg w ad.block (ad.off + off * z) cs vals) fun b hb'=>eK fun e=>hdn rfl i' j' (e ▸ hb')).mono fun b hb'=>⟨by omega,hb'⟩
def St.muted (σ:St) (r:Nat) (p:Path) (z:Nat) (row:Row) (es':Els):St:=σ.swap (killSt [] r p) [r] r { row with es:=(row.t.put p (.sl z es')).els }
theorem nM (R:Rel w0 Al N σ a w g) {r:Nat} {p:Path} {z:Nat} {row:Row} {es es':Els} {u:Value} {G F':Blks} (hrow:get σ.row r = some row) (hpm:row.pm = .own) (hn:row.t.at? p = some (.sl z es))
  (hGF:∀ b,G b → g.fp r b)
  (hcont:∀ (w':World) (s':T) (H:Blks),(∀ b,g.fp r b → ¬ G b → w'.heap[b]? = w.heap[b]?) → Rep w' true u s' H → (∀ b,H b → G b ∨ ¬ g.fp r b) →
    Rep w' true (g.rw r) (row.t.put p s') (fun b=>(g.fp r b ∧ ¬ G b) ∨ H b) ∧ valAt w' (g.rw r) (row.t.put p s') p = some u ∧
     ∀ (q:Path),thru p q = false → (∃ z1 e e',(T.sl z es) = .sl z1 e ∧ s' = .sl z1 e') → ∀ zq eq,row.t.at? q = some (.sl zq eq) →
      ∃ eq',(row.t.put p s').at? q = some (.sl zq eq') ∧ eq'.length = eq.length ∧ valAt w' (g.rw r) (row.t.put p s') q = valAt w (g.rw r) row.t q)
  (s1:w.heap.size ≤ w'.heap.size) (s2:∀ b,b < w.heap.size → ¬ G b → w'.heap[b]? = w.heap[b]?) (s3:w'.os = w.os) (s4:w'.tape = w.tape) (s5:w'.output = w.output)
  (hru':Rep w' true u (.sl z es') F') (hF2:∀ b,F' b → (G b ∨ w.heap.size ≤ b) ∧ b < w'.heap.size) :
  ∃ g',Rel w0 Al N (σ.muted r p z row es') a w' g':=by
 have mem:=R.mem
 obtain ⟨c1,c2,c3⟩:=hcont w' (.sl z es') F' (fun b hb hnG=>s2 b (mem.lt b (Or.inr ⟨r,row,hrow,by simp[hpm],hb⟩)) hnG) hru' (fun b hb=>(hF2 b hb).1.imp id fun h hf=>by
  have:=mem.lt b (Or.inr ⟨r,row,hrow,by simp[hpm],hf⟩)
  omega)
 have hput:=T.put_sl (n:=es') hn
 have hin:=fb (w':=w') mem (kill:=killSt [] r p) (rs:=[r]) (k:=r) (row:={ row with es:=(row.t.put p (.sl z es')).els }) (hv:=g.rw r) (F:=fun b=>(g.fp r b ∧ ¬ G b) ∨ F' b) (N:=fun _=>False) (Or.inl (by simp))
  (by simp[hpm]) (fun _=>?_) (fun h=>by simp[hpm] at h) (fun b h=>h.elim) (fun b hb=>?_) (fun b hb hp=>s2 b hb fun hg=>hp ⟨r,row,by simp,hrow,by simp[hpm],hGF b hg⟩) s1 (fun l hl r' q hq hs hm=>?_)
 ·exact ⟨_,R.turn hin ⟨rfl,rfl⟩ s3 s4 s5⟩
 ·show Rep _ true (g.rw r) (.sl row.z _) _
  rw[← hput]
  exact c1
 ·rcases hb with ⟨hb,_⟩ | hb
  ·exact ⟨Or.inl ⟨r,row,by simp,hrow,by simp[hpm],hb⟩,Nat.lt_of_lt_of_le (mem.lt b (Or.inr ⟨r,row,hrow,by simp[hpm],hb⟩)) s1⟩
  ·obtain ⟨h1,h2⟩:=hF2 b hb
   exact ⟨h1.imp (fun h=>⟨r,row,by simp,hrow,by simp[hpm],hGF b h⟩) id,h2⟩
 ·unfold killSt hits at hl
  rw[hq] at hl
  simp only[Bool.or_eq_false_iff,Bool.and_eq_false_iff] at hl
  obtain rfl:r' = r:=by simpa using hm
  have hth:thru p q = false:=by
   rcases hl.2 with h | h
   ·simp at h
   ·exact h
  intro row2 hrow2
  rw[hrow] at hrow2
  cases hrow2
  refine ⟨{ row with es:=(row.t.put p (.sl z es')).els },by simp[St.swap,get],by simp[Gh.row,bi],fun z2 es2 u2 h1 h2=>?_⟩
  obtain ⟨eq',d1,d2,d3⟩:=c3 q hth ⟨z,es,_,rfl,rfl⟩ z2 es2 h1
  refine ⟨eq',?_,d2,?_⟩
  ·show (T.sl row.z _).at? q = _
   rw[← hput]
   exact d1
  ·show valAt _ _ (T.sl row.z _) q = _
   simp only[Gh.row,bi]
   rw[← hput,d3]
   exact h2
theorem tx (R:Rel w0 Al N σ a w g) {x:Operand} {t ty e:TypeId} {c1:Bool} {r:Nat} {p:Path} {z off len:Nat} {row:Row} {es:Els} {q:Prop} {ts:List T} (hu:(tyOf P t).u = .sl e) (hx:evO σ x = some (c1,.l (.ref r p z off len))) (h1:c1 = true)
  (hrow:get σ.row r = some row) (hpm:row.pm = .own) (hn:row.t.at? p = some (.sl z es)) (hts:takeLs σ (tyOf P e).cz (tyOf P e).ze = some (q,ts,[])) (hq:q) (hz:z = (tyOf P e).sz) (hcz:(tyOf P e).cz.length = (tyOf P e).sz)
  (hk:(tyOf P e).known = true) (hlen:off + len ≤ es.length) :
  ∃ w' g',(Builtin.clear_ #[t] ty #[a.eval x]).run P w = .ok (.tuple #[]) w' ∧ Rel w0 Al N (σ.muted r p z row (es.take off ++ List.replicate len ts ++ es.drop (off + len))) a w' g':=by
 have mem:=R.mem
 obtain ⟨row1,es1,u,e1,e2,e3,e4,e5⟩:=az R.slots hx h1
 rw[hrow] at e1
 cases e1
 rw[hn] at e2
 cases e2
 obtain ⟨u',G,hu',hru,hGF,hcont⟩:=(mem.own r row hrow hpm).focus hn
 rw[e3] at hu'
 cases hu'
 have hGlt:∀ b,G b → b < w.heap.size:=fun b hb=>mem.lt b (Or.inr ⟨r,row,hrow,by simp[hpm],hGF b hb⟩)
 obtain ⟨i,z0,hi,hzv,hze,hsz,hby,_,hzs⟩:=bC hk
 obtain ⟨i',z',hi',hzv',hr,hs⟩:=rb (w:=w) (g:=g) (σ:=σ) hk
 rw[hi] at hi'
 cases hi'
 rw[hzv] at hzv'
 cases hzv'
 obtain ⟨oa,n,cap,oa',rfl,hv,hoa⟩:=e5
 by_cases h0:len = 0
 ·subst h0
  have hrun:(Builtin.clear_ #[t] ty #[a.eval x]).run P w = .ok (.tuple #[]) w:=by
   rw[hv]
   simp only[Builtin.clear_,List.getElem?_toArray,List.getElem?_cons_zero,Sem.run_bind,run_underlying (gJ hu),Result.andThen_ok]
   cases oa' <;> simp[Sem.run_pure]
  obtain ⟨g',R'⟩:=nM (w':=w) (es':=es.take off ++ List.replicate 0 ts ++ es.drop (off + 0)) R hrow hpm hn hGF hcont (Nat.le_refl _) (fun _ _ _=>rfl) rfl rfl rfl (F':=G) (by simpa using hru) (fun b hb=>⟨Or.inl hb,hGlt b hb⟩)
  exact ⟨w,g',hrun,R'⟩
 ·obtain ⟨t1,t2⟩:=fQ hts
  obtain ⟨tl,_,f,r1,s1,d1⟩:=bM mem hts hq hr
  have hcells:∀ w',CellsRep w' true z (List.replicate len ts) (madeCells z0.cells (len * z)).toList fun _ _ _=>False:=fun w' =>
   iA (w:=w') (ts:=ts) (zc:=z0.cells) len (by rw[hs,hz]) (by rw[t1,hcz,hz]) (fun j t v q1 q2=>by
    have h3:=(r1 j t v q1 q2).mono (G:=fun _=>False) fun b hb=>by obtain ⟨r,row,hr,_⟩:=s1 j b hb;simp at hr
    exact h3.frame fun b hb=>hb.elim)
  obtain ⟨ad,cs,e0,rfl,hspot,hb,hfit,hGb,hrep⟩:=uQ hru (off:=off) (els:=List.replicate len ts) hcells (by simpa using hlen) (by simp;omega)
  have hcap:=hru.cap_ge
  have hoa1:oa' = some ⟨ad.block,ad.off + off * z,none⟩:=by
   rcases hoa with hoa | hoa
   ·omega
   ·rw[hoa,Option.map_some,Addr.add_plain hspot]
  have hzc:(Builtin.zeroCells z0.cells len).toList = (madeCells z0.cells (len * z)).toList:=by
   rw[hz,← hs]
   rfl
  have hst:=run_storeCells_at P ad.block (ad.off + off * z) e0 (madeCells z0.cells (len * z)).toList 0 cs w hb (by simpa using hfit) (fun v hv=>by
   obtain ⟨k,hk'⟩:=List.getElem?_of_mem hv
   have hz1:z0.cells.size = z:=by rw[hs,hz]
   have hlt:k < len * z:=by have:=(List.getElem?_eq_some_iff.1 hk').1;simpa [madeCells] using this
   have hzpos:0 < z:=by rcases Nat.eq_zero_or_pos z with h | h;rw[h,Nat.mul_zero] at hlt;omega;exact h
   have hm:k % z < z:=Nat.mod_lt _ hzpos
   have hd:k / z < len:=by rw[Nat.div_lt_iff_lt_mul hzpos];exact hlt
   have hk2:k / z * z + k % z = k:=Nat.div_add_mod' k z
   have htl:k % z < ts.length:=by rw[t1,hcz,← hz];exact hm
   obtain ⟨v2,p1,p2⟩:=(hcells w).rep (k / z) (k % z) ts (ts[k % z]) (by simp[hd]) (List.getElem?_eq_getElem htl)
   rw[hk2,hk'] at p1
   cases p1
   exact p2.one)
  simp only[Nat.add_zero] at hst
  have hzr:∀ w:World,(zeroValue e).run P w = .ok z0 w:=fun w=>by simp[zeroValue,typeInfo,hi,hzv]
  have hrun:(Builtin.clear_ #[t] ty #[a.eval x]).run P w = .ok (.tuple #[]) (World.seg w ad.block (ad.off + off * z) cs (madeCells z0.cells (len * z)).toList):=by
   obtain ⟨m,rfl⟩:∃ m,len = m + 1:=⟨len - 1,by omega⟩
   rw[hv,hoa1]
   simp only[Builtin.clear_,List.getElem?_toArray,List.getElem?_cons_zero,Sem.run_bind,run_underlying (gJ hu),Result.andThen_ok,hzr,hzc,hst,Sem.run_pure]
   rfl
  obtain ⟨g',R'⟩:=nM (w':=World.seg w ad.block (ad.off + off * z) cs (madeCells z0.cells (len * z)).toList) (es':=es.take off ++ List.replicate len ts ++ es.drop (off + len)) R hrow hpm hn hGF hcont
   (by rw[dS];exact Nat.le_refl _) (fun b _ hb=>eK fun e=>hb (e ▸ hGb)) rfl rfl rfl (F':=G) (by simpa using hrep) (fun b hb=>⟨Or.inl hb,by rw[dS];exact hGlt b hb⟩)
  exact ⟨_,g',hrun,R'⟩
end
section
variable {P:Program} {w0 w w':World} {Al:Blks} {N:Nat} {g:Gh} {σ:St} {a:Act}
theorem tz (R:Rel w0 Al N σ a w g) {nm:Nat} {t:TypeId} {ad x:Operand} {c:Prop} {σ':St} {rv:Option V} (h:eff P σ nm (.store t ad x) = some (c,σ',rv)) (hc:c) :
  Leaves w false w0 Al N σ' a rv (((do Instr.storeAt t (a.eval ad) (a.eval x);pure .skip):Sem Next).run P w):=by
 simp only[eff] at h
 split at h
 ·rename_i c1 k j c2 v had hx
  split at h
  ·rename_i ls xs hb hv
   simp only[Option.some.injEq,Prod.mk.injEq] at h
   obtain ⟨rfl,rfl,rfl⟩:=h
   obtain ⟨h1,h2,h3,h4,h5⟩:=hc
   obtain ⟨w',d1,d2⟩:=tt (P:=P) R (t:=t) (ja h4) hb (az R.slots had h1) (RepV.cells (az R.slots hx h2) hv) h3 h5
   exact ⟨.skip,w',g,by simp only[Sem.run_bind,d1,Result.andThen_ok,Sem.run_pure],fun e=>(by cases e),d2,rfl⟩
  ·cases h
 ·rename_i c1 r p i j d c2 v had hx
  split at h
  ·rename_i row xs hrow hv
   split at h
   ·rename_i z es hn
    have hx0:c1 = true → es[i]? = some (es.getD i (tyOf P d).dz):=fun h1=>by
     obtain ⟨row',z',es',a',n,cap,e1,e2,_,e4,_⟩:=az R.slots had h1
     rw[hrow] at e1
     cases e1
     rw[hn] at e2
     cases e2
     rw[List.getD_eq_getElem?_getD,List.getElem?_eq_getElem e4]
     rfl
    split at h
    ·rename_i hpm
     split at h
     ·rename_i c3 ts rs hts
      simp only[Option.some.injEq,Prod.mk.injEq] at h
      obtain ⟨rfl,rfl,rfl⟩:=h
      obtain ⟨h1,h2,h3,h4,h5,h6,h7⟩:=hc
      obtain ⟨w',g',d1,d2⟩:=tq (P:=P) (d:=d) R (t:=t) (ja h5) hrow hpm hn (hx0 h1) (az R.slots had h1) hts h3 (RepV.cells (az R.slots hx h2) hv) h4 h6 h7
      exact ⟨.skip,w',g',by simp only[Sem.run_bind,d1,Result.andThen_ok,Sem.run_pure],fun e=>(by cases e),d2,rfl⟩
     ·cases h
    ·rename_i hpm
     split at h
     ·rename_i c3 ts rs hts
      simp only[Option.some.injEq,Prod.mk.injEq] at h
      obtain ⟨rfl,rfl,rfl⟩:=h
      obtain ⟨h1,h2,h3,h4,h5,h6,h7⟩:=hc
      simp only[T.at?,Option.some.injEq,T.sl.injEq] at hn
      obtain ⟨rfl,rfl⟩:=hn
      have hv':=RepV.cells (az R.slots hx h2) hv
      obtain ⟨tl,hrep⟩:=gN R.mem hts h3 hv'
      have R2:=fS R rs
      have hst:=fun l=>(nK R.mem rs).stays R.mem (l:=l) rfl
      have hrow2:get (σ.freeze rs).row r = some row:=by simp[St.freeze,get_append,fP,bq,h7,hrow]
      obtain ⟨w',g',d1,d2⟩:=tr (P:=P) (d:=d) R2 (t:=t) (ja h5) hrow2 hpm (hx0 h1) ((az R.slots had h1).stays fun l _=>hst l) tl (fun k t y q1 q2=>(hrep k t y q1 q2).mono fun b hb=>RowsFp.ro R.mem hb)
       (hv'.stays fun l _=>hst l) h4 h6
      exact ⟨.skip,w',g',by simp only[Sem.run_bind,d1,Result.andThen_ok,Sem.run_pure],fun e=>(by cases e),d2,rfl⟩
     ·cases h
    ·cases h
   ·cases h
  ·cases h
 ·cases h
theorem md (R:Rel w0 Al N σ a w g) {nm:Nat} {o:Oper} {c:Prop} {σ':St} {rv:Option V} (h:eff P σ nm o.op = some (c,σ',rv)) (hc:c):Leaves w (Op.grows o.op) w0 Al N σ' a rv ((execOp a.eval o).run P w):=by
 obtain ⟨dst,op,type,pos,after,guard⟩:=o;simp only at h;cases op with
 | alloc t =>
  simp only[eff,Option.some.injEq,Prod.mk.injEq] at h;obtain ⟨rfl,rfl,rfl⟩:=h;exact tw R hc.1 hc.2
 | box t x =>
  simp only[eff] at h;split at h
  ·rename_i c1 v hx
   split at h
   ·rename_i ls hv
    simp only[Option.some.injEq,Prod.mk.injEq] at h;obtain ⟨rfl,rfl,rfl⟩:=h;exact eff_box R hx hc.1 hv hc.2
   ·cases h
  ·cases h
 | buildSlice t n parts =>
  simp only[eff] at h;split at h
  ·rename_i e hu
   split at h
   ·rename_i c1 hp
    simp only[Option.some.injEq,Prod.mk.injEq] at h;obtain ⟨rfl,rfl,rfl⟩:=h;obtain ⟨rfl,hk⟩:=hc;exact pk R hu hk hp
   ·rename_i c1 lss hne hp
    split at h
    ·rename_i c2 es rs ht
     simp only[Option.some.injEq,Prod.mk.injEq] at h;obtain ⟨rfl,rfl,rfl⟩:=h;obtain ⟨h1,h2,h3,h4,_,h5,h6,h7⟩:=hc;exact po R hu h5 hp h1 ht h2 h3 h4 h6 h7
    ·split at h
     ·rename_i c2 es rs ht
      simp only[Option.some.injEq,Prod.mk.injEq] at h;obtain ⟨rfl,rfl,rfl⟩:=h;obtain ⟨h1,h2,h3,h4,_,h5,h6,h7⟩:=hc;exact pp R hu h5 hp h1 ht h2 h3 h4 h6 h7
     ·cases h
   ·cases h
  ·cases h
 | makeSlice t l c0 =>
  simp only[eff] at h;split at h
  ·rename_i e c1 k1 n c2 k2 n' hu hl hcc
   split at h
   ·rename_i q ts ht
    simp only[Option.some.injEq,Prod.mk.injEq] at h;obtain ⟨rfl,rfl,rfl⟩:=h;obtain ⟨hq,h1,h2,h3,h4,h5,h6,_,h7⟩:=hc;exact uP R hu hl hcc ht hq h1 h2 h3 h4 h5 h6 h7
   ·cases h
  ·cases h
 | store t ad x=>exact tz R h hc
 | call c0 =>
  obtain ⟨callee,args,argTypes⟩:=c0;cases callee with
  | builtin b =>
   cases b with
   | append=>exact rc R rfl h hc
   | clear =>
    simp only[eff] at h;split at h
    ·rename_i x t ha ht
     (have e1:args = #[x]:=by cases args;simpa using ha);(have e2:argTypes = #[t]:=by cases argTypes;simpa using ht);subst e1;subst e2;split at h
     ·rename_i e c1 r p z off len hu hx
      split at h
      ·rename_i row hrow
       split at h
       ·rename_i z' es q ts hn hts
        simp only[Option.some.injEq,Prod.mk.injEq] at h;obtain ⟨rfl,rfl,rfl⟩:=h;obtain ⟨h1,h2,rfl,h4,h5,h6,h7,h8⟩:=hc;obtain ⟨w',g',hr,R'⟩:=tx (P:=P) (ty:=type) R hu hx h1 hrow h2 hn hts h4 h5 h6 h7 h8;refine ⟨.value (.tuple #[]),w',g',?_,fun e=>(by cases e),R',.tuple #[],rfl,[],by simp,trivial⟩;simp only[execOp,resolve,invoke,builtin,Sem.run_bind,Sem.run_pure,Result.andThen_ok,List.map_toArray,List.map_cons,List.map_nil,hr]
       ·cases h
      ·cases h
     ·cases h
    ·cases h
   | _=>simp[eff] at h
  | _=>simp[eff] at h
 | _=>simp[eff] at h
end
theorem Rel.num {w0 w:World} {Al:Blks} {N:Nat} {σ:St} {a:Act} {g:Gh} (R:Rel w0 Al N σ a w g) (n:Nat):Rel w0 Al N { σ with nxt:=n } a w g:=by
 obtain ⟨h1,h2,h3,h4,h5,h6,h7,h8,h9,h10,h11,h12⟩:=R;refine ⟨h1.congr rfl rfl rfl,h2,h3.same rfl rfl,?_,h5,h6,h7,h8,h9,h10,h11,fun x hx=>?_⟩
 ·rw[Owned.same (g:=g) (σ':={ σ with nxt:=n }) (σ:=σ) rfl rfl];exact h4
 ·obtain ⟨q1,q2,q3⟩:=h12 x hx;exact ⟨fun t c v h hc=>(q1 t c v h hc).same rfl rfl,q2,q3⟩
def RepVs (w:World) (g:Gh) (σ:St):List V → List Value → Prop
 | [],[]=>True
 | x :: xs,v :: vs=>RepV w g σ x v ∧ RepVs w g σ xs vs
 | _,_=>False
def Ours (P:Program) (f:FuncId):Prop:=∃ fn,P.funcs[f]? = some fn ∧ fn.body.isSome = true ∧ (fn.name == "runtime.NumGoroutine") = false
def CallW (P:Program) (k:Bool) (f:FuncId) (args:List V) (K:St → V → Prop) (σ:St):Prop :=
 Ours P f ∧ ∀ w0 Al N a w g vs,Rel w0 Al N σ a w g → RepVs w g σ args vs → Calls P f vs.toArray w fun
  | .returned r,w'=>∃ σ' g' v,Rel w0 Al N σ' a w' g' ∧ RepV w' g' σ' v r ∧ K σ' v ∧ (k = true → Kept w w')
  | _,_=>False
def Sub (σ σ':St):Prop:=∀ w0 Al N a w g,Rel w0 Al N σ a w g → ∃ g',Rel w0 Al N σ' a w g'
def CallG (P:Program) (k:Bool) (f:FuncId) (vs:List V) (c:Prop) (G:Bool) (d:Option Nat) (next:St → Prop) (σ:St):Prop :=
 ∃ σ1 v1,Sub σ σ1 ∧ (G = false → next (σ1.set d false v1)) ∧ (G = true → c ∧ CallW P k f vs (fun σ' v=>next (σ'.set d true v)) σ)
def guardOf (σ:St) (ops:Array Oper):Option (Nat × Bool) → Option Bool
 | none=>some true
 | some (j,want)=>match (ops[j]?).bind (·.dst) with
  | some d=>match get σ.env d with
   | some (c,.l (.t (.bool b)))=>some (c && (b == want))
   | _=>none
  | none=>none
def Op.isPv:Op → Bool
 | .move _ | .assign _ | .pick .. | .binOp .. | .unOp .. | .convert .. | .field .. | .extract .. | .fieldAddr .. | .nilCheck _ | .indexAddr .. | .load .. | .index .. | .build .. | .makeFunc .. | .slice ..=>true
 | .call { callee:=.builtin b,.. }=>match b with
  | .len | .max | .min | .cap=>true
  | _=>false
 | _=>false
def argsV (σ:St):List Operand → Option (Prop × List V)
 | []=>some (True,[])
 | x :: xs=>match evO σ x,argsV σ xs with
  | some (c,v),some (c',vs)=>some (c = true ∧ c',v :: vs)
  | _,_=>none
def calleeOf (σ:St):Op → Option (Prop × FuncId × List V)
 | .call { callee:=.value f,args,.. }=>match evO σ f,argsV σ args.toList with
  | some (c,.l (.fn f caps)),some (c',vs)=>some (c = true ∧ c',f,vs ++ caps.map fun b=>.l (.ptr b 0))
  | _,_=>none
 | _=>none
def dstOk (N:Nat):Option Nat → Prop
 | some d=>d < N
 | none=>True
def Run (P:Program) (N:Nat) (ops:Array Oper) (K:St → Prop):List Nat → St → Prop
 | [],σ=>K σ
 | i :: rest,σ=>match ops[i]? with
  | none=>Run P N ops K rest σ
  | some o=>dstOk N o.dst ∧ match guardOf σ ops o.guard with
   | none=>False
   | some G=>match Op.isPv o.op with
    | true=>match pv P σ o.op with
     | some (c,v)=>(G = true → c) ∧ Run P N ops K rest (σ.set o.dst G v)
     | none=>False
    | false=>match calleeOf σ o.op with
     | some (c,f,vs)=>CallG P false f vs c G o.dst (fun σ'=>Run P N ops K rest σ') σ
     | none=>(G = false → Run P N ops K rest (σ.set o.dst false (.l .undef))) ∧ (G = true → match eff P σ σ.nxt o.op with
      | some (c,σ',some v)=>c ∧ Run P N ops K rest ({ σ' with nxt:=σ.nxt + 1 }.set o.dst true v)
      | some (c,σ',none)=>c ∧ Run P N ops K rest ({ σ' with nxt:=σ.nxt + 1 }.set o.dst false (.l .undef))
      | none=>False)
section
variable {P:Program} {w0 w w':World} {Al:Blks} {N:Nat} {g:Gh} {σ:St} {a:Act} {ops:Array Oper}
def Lift (w0:World) (Al:Blks) (N:Nat) (K:Exit → St → Prop):Exit → Act → World → Prop:=fun e a w=>∃ σ g,Rel w0 Al N σ a w g ∧ K e σ
theorem fe (R:Rel w0 Al N σ a w g) {o:Oper} {G:Bool} (h:guardOf σ ops o.guard = some G):Region.wanted o (yielded ops a.tmps) = G:=by
 unfold guardOf at h;unfold Region.wanted;split at h
 ·rename_i hg
  simp only[Option.some.injEq] at h;rw[hg,← h]
 ·rename_i j want hg
  rw[hg];split at h
  ·rename_i d hd
   split at h
   ·rename_i c b he
    simp only[Option.some.injEq] at h;subst h;simp only[yielded,hd,Option.bind_some];cases c with
    | true =>
     have hr:=R.slots.yes d true _ he rfl;have:=cu (g:=g) (σ:=σ) hr
     have hx:a.tmps[d]? = some (.bool b):=by
      rw[Array.getD_eq_getD_getElem?] at this;cases hq:a.tmps[d]? with
      | none=>rw[hq] at this;simp[undef] at this
      | some v=>rw[hq] at this;simpa using this
     rw[hx];simp only[Bool.true_and];cases b <;> cases want <;> rfl
    | false =>
     have hr:=R.slots.no d false _ he rfl;simp only[Bool.false_and];rw[Array.getD_eq_getD_getElem?] at hr;cases hq:a.tmps[d]? with
     | none=>cases want <;> rfl
     | some v =>
      rw[hq] at hr;simp only[Option.getD_some] at hr;subst hr;simp only[undef];cases want <;> rfl
   ·cases h
  ·cases h
theorem nN (hs:Slots w g σ a):∀ {xs:List Operand} {c:Prop} {vs:List V},argsV σ xs = some (c,vs) → c → RepVs w g σ vs (xs.map a.eval)
 | [],c,vs,h,_=>by
  simp only[argsV,Option.some.injEq,Prod.mk.injEq] at h
  obtain ⟨_,rfl⟩:=h
  trivial
 | x :: xs,c,vs,h,hc=>by
  simp only[argsV] at h
  split at h
  ·rename_i c1 v c2 vs' hx hxs
   simp only[Option.some.injEq,Prod.mk.injEq] at h
   obtain ⟨rfl,rfl⟩:=h
   exact ⟨az hs hx hc.1,nN hs hxs hc.2⟩
  ·cases h
theorem RepVs.append:∀ {xs ys:List V} {vs us:List Value},RepVs w g σ xs vs → RepVs w g σ ys us → RepVs w g σ (xs ++ ys) (vs ++ us)
 | [],_,[],_,_,h=>h
 | _ :: _,_,_ :: _,_,h,h'=>⟨h.1,h.2.append h'⟩
 | [],_,_ :: _,_,h,_=>h.elim
 | _ :: _,_,[],_,h,_=>h.elim
theorem RepVs.length:∀ {xs:List V} {vs:List Value},RepVs w g σ xs vs → xs.length = vs.length
 | [],[],_=>rfl
 | _ :: _,_ :: _,h=>by simp[h.2.length]
 | [],_ :: _,h=>h.elim
 | _ :: _,[],h=>h.elim
theorem RepVs.nth:∀ {xs:List V} {vs:List Value},RepVs w g σ xs vs → ∀ {j:Nat} {x:V},xs[j]? = some x → ∃ v,vs[j]? = some v ∧ RepV w g σ x v
 | _ :: _,v :: _,h,0,x,hx=>by simp at hx;subst hx;exact ⟨v,rfl,h.1⟩
 | _ :: _,_ :: _,h,j + 1,x,hx=>h.2.nth (j:=j) (by simpa using hx)
 | [],[],_,_,_,hx=>by simp at hx
 | [],_ :: _,h,_,_,_=>h.elim
 | _ :: _,[],h,_,_,_=>h.elim
theorem RepVs.stays {w':World} {g':Gh} {σ':St}:∀ {xs:List V} {vs:List Value},RepVs w g σ xs vs → (∀ x ∈ xs,∀ l ∈ x.leaves,StaysL w w' g g' σ σ' l) → RepVs w' g' σ' xs vs
 | [],[],_,_=>trivial
 | _ :: _,_ :: _,h,hs=>⟨h.1.stays (hs _ (by simp)),h.2.stays fun x hx=>hs x (by simp[hx])⟩
 | [],_ :: _,h,_=>h.elim
 | _ :: _,[],h,_=>h.elim
theorem uR (caps:List Nat) (h:∀ b ∈ caps,(get σ.box b).isSome):RepVs w g σ (caps.map fun b=>.l (.ptr b 0)) (caps.map fun b=>Value.pointer (some ⟨g.bx b,0,none⟩)):=by
 induction caps with
 | nil=>trivial
 | cons b r ih=>exact ⟨⟨h b (by simp),rfl⟩,ih fun b hb=>h b (by simp[hb])⟩
theorem mK (R:Rel w0 Al N σ a w g) {o:Oper} {c:Prop} {f:FuncId} {vs:List V} (h:calleeOf σ o.op = some (c,f,vs)) (hc:c) (ho:Ours P f) :
  ∃ us:List Value,RepVs w g σ vs us ∧ (execOp a.eval o).run P w = .ok (.enter f us.toArray) w:=by
 obtain ⟨dst,op,type,pos,after,guard⟩:=o
 cases op with
 | call c0 =>
  obtain ⟨callee,args,ats⟩:=c0
  cases callee with
  | value fo =>
   simp only[calleeOf] at h
   split at h
   ·rename_i c1 f' caps c2 vs' hf hx
    simp only[Option.some.injEq,Prod.mk.injEq] at h
    obtain ⟨rfl,rfl,rfl⟩:=h
    obtain ⟨hfr,hfv⟩:=az R.slots hf hc.1
    have hr:=nN R.slots hx hc.2
    refine ⟨args.toList.map a.eval ++ caps.map fun b=>Value.pointer (some ⟨g.bx b,0,none⟩),hr.append (uR caps hfr),?_⟩
    obtain ⟨fn,h1,h2,h3⟩:=ho
    have h2':fn.body.isNone = false:=by cases hb:fn.body <;> simp_all
    simp only[execOp,resolve,hfv,Deferred.ofValue,Sem.run_bind,Sem.run_pure,Result.andThen_ok,invoke,callFunc,run_program,h1,h3,h2',Bool.false_eq_true,if_false]
    congr 2
    apply Array.ext'
    simp
   ·cases h
  | _=>simp[calleeOf] at h
 | _=>simp[calleeOf] at h
end
end Go.Tw
