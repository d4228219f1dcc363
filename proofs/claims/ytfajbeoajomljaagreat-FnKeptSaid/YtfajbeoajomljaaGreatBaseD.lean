/- The layer: trees, states, rules; plain functions. -/
import Derived.Test.YtfajbeoajomljaaGreatBaseC
set_option linter.unusedSimpArgs false
set_option linter.unusedVariables false
set_option linter.unnecessarySimpa false
namespace Go.Tw
inductive Sch where
 | nil
 | op (i:Nat) (r:Sch)
 | fork (i:Nat) (a:Sch) (j:Nat) (b:Sch)
 | fork3 (i:Nat) (a:Sch) (j:Nat) (b:Sch) (k:Nat) (c:Sch)
 | fork4 (i:Nat) (a:Sch) (j:Nat) (b:Sch) (k:Nat) (c:Sch) (m:Nat) (d:Sch)
 | sub (r:Sch)
def Sch.len:Sch → Nat
 | .nil=>0
 | .op _ r=>r.len + 1
 | .fork _ a _ _=>a.len + 1
 | .fork3 _ a _ _ _ _=>a.len + 1
 | .fork4 _ a _ _ _ _ _ _=>a.len + 1
 | .sub r=>r.len
def checkS (kc:Bool) (ops:Array Oper):Sch → Array Bool → Bool
 | .nil,listed=>(Region.ready .any ops listed).isEmpty
 | .op i r,listed=>(Region.ready .any ops listed).contains i && (freeK kc ops listed i || Region.ready .any ops listed == [i]) && checkS kc ops r (listed.setIfInBounds i true)
 | .fork i a j b,listed=>Region.ready .any ops listed == [i,j] && a.len == b.len && checkS kc ops a (listed.setIfInBounds i true) && checkS kc ops b (listed.setIfInBounds j true)
 | .fork3 i a j b k c,listed=>Region.ready .any ops listed == [i,j,k] && a.len == b.len && a.len == c.len && checkS kc ops a (listed.setIfInBounds i true) && checkS kc ops b (listed.setIfInBounds j true) && checkS kc ops c (listed.setIfInBounds k true)
 | .fork4 i a j b k c m d,listed=>Region.ready .any ops listed == [i,j,k,m] && a.len == b.len && a.len == c.len && a.len == d.len && checkS kc ops a (listed.setIfInBounds i true) && checkS kc ops b (listed.setIfInBounds j true) && checkS kc ops c (listed.setIfInBounds k true) && checkS kc ops d (listed.setIfInBounds m true)
 | .sub r,listed=>checkS kc ops r listed
inductive SchO where
 | nil
 | op (o:Oper) (r:SchO)
 | fork (o:Oper) (a:SchO) (p:Oper) (b:SchO)
 | fork3 (o:Oper) (a:SchO) (p:Oper) (b:SchO) (q:Oper) (c:SchO)
 | fork4 (o:Oper) (a:SchO) (p:Oper) (b:SchO) (q:Oper) (c:SchO) (r:Oper) (d:SchO)
 | sub (r:SchO)
def Sch.ops (l:List Oper):Sch → Option SchO
 | .nil=>some .nil
 | .op i r=>match l[i]?,r.ops l with
  | some o,some r'=>some (.op o r')
  | _,_=>none
 | .fork i a j b=>match l[i]?,a.ops l,l[j]?,b.ops l with
  | some o,some a',some p,some b'=>some (.fork o a' p b')
  | _,_,_,_=>none
 | .fork3 i a j b k c=>match l[i]?,a.ops l,l[j]?,b.ops l,l[k]?,c.ops l with
  | some o,some a',some p,some b',some q,some c'=>some (.fork3 o a' p b' q c')
  | _,_,_,_,_,_=>none
 | .fork4 i a j b k c m d=>match l[i]?,a.ops l,l[j]?,b.ops l,l[k]?,c.ops l,l[m]?,d.ops l with
  | some o,some a',some p,some b',some q,some c',some r,some d'=>some (.fork4 o a' p b' q c' r d')
  | _,_,_,_,_,_,_,_=>none
 | .sub r=>match r.ops l with
  | some r'=>some (.sub r')
  | none=>none
def RunS (P:Program) (N:Nat) (k:Bool) (ops:List Oper) (K:St → Prop):SchO → St → Prop
 | .nil,σ=>K σ
 | .op o r,σ=>Step P N k ops o σ (RunS P N k ops K r)
 | .fork o a p b,σ=>Step P N k ops o σ (RunS P N k ops K a) ∧ Step P N k ops p σ (RunS P N k ops K b)
 | .fork3 o a p b q c,σ=>Step P N k ops o σ (RunS P N k ops K a) ∧ Step P N k ops p σ (RunS P N k ops K b) ∧ Step P N k ops q σ (RunS P N k ops K c)
 | .fork4 o a p b q c r d,σ=>Step P N k ops o σ (RunS P N k ops K a) ∧ Step P N k ops p σ (RunS P N k ops K b) ∧ Step P N k ops q σ (RunS P N k ops K c) ∧ Step P N k ops r σ (RunS P N k ops K d)
 | .sub r,σ=>∃ σ',Sub σ σ' ∧ RunS P N k ops K r σ'
section
variable {kc:Bool} {P:Program} {w0 w w':World} {Al:Blks} {N:Nat} {g:Gh} {σ:St} {a:Act} {ops:Array Oper} {Q:Exit → Act → World → Prop}
theorem bo {l:List Oper} {K:St → Prop} (hsel:Region.noSelect l.toArray = true) (hQ:∀ c a w,¬ Q (.panic c) a w) (hK:∀ σ' a' w' g',Rel w0 Al N σ' a' w' g' → K σ' → Q .normal a' w') :
  ∀ (s:Sch) (os:SchO) (listed:Array Bool) (σ:St) (a:Act) (w:World) (g:Gh),checkS kc l.toArray s listed = true → s.ops l = some os → RunS P N kc l K os σ → Rel w0 Al N σ a w g →
   wpAnyK kc P l.toArray Q s.len listed a w
 | .nil,os,listed,σ,a,w,g,hc,ho,h,R=>by
  simp only[Sch.ops,Option.some.injEq] at ho
  subst ho
  simp only[checkS,List.isEmpty_iff] at hc
  exact ⟨hc,hK σ a w g R h⟩
 | .op i rest,os,listed,σ,a,w,g,hc,ho,h,R=>by
  simp only[Sch.ops] at ho
  split at ho
  ·rename_i o r' ho1 hos
   simp only[Option.some.injEq] at ho
   subst ho
   have ho:l.toArray[i]? = some o:=by simpa using ho1
   simp only[checkS,Bool.and_eq_true,Bool.or_eq_true] at hc
   obtain ⟨⟨hrd,hone⟩,hrest⟩:=hc
   have hrd:i ∈ Region.ready .any l.toArray listed:=by simpa using hrd
   simp only[RunS] at h
   rcases hone with hfr | hone
   ·obtain ⟨hpv,hfree⟩:=mM ho hfr
    obtain ⟨hd,h⟩:=h
    have hd':∀ t,o.dst = some t → t < N:=by
     intro t ht
     rw[ht] at hd
     exact hd
    split at h
    ·exact h.elim
    ·rename_i G hG
     have hw:=fe R hG
     simp only[hpv] at h
     split at h
     ·rename_i c v hp
      obtain ⟨hc,h⟩:=h
      cases G with
      | true =>
       obtain ⟨r,hr,hv⟩:∃ r,(∀ w1,(stillOp o.op = true ∨ Kept w w1) → (execOp a.eval o).run P w1 = .ok (.value r) w1) ∧ RepV w g σ v r:=by
        cases hst:stillOp o.op with
        | true =>
         obtain ⟨r,hr,hv⟩:=pe R.mem R.slots hp (hc rfl) hst
         exact ⟨r,fun w1 _=>hr w1,hv⟩
        | false =>
         obtain ⟨r,hr,hv⟩:=ov R.mem R.slots hp (hc rfl)
         exact ⟨r,fun w1 h=>hr w1 (h.resolve_left (by simp)),hv⟩
       refine eg ho (Region.noSelect_spec hsel) (fun c a w h=>(hQ c _ w h).elim) rest.len listed a w hfree hrd (v:=r) (Or.inl ⟨hw,hr⟩) ?_
       exact bo hsel hQ hK rest r' _ _ _ w g hrest hos h (R.put hd' (fun _=>hv) (fun e=>by cases e))
      | false =>
       refine eg ho (Region.noSelect_spec hsel) (fun c a w h=>(hQ c _ w h).elim) rest.len listed a w hfree hrd (v:=undef) (Or.inr ⟨hw,rfl⟩) ?_
       exact bo hsel hQ hK rest r' _ _ _ w g hrest hos h (R.put hd' (fun e=>by cases e) (fun _=>rfl))
     ·exact h.elim
   ·have hone:Region.ready .any l.toArray listed = [i]:=by simpa using hone
    refine ⟨fun h=>(by rw[h] at hone;cases hone),fun j hj=>?_⟩
    rw[hone] at hj
    obtain rfl:j = i:=by simpa using hj
    exact bX (fun h=>h) ho R h fun σ' a' w' g' R' hn hk=>⟨fun hg=>hk hg,bo hsel hQ hK rest r' _ _ _ w' g' hrest hos hn R'⟩
  ·cases ho
 | .fork i sa j sb,os,listed,σ,a,w,g,hc,ho,h,R=>by
  simp only[Sch.ops] at ho
  split at ho
  ·rename_i o a' p b' ho1 ha hp1 hb
   simp only[Option.some.injEq] at ho
   subst ho
   have ho:l.toArray[i]? = some o:=by simpa using ho1
   have hp:l.toArray[j]? = some p:=by simpa using hp1
   simp only[checkS,Bool.and_eq_true,beq_iff_eq] at hc
   obtain ⟨⟨⟨hrd,hlen⟩,hca⟩,hcb⟩:=hc
   obtain ⟨h1,h2⟩:=h
   refine ⟨fun h=>(by rw[h] at hrd;cases hrd),fun q hq=>?_⟩
   rw[hrd] at hq
   simp only[List.mem_cons,List.not_mem_nil,or_false] at hq
   rcases hq with rfl | rfl
   ·exact bX (fun h=>h) ho R h1 fun σ' a1 w' g' R' hn hk=>⟨fun hg=>hk hg,bo hsel hQ hK sa a' _ _ _ w' g' hca ha hn R'⟩
   ·refine bX (fun h=>h) hp R h2 fun σ' a1 w' g' R' hn hk=>⟨fun hg=>hk hg,?_⟩
    have:=bo hsel hQ hK sb b' _ _ _ w' g' hcb hb hn R'
    rw[← hlen] at this
    exact this
  ·cases ho
 | .fork3 i sa j sb k sc,os,listed,σ,a,w,g,hc,ho,h,R=>by
  simp only[Sch.ops] at ho
  split at ho
  ·rename_i o a' p b' q c' ho1 ha hp1 hb hq1 hc1
   simp only[Option.some.injEq] at ho
   subst ho
   have ho:l.toArray[i]? = some o:=by simpa using ho1
   have hp:l.toArray[j]? = some p:=by simpa using hp1
   have hq':l.toArray[k]? = some q:=by simpa using hq1
   simp only[checkS,Bool.and_eq_true,beq_iff_eq] at hc
   obtain ⟨⟨⟨⟨⟨hrd,hlen⟩,hlen2⟩,hca⟩,hcb⟩,hcc⟩:=hc
   obtain ⟨h1,h2,h3⟩:=h
   refine ⟨fun h=>(by rw[h] at hrd;cases hrd),fun q hq=>?_⟩
   rw[hrd] at hq
   simp only[List.mem_cons,List.not_mem_nil,or_false] at hq
   rcases hq with rfl | rfl | rfl
   ·exact bX (fun h=>h) ho R h1 fun σ' a1 w' g' R' hn hk=>⟨fun hg=>hk hg,bo hsel hQ hK sa a' _ _ _ w' g' hca ha hn R'⟩
   ·refine bX (fun h=>h) hp R h2 fun σ' a1 w' g' R' hn hk=>⟨fun hg=>hk hg,?_⟩
    have:=bo hsel hQ hK sb b' _ _ _ w' g' hcb hb hn R'
    rw[← hlen] at this
    exact this
   ·refine bX (fun h=>h) hq' R h3 fun σ' a1 w' g' R' hn hk=>⟨fun hg=>hk hg,?_⟩
    have:=bo hsel hQ hK sc c' _ _ _ w' g' hcc hc1 hn R'
    rw[← hlen2] at this
    exact this
  ·cases ho
 | .fork4 i sa j sb k sc m sd,os,listed,σ,a,w,g,hc,ho,h,R=>by
  simp only[Sch.ops] at ho
  split at ho
  ·rename_i o a' p b' q c' r d' ho1 ha hp1 hb hq1 hc1 hr1 hd1
   simp only[Option.some.injEq] at ho
   subst ho
   have ho:l.toArray[i]? = some o:=by simpa using ho1
   have hp:l.toArray[j]? = some p:=by simpa using hp1
   have hq':l.toArray[k]? = some q:=by simpa using hq1
   have hr':l.toArray[m]? = some r:=by simpa using hr1
   simp only[checkS,Bool.and_eq_true,beq_iff_eq] at hc
   obtain ⟨⟨⟨⟨⟨⟨⟨hrd,hlen⟩,hlen2⟩,hlen3⟩,hca⟩,hcb⟩,hcc⟩,hcd⟩:=hc
   obtain ⟨h1,h2,h3,h4⟩:=h
   refine ⟨fun h=>(by rw[h] at hrd;cases hrd),fun q hq=>?_⟩
   rw[hrd] at hq
   simp only[List.mem_cons,List.not_mem_nil,or_false] at hq
   rcases hq with rfl | rfl | rfl | rfl
   ·exact bX (fun h=>h) ho R h1 fun σ' a1 w' g' R' hn hk=>⟨fun hg=>hk hg,bo hsel hQ hK sa a' _ _ _ w' g' hca ha hn R'⟩
   ·refine bX (fun h=>h) hp R h2 fun σ' a1 w' g' R' hn hk=>⟨fun hg=>hk hg,?_⟩
    have:=bo hsel hQ hK sb b' _ _ _ w' g' hcb hb hn R'
    rw[← hlen] at this
    exact this
   ·refine bX (fun h=>h) hq' R h3 fun σ' a1 w' g' R' hn hk=>⟨fun hg=>hk hg,?_⟩
    have:=bo hsel hQ hK sc c' _ _ _ w' g' hcc hc1 hn R'
    rw[← hlen2] at this
    exact this
   ·refine bX (fun h=>h) hr' R h4 fun σ' a1 w' g' R' hn hk=>⟨fun hg=>hk hg,?_⟩
    have:=bo hsel hQ hK sd d' _ _ _ w' g' hcd hd1 hn R'
    rw[← hlen3] at this
    exact this
  ·cases ho
 | .sub rest,os,listed,σ,a,w,g,hc,ho,h,R=>by
  simp only[Sch.ops] at ho
  split at ho
  ·rename_i r' hos
   simp only[Option.some.injEq] at ho
   subst ho
   obtain ⟨σ',hs,h⟩:=h
   obtain ⟨g',R'⟩:=hs _ _ _ _ _ _ R
   exact bo hsel hQ hK rest r' listed σ' a w g' hc hos h R'
  ·cases ho
theorem aD (kc:Bool) {id:Nat} {l:List Oper} {K:Exit → St → Prop} (s:Sch) (hm:P.follows .mixedOrders = true)
  (hc:(s.len == l.length && Region.noSelect l.toArray && checkS kc l.toArray s (Array.replicate l.length false)) = true) {os:SchO} (ho:s.ops l = some os) (h:RunS P N kc l (K .normal) os σ):W P N (.region id l.toArray true) K σ:=by
 simp only[Bool.and_eq_true,beq_iff_eq] at hc
 obtain ⟨⟨hl,hsel⟩,hc⟩:=hc
 intro w0 Al a w g R
 let Q:Exit → Act → World → Prop:=fun e a w=>e = .normal ∧ Lift w0 Al N K .normal a w
 have key:(Code.region id l.toArray true).wp P Q a w:=by
  refine wp_region_any hm (jb (kc:=kc) _ _ _ _ ?_)
  have hQ1:∀ c a w,¬ Q (.panic c) a w:=by
   intro c a w h
   have:=h.1
   cases this
  have hQ2:∀ σ' a' w' g',Rel w0 Al N σ' a' w' g' → K .normal σ' → Q .normal a' w':=by
   intro σ' a' w' g' R' hK
   exact ⟨rfl,σ',g',R',hK⟩
  have:=bo (kc:=kc) (P:=P) (N:=N) (Q:=Q) (K:=K .normal) hsel hQ1 hQ2 s os (Array.replicate l.length false) σ a { w with drawn:=w.drawn + 1 } g hc ho h R.drew
  rw[hl] at this
  simpa using this
 refine wp_mono key fun e a' w' hq=>?_
 obtain ⟨rfl,hq⟩:=hq
 exact hq
end
attribute [go_sem] RunS
theorem Sub.swp_box (a b:Nat) {σ σ':St} (h:σ.ren (fun n=>n) (swp a b) = σ'):Sub σ σ':=by
 subst h;exact Sub.ren (fun _=>rfl) (sL a b)
theorem Sub.nilBox {σ:St} {k j nm z:Nat} {ls:List L} (hb:get σ.box k = some ls) (hj:ls[j]? = some .nil) (hnm:get σ.row nm = none) :
  Sub σ { σ with box:=(k,ls.set j (.ref nm [] z 0 0)) :: del [k] σ.box,row:=(nm,⟨.own,z,[]⟩) :: σ.row }:=by
 intro w0 Al N a w g R
 obtain ⟨cs0,e0,hc0,hr0⟩:=R.mem.box k ls hb
 obtain ⟨v0,hv0,oa,rfl⟩:=hr0.nth hj
 have hrep:Rep w true (.slice oa 0 0) (.sl z []) fun _=>False:=by
  cases oa with
  | none=>exact .nils
  | some ad=>exact .bare
 let g':Gh:=⟨g.bx,fun k=>if k = nm then .slice oa 0 0 else g.rw k,fun k=>if k = nm then fun _=>False else g.fp k⟩
 let σ1:St:={ σ with row:=(nm,⟨.own,z,[]⟩) :: σ.row }
 have hin:NewIn w w g g' σ σ1 [] [] [(nm,⟨.own,z,[]⟩)] [] (fun _=>false):=by
  have hk:∀ k row,get [(nm,(⟨.own,z,[]⟩:Row))] k = some row → k = nm ∧ row = ⟨.own,z,[]⟩:=by
   intro k row h
   simp only[get] at h
   split at h
   ·rename_i e
    simp only[Option.some.injEq] at h
    exact ⟨e,h.symm⟩
   ·cases h
  refine ⟨by simp[σ1,bw],by simp[σ1,bw,cD],fun _ _ _=>rfl,Nat.le_refl _,fun r _ hr=>?_,fun _ _ _=>rfl,fun k row h=>?_,fun k ls h=>by simp[get] at h,?_,?_,?_,?_,fun k ls h=>by simp[get] at h,?_,fun k ls r row h=>by simp[get] at h,fun k k' ls ls' h=>by simp[get] at h,fun k ls h=>by simp[get] at h,fun _ _ r p _ _ h=>by simp at h,fun _ _ b _ _ h=>by simp at h⟩
  ·have:r ≠ nm:=fun e=>by subst e;rw[hnm] at hr;cases hr
   simp[g',this]
  ·obtain ⟨rfl,_⟩:=hk k row h;exact Or.inr hnm
  ·intro k row h _;obtain ⟨rfl,rfl⟩:=hk k row h;simp only[g',if_true];exact hrep
  ·intro k row h hp;obtain ⟨_,rfl⟩:=hk k row h;cases hp
  ·intro k row h hp;obtain ⟨_,rfl⟩:=hk k row h;cases hp
  ·intro k row b h _ hb;obtain ⟨rfl,_⟩:=hk k row h;simp[g'] at hb
  ·intro r r' row row' b h h' _ _ hb;obtain ⟨rfl,_⟩:=hk r row h;simp[g'] at hb
 have R1:=R.turn hin (σ1:=σ1) ⟨by rw[bD],(bK _).symm⟩ rfl rfl rfl
 let σ2:St:={ σ1 with box:=(k,ls.set j (.ref nm [] z 0 0)) :: del [k] σ.box }
 have hb1:get σ1.box k = some ls:=hb
 obtain ⟨cs,e,hc,hr⟩:=R1.mem.box k ls hb1
 have hcs:cs = cs0:=by
  have h:g'.bx k = g.bx k:=rfl
  rw[h,hc0] at hc
  simp only[Option.some.injEq,Obj.cells.injEq] at hc
  exact hc.1.symm
 subst hcs
 have hst:∀ l:L,StaysL w w g' g' σ1 σ2 l:=fun l=>⟨fun r p _ row h=>⟨row,h,rfl,fun z es u h1 h2=>⟨es,h1,rfl,h2⟩⟩,fun b _ h=>⟨by
  simp only[σ2,get]
  split
  ·rfl
  ·rename_i hne
   rw[bq,if_neg (by simpa using fun e:b = k=>hne (by first | exact e | exact e.symm))]
   exact h,rfl⟩⟩
 have hk2:∀ k' (ls':List L),get [(k,ls.set j (.ref nm [] z 0 0))] k' = some ls' → k' = k ∧ ls' = ls.set j (.ref nm [] z 0 0):=by
  intro k' ls' h
  simp only[get] at h
  split at h
  ·rename_i e
   simp only[Option.some.injEq] at h
   exact ⟨e,h.symm⟩
  ·cases h
 have hin2:NewIn w w g' g' σ1 σ2 [] [k] [] [(k,ls.set j (.ref nm [] z 0 0))] (fun _=>false):=by
  refine ⟨by simp[σ2,bw],by simp[σ2,σ1,cD],fun _ _ _=>rfl,Nat.le_refl _,fun _ _ _=>⟨rfl,rfl⟩,fun _ _ _=>rfl,fun k row h=>by simp[get] at h,fun k' ls' h=>?_,fun k row h=>by simp[get] at h,fun k row h=>by simp[get] at h,fun k row h=>by simp[get] at h,fun k row b h=>by simp[get] at h,fun k' ls' h=>?_,fun r r' row row' b h=>by simp[get] at h,fun k ls r row _ h=>by simp[get] at h,fun k1 k2 l1 l2 h1 h2 _=>?_,fun k' ls' h=>?_,fun _ _ r p _ _ h=>by simp at h,fun _ _ b _ _ h=>?_⟩
  ·obtain ⟨rfl,_⟩:=hk2 _ _ h;exact Or.inl (by simp)
  ·obtain ⟨rfl,_⟩:=hk2 _ _ h
   exact ⟨Or.inl (Or.inr ⟨_,ls,by simp,hb1,rfl⟩),R1.mem.lt _ (Or.inl ⟨_,ls,hb1,rfl⟩)⟩
  ·rw[(hk2 _ _ h1).1,(hk2 _ _ h2).1]
  ·obtain ⟨rfl,rfl⟩:=hk2 _ _ h
   refine ⟨cs,e,hc,.of_nth (by simp[hr.length]) fun i l v hl hv=>?_⟩
   rw[List.getElem?_set] at hl
   split at hl
   ·rename_i hij
    subst hij
    split at hl
    ·simp only[Option.some.injEq] at hl
     subst hl
     rw[hv0] at hv
     simp only[Option.some.injEq] at hv
     subst hv
     exact ⟨⟨.own,z,[]⟩,[],.slice oa 0 0,by simp[σ2,σ1,get],rfl,by simp[valAt,g'],by simp,View.whole _ _ _ _ _⟩
    ·cases hl
   ·obtain ⟨v',hv',hrl⟩:=hr.nth hl
    rw[hv'] at hv
    simp only[Option.some.injEq] at hv
    subst hv
    exact hrl.stays (hst l)
  ·simp only[List.mem_singleton] at h
   subst h
   exact ⟨by simp[get],rfl⟩
 exact ⟨g',R1.turn hin2 (σ1:=σ2) ⟨by rw[bD],(bK _).symm⟩ rfl rfl rfl⟩
section
variable {w:World} {g:Gh} {σ σ':St}
theorem kW (hr:∀ k,get σ'.row k = get σ.row k) (hb:∀ k,get σ'.box k = get σ.box k) (l:L):StaysL w w g g σ σ' l :=
 ⟨fun r p _ row h=>⟨row,(hr r).trans h,rfl,fun z es u h1 h2=>⟨es,h1,rfl,h2⟩⟩,fun b _ h=>⟨by rw[hb];exact h,rfl⟩⟩
theorem nQ (hr:∀ k,get σ'.row k = get σ.row k) (hb:∀ k,get σ'.box k = get σ.box k):Owned g σ' = Owned g σ:=by
 funext b;simp only[Owned,hr,hb]
theorem mem_get (hr:∀ k,get σ'.row k = get σ.row k) (hb:∀ k,get σ'.box k = get σ.box k) (m:Mem w g σ):Mem w g σ':=by
 have ho:=nQ (g:=g) hr hb
 refine ⟨fun k ls h=>?_,fun r row h hp=>m.own r row (hr r ▸ h) hp,fun r row h hp=>?_,fun r row h hp=>?_,fun k k' ls ls' h h' e=>m.bb k k' ls ls' (hb k ▸ h) (hb k' ▸ h') e,fun k ls r row h h' hp=>m.br k ls r row (hb k ▸ h) (hr r ▸ h') hp,fun r r' row row' b h h' hp hp'=>m.rr r r' row row' b (hr r ▸ h) (hr r' ▸ h') hp hp',fun b h=>m.lt b (ho ▸ h)⟩
 ·obtain ⟨cs,e,h1,h2⟩:=m.box k ls (hb k ▸ h);exact ⟨cs,e,h1,h2.stays fun l _=>kW hr hb l⟩
 ·rw[ho];exact m.top r row (hr r ▸ h) hp
 ·rw[ho];exact m.ro r row (hr r ▸ h) hp
theorem Sub.same_get (he:σ'.env = σ.env) (hs:σ'.sav = σ.sav) (hr:∀ k,get σ'.row k = get σ.row k) (hb:∀ k,get σ'.box k = get σ.box k):Sub σ σ':=fun w0 Al N a w g R=>by
 obtain ⟨h1,h2,h3,h4,h5,h6,h7,h8,h9,h10,h11,h12⟩:=R
 refine ⟨g,⟨fun t c v hg hc=>?_,fun t c v hg hc=>h1.no t c v (he ▸ hg) hc⟩,he ▸ h2,mem_get hr hb h3,by rw[nQ hr hb];exact h4,h5,h6,h7,h8,h9,h10,h11,fun x hx=>?_⟩
 ·exact (h1.yes t c v (he ▸ hg) hc).stays fun l _=>kW hr hb l
 ·obtain ⟨q1,q2,q3⟩:=h12 x (hs ▸ hx)
  exact ⟨fun t c v h hc=>(q1 t c v h hc).stays fun l _=>kW hr hb l,q2,q3⟩
end
def picks {α:Type} (xs:List (Nat × α)) (ks:List Nat):List (Nat × α):=ks.filterMap fun k=>(get xs k).map fun x=>(k,x)
theorem kX {α:Type} (xs:List (Nat × α)):∀ (ks:List Nat) (n:Nat),get (picks xs ks) n = if n ∈ ks then get xs n else none
 | [],n=>by simp[picks,get]
 | k :: ks,n=>by
  have ih:=kX xs ks n
  unfold picks at *
  simp only[List.filterMap_cons]
  cases h:get xs k with
  | none =>
   simp only[Option.map_none]
   rw[ih]
   by_cases e:n = k
   ·subst e;simp[h]
   ·simp[e]
  | some x =>
   simp only[Option.map_some,get]
   by_cases e:n = k
   ·subst e;simp[h]
   ·simp only[e,if_false];rw[ih];simp[e]
def St.sorted (σ:St) (rs bs:List Nat):St:={ σ with row:=picks σ.row rs,box:=picks σ.box bs }
theorem mV {α:Type}:∀ {xs:List (Nat × α)} {k:Nat},get xs k ≠ none → k ∈ xs.map (·.1)
 | [],_,h=>by simp[get] at h
 | (j,x) :: xs,k,h=>by
  simp only[get] at h
  by_cases e:k = j
  ·subst e;simp
  ·simp only[e,if_false] at h
   simp only[List.map_cons,List.mem_cons]
   exact Or.inr (mV h)
def St.neat (σ:St) (ts rs bs:List Nat) (n:Nat):St:={ ((σ.tidy ts rs bs n).sorted rs bs) with nxt:=n }
theorem Sub.neat {σ:St} (ts rs bs:List Nat) (n:Nat) (hn:ts.Nodup):Sub σ (σ.neat ts rs bs n):=by
 refine (Sub.of_tidy ts rs bs n hn rfl).trans ?_;refine Sub.trans (σ2:=(σ.tidy ts rs bs n).sorted rs bs) (Sub.same_get rfl rfl (fun k=>?_) fun k=>?_) (Sub.num n)
 ·simp only[St.sorted,kX];split
  ·rfl
  ·rename_i hk
   simp only[St.tidy,St.drop];rw[bq];split
   ·rfl
   ·rename_i hd
    cases h:get (σ.only ts).row k with
    | none=>rfl
    | some x =>
     exfalso;refine hd ?_;simp only[List.mem_filter];exact ⟨mV (xs:=σ.row) (by rw[show get σ.row k = get (σ.only ts).row k from rfl,h];simp),by simpa using hk⟩
 ·simp only[St.sorted,kX];split
  ·rfl
  ·rename_i hk
   simp only[St.tidy,St.drop];rw[fA,bq];split
   ·rfl
   ·rename_i hd
    cases h:get (σ.only ts).box k with
    | none=>rfl
    | some x =>
     exfalso;refine hd ?_;simp only[List.mem_filter];exact ⟨mV (xs:=σ.box) (by rw[show get σ.box k = get (σ.only ts).box k from rfl,h];simp),by simpa using hk⟩
theorem Sub.of_neat {σ σ':St} (ts rs bs:List Nat) (n:Nat) (hn:ts.Nodup) (h:σ.neat ts rs bs n = σ'):Sub σ σ':=h ▸ Sub.neat ts rs bs n hn
theorem frz_nil (rs:List Nat):frz rs [] = []:=rfl
theorem vt (rs:List Nat) (k:Nat) (x:Row) (xs:List (Nat × Row)):frz rs ((k,x) :: xs) = if rs.contains k = true then (k,{ x with pm:=.ro }) :: frz rs xs else frz rs xs:=by
 unfold frz;rw[List.filter_cons];cases rs.contains k <;> simp
attribute [go_sem] St.neat St.sorted picks St.freeze frz_nil vt
def pfx:Path → Path → Prop
 | [],_=>True
 | (i,j) :: q,(i',j') :: p=>i' = i ∧ j' = j ∧ pfx q p
 | _ :: _,[]=>False
instance pfxDec:∀ (q p:Path),Decidable (pfx q p)
 | [],_=>isTrue (by simp[pfx])
 | (i,j) :: q,(i',j') :: p=>by
  have:=pfxDec q p
  unfold pfx
  infer_instance
 | _ :: _,[]=>isFalse (by simp[pfx])
def L.mv (r:Nat) (q:Path) (nm:Nat):L → L
 | .ref r' p z off len=>if r' = r then (if p = q then .ref nm [] z off len else if pfx q p then .undef else .ref r' p z off len) else .ref r' p z off len
 | .ept r' p i j d=>if r' = r then (if p = q then .ept nm [] i j d else if pfx q p then .undef else .ept r' p i j d) else .ept r' p i j d
 | l=>l
def mapV (φ:L → L):V → V
 | .l x=>.l (φ x)
 | .agg xs=>.agg (xs.map φ)
 | .tup vs=>.tup (vs.map fun x=>(x.1,x.2.map φ))
def mapE (φ:L → L) (env:List (Nat × Bool × V)):List (Nat × Bool × V):=env.map fun x=>(x.1,x.2.1,mapV φ x.2.2)
def St.unpack (σ:St) (r:Nat) (q:Path) (nm:Nat) (z:Nat) (es:Els) (row:Row):St :=
 { env:=mapE (L.mv r q nm) σ.env,box:=σ.box.map fun x=>(x.1,x.2.map (L.mv r q nm)),row:=(nm,⟨.own,z,es⟩) :: (r,{ row with es:=(row.t.put q .hole).els }) :: del [r] σ.row,nxt:=σ.nxt,sav:=σ.sav.map fun x=>(mapE (L.mv r q nm) x.1,x.2) }
theorem rP {w:World} {s:T}:∀ {q p:Path} {t:T} {v:Value} {zp:Nat} {ep:Els},¬ pfx q p → t.at? p = some (.sl zp ep) →
  ∃ ep',(t.put q s).at? p = some (.sl zp ep') ∧ ep'.length = ep.length ∧ valAt w v (t.put q s) p = valAt w v t p
 | [],_,_,_,_,_,h,_=>absurd (by simp[pfx]) h
 | (i,j) :: q,[],t,v,zp,ep,_,h=>by
  simp only[T.at?,Option.some.injEq] at h
  subst h
  simp only[T.put]
  split
  ·split
   ·exact ⟨_,rfl,by simp,by simp[valAt]⟩
   ·exact ⟨_,rfl,rfl,rfl⟩
  ·exact ⟨_,rfl,rfl,rfl⟩
 | (i,j) :: q,(i',j') :: p,t,v,zp,ep,h1,h=>by
  cases t with
  | sl z es =>
   simp only[T.at?] at h
   split at h
   ·rename_i y hy
    split at h
    ·rename_i d hd
     simp only[T.put]
     split
     ·rename_i x hx
      split
      ·rename_i c hc
       have hil:i < es.length:=(List.getElem?_eq_some_iff.1 hx).1
       have hjl:j < x.length:=(List.getElem?_eq_some_iff.1 hc).1
       by_cases hij:i' = i ∧ j' = j
       ·obtain ⟨rfl,rfl⟩:=hij
        rw[hx] at hy
        cases hy
        rw[hc] at hd
        cases hd
        have h1:¬ pfx q p:=fun e=>h1 ⟨rfl,rfl,e⟩
        have key:=fun v=>rP (w:=w) (s:=s) (v:=v) h1 h
        obtain ⟨ep',e1,e2,_⟩:=key v
        refine ⟨ep',?_,e2,?_⟩
        ·simp only[T.at?]
         rw[List.getElem?_set_self hil]
         simp only[]
         rw[List.getElem?_set_self hjl]
         exact e1
        ·cases v with
         | slice oa n cap =>
          cases oa with
          | some a =>
           simp only[valAt]
           rw[List.getElem?_set_self hil]
           simp only[]
           rw[List.getElem?_set_self hjl]
           simp only[hx,hc]
           split
           ·rename_i u hu
            obtain ⟨_,_,_,e3⟩:=key u
            exact e3
           ·rfl
          | none=>simp[valAt]
         | _=>simp[valAt]
       ·have hsame:∃ y',(es.set i (x.set j (c.put q s)))[i']? = some y' ∧ y'[j']? = some d:=by
         by_cases hi':i' = i
         ·subst hi'
          have hj':¬ j' = j:=fun h=>hij ⟨rfl,h⟩
          rw[hx] at hy
          cases hy
          exact ⟨_,List.getElem?_set_self hil,by rw[List.getElem?_set_ne (Ne.symm hj')];exact hd⟩
         ·exact ⟨y,by rw[List.getElem?_set_ne (Ne.symm hi')];exact hy,hd⟩
        obtain ⟨y',hy',hd'⟩:=hsame
        refine ⟨ep,?_,rfl,?_⟩
        ·simp only[T.at?,hy',hd']
         exact h
        ·cases v with
         | slice oa n cap =>
          cases oa with
          | some a=>simp only[valAt,hy',hd',hy,hd]
          | none=>simp[valAt]
         | _=>simp[valAt]
      ·exact ⟨ep,by simp only[T.at?,hy,hd];exact h,rfl,rfl⟩
     ·exact ⟨ep,by simp only[T.at?,hy,hd];exact h,rfl,rfl⟩
    ·cases h
   ·cases h
  | _=>simp[T.at?] at h
theorem put_row {z0:Nat} {es0:Els} {s:T}:∀ {q:Path},q ≠ [] → (T.sl z0 es0).put q s = .sl z0 ((T.sl z0 es0).put q s).els
 | [],h=>absurd rfl h
 | (i,j) :: q,_=>by
  simp only[T.put]
  split
  ·split <;> rfl
  ·rfl
section
variable {w w':World} {g g':Gh} {σ σ':St} {φ:L → L}
theorem im (h:∀ l v,RepL w g σ l v → RepL w' g' σ' (φ l) v):∀ {ls:List L} {vs:List Value},RepLs w g σ ls vs → RepLs w' g' σ' (ls.map φ) vs
 | [],[],_=>trivial
 | _ :: _,_ :: _,hr=>⟨h _ _ hr.1,im h hr.2⟩
 | [],_ :: _,hr=>hr.elim
 | _ :: _,[],hr=>hr.elim
theorem nR (h:∀ l v,RepL w g σ l v → RepL w' g' σ' (φ l) v):∀ {xs:List (Bool × List L)} {vs:List Value},RepWs w g σ xs vs → RepWs w' g' σ' (xs.map fun x=>(x.1,x.2.map φ)) vs
 | [],[],_=>trivial
 | x :: xs,v :: vs,hr=>by
  refine ⟨?_,nR h hr.2⟩
  have h0:=hr.1
  unfold RepW at h0 ⊢
  cases hx:x.1 with
  | true =>
   simp only[hx,if_true] at h0 ⊢
   obtain ⟨us,e,hu⟩:=h0
   exact ⟨us,e,im h hu⟩
  | false =>
   simp only[hx,Bool.false_eq_true,if_false] at h0 ⊢
   obtain ⟨l,e,hu⟩:=h0
   exact ⟨φ l,by simp[e],h _ _ hu⟩
 | [],_ :: _,hr=>hr.elim
 | _ :: _,[],hr=>hr.elim
theorem pM (h:∀ l v,RepL w g σ l v → RepL w' g' σ' (φ l) v) {x:V} {v:Value} (hr:RepV w g σ x v):RepV w' g' σ' (mapV φ x) v:=by
 cases x with
 | l y=>exact h _ _ hr
 | agg ys=>obtain ⟨vs,e,hr⟩:=hr;exact ⟨vs,e,im h hr⟩
 | tup ys=>obtain ⟨vs,e,hr⟩:=hr;exact ⟨vs,e,nR h hr⟩
theorem gX (φ:L → L):∀ (env:List (Nat × Bool × V)) (t:Nat),get (mapE φ env) t = (get env t).map fun x=>(x.1,mapV φ x.2)
 | [],_=>rfl
 | (k,x) :: env,t=>by
  have ih:=gX φ env t
  unfold mapE at ih ⊢
  simp only[List.map_cons,get]
  split
  ·rfl
  ·exact ih
theorem pN (φ:L → L):∀ (bs:List (Nat × List L)) (k:Nat),get (bs.map fun x=>(x.1,x.2.map φ)) k = (get bs k).map (List.map φ)
 | [],_=>rfl
 | (j,x) :: bs,k=>by
  have ih:=pN φ bs k
  simp only[List.map_cons,get]
  split
  ·rfl
  ·exact ih
theorem pO {env:List (Nat × Bool × V)} (hp:env.Pairwise fun x y=>x.1 ≠ y.1):(mapE φ env).Pairwise fun x y=>x.1 ≠ y.1:=by
 unfold mapE;rw[List.pairwise_map];exact hp
end
theorem Sub.unpack {σ:St} {r nm z:Nat} {q:Path} {es:Els} {row:Row} (hrow:get σ.row r = some row) (hpm:row.pm = .own) (hq:row.t.at? q = some (.sl z es)) (hne:q ≠ []) (hnm:get σ.row nm = none) :
  Sub σ (σ.unpack r q nm z es row):=by
 intro w0 Al N a w g R
 have mem:=R.mem
 obtain ⟨u,G,hu,hru,hGF,hput⟩:=(mem.own r row hrow hpm).focus hq
 obtain ⟨c1,-,-⟩:=hput w .hole (fun _=>False) (fun _ _ _=>rfl) (.hole hru.one) (fun _ h=>h.elim)
 have hrn:r ≠ nm:=fun e=>by rw[e,hnm] at hrow;cases hrow
 let g':Gh:=⟨g.bx,fun k=>if k = nm then u else g.rw k,fun k=>if k = nm then G else if k = r then (fun b=>g.fp r b ∧ ¬ G b) else g.fp k⟩
 let σ':=σ.unpack r q nm z es row
 have hrowT:({ row with es:=(row.t.put q .hole).els }:Row).t = row.t.put q .hole:=(put_row hne).symm
 have rowE:∀ k,get σ'.row k = if k = nm then some ⟨.own,z,es⟩ else if k = r then some { row with es:=(row.t.put q .hole).els } else get σ.row k:=by
  intro k
  simp only[σ',St.unpack,get]
  split
  ·rfl
  ·split
   ·rfl
   ·rename_i hk
    rw[bq,if_neg (by simpa using hk)]
 have boxE:∀ k,get σ'.box k = (get σ.box k).map (List.map (L.mv r q nm)):=fun k=>pN _ σ.box k
 have repL:∀ l v,RepL w g σ l v → RepL w g' σ' (L.mv r q nm l) v:=by
  intro l v hr
  cases l with
  | t x=>exact hr
  | nil=>exact hr
  | npt=>exact hr
  | undef=>exact hr
  | ptr b j=>exact ⟨by rw[boxE];simpa using hr.1,hr.2⟩
  | fn f caps=>exact ⟨fun b hb=>by rw[boxE];simpa using hr.1 b hb,hr.2⟩
  | ref r' p z' off len =>
   obtain ⟨row1,es1,u1,e1,e2,e3,e4,e5⟩:=id hr
   simp only[L.mv]
   by_cases h0:r' = r
   ·subst h0
    rw[if_pos rfl]
    rw[hrow] at e1
    cases e1
    by_cases h1:p = q
    ·subst h1
     rw[if_pos rfl]
     rw[hq] at e2
     cases e2
     rw[hu] at e3
     cases e3
     exact ⟨⟨.own,z,es⟩,es,u,by rw[rowE,if_pos rfl],rfl,by simp[valAt,g'],e4,e5⟩
    ·rw[if_neg h1]
     by_cases h2:pfx q p
     ·rw[if_pos h2]
      obtain ⟨_,_,_,_,_,rfl,_⟩:=e5
      rfl
     ·rw[if_neg h2]
      obtain ⟨ep',d1,d2,d3⟩:=rP (w:=w) (s:=.hole) (v:=g.rw r') h2 e2
      refine ⟨{ row with es:=(row.t.put q .hole).els },ep',u1,by rw[rowE,if_neg hrn,if_pos rfl],by rw[hrowT];exact d1,?_,by rw[d2];exact e4,e5⟩
      rw[hrowT]
      simp only[g',if_neg hrn]
      rw[d3]
      exact e3
   ·rw[if_neg h0]
    have h3:r' ≠ nm:=fun e=>by rw[e,hnm] at e1;cases e1
    exact ⟨row1,es1,u1,by rw[rowE,if_neg h3,if_neg h0];exact e1,e2,by simp only[g',if_neg h3];exact e3,e4,e5⟩
  | ept r' p i j d =>
   obtain ⟨row1,z1,es1,a1,n,cap,e1,e2,e3,e4,e5,e6⟩:=id hr
   simp only[L.mv]
   by_cases h0:r' = r
   ·subst h0
    rw[if_pos rfl]
    rw[hrow] at e1
    cases e1
    by_cases h1:p = q
    ·subst h1
     rw[if_pos rfl]
     rw[hq] at e2
     cases e2
     rw[hu] at e3
     cases e3
     exact ⟨⟨.own,z,es⟩,z,es,a1,n,cap,by rw[rowE,if_pos rfl],rfl,by simp[valAt,g'],e4,e5,e6⟩
    ·rw[if_neg h1]
     by_cases h2:pfx q p
     ·rw[if_pos h2]
      rw[e6]
      rfl
     ·rw[if_neg h2]
      obtain ⟨ep',d1,d2,d3⟩:=rP (w:=w) (s:=.hole) (v:=g.rw r') h2 e2
      refine ⟨{ row with es:=(row.t.put q .hole).els },z1,ep',a1,n,cap,by rw[rowE,if_neg hrn,if_pos rfl],by rw[hrowT];exact d1,?_,by rw[d2];exact e4,e5,e6⟩
      rw[hrowT]
      simp only[g',if_neg hrn]
      rw[d3]
      exact e3
   ·rw[if_neg h0]
    have h3:r' ≠ nm:=fun e=>by rw[e,hnm] at e1;cases e1
    exact ⟨row1,z1,es1,a1,n,cap,by rw[rowE,if_neg h3,if_neg h0];exact e1,e2,by simp only[g',if_neg h3];exact e3,e4,e5,e6⟩
 have cases3:∀ k row',get σ'.row k = some row' → (k = nm ∧ row' = ⟨.own,z,es⟩) ∨ (k = r ∧ row' = { row with es:=(row.t.put q .hole).els }) ∨ (k ≠ nm ∧ k ≠ r ∧ get σ.row k = some row'):=by
  intro k row' h
  rw[rowE] at h
  split at h
  ·rename_i e;cases h;exact Or.inl ⟨e,rfl⟩
  ·split at h
   ·rename_i e;cases h;exact Or.inr (Or.inl ⟨e,rfl⟩)
   ·rename_i e1 e2;exact Or.inr (Or.inr ⟨e1,e2,h⟩)
 have fpO:∀ k row' b,get σ'.row k = some row' → row'.pm ≠ .ro → g'.fp k b → ∃ k0 row0,get σ.row k0 = some row0 ∧ row0.pm ≠ .ro ∧ g.fp k0 b ∧ (k = nm → k0 = r ∧ G b) ∧ (k ≠ nm → k0 = k) ∧ (k = r → ¬ G b):=by
  intro k row' b h hp hb
  rcases cases3 k row' h with ⟨rfl,rfl⟩ | ⟨rfl,rfl⟩ | ⟨e1,e2,h3⟩
  ·simp only[g',if_true] at hb
   exact ⟨r,row,hrow,by simp[hpm],hGF b hb,fun _=>⟨rfl,hb⟩,fun e=>absurd rfl e,fun e=>absurd e.symm hrn⟩
  ·simp only[g',if_neg hrn,if_true] at hb
   exact ⟨k,row,hrow,by simp[hpm],hb.1,fun e=>absurd e hrn,fun _=>rfl,fun _=>hb.2⟩
  ·simp only[g',if_neg e1,if_neg e2] at hb
   exact ⟨k,row',h3,hp,hb,fun e=>absurd e e1,fun _=>rfl,fun e=>absurd e e2⟩
 have ownO:∀ b,Owned g' σ' b → Owned g σ b:=by
  rintro b (⟨k,ls,h1,h2⟩ | ⟨k,row',h1,h2,h3⟩)
  ·rw[boxE,Option.map_eq_some_iff] at h1
   obtain ⟨ls0,h1,-⟩:=h1
   exact Or.inl ⟨k,ls0,h1,h2⟩
  ·obtain ⟨k0,row0,q1,q2,q3,-⟩:=fpO k row' b h1 h2 h3
   exact Or.inr ⟨k0,row0,q1,q2,q3⟩
 have mem':Mem w g' σ':=by
  refine ⟨fun k ls h=>?_,fun k row' h hp=>?_,fun k row' h hp=>?_,fun k row' h hp=>?_,fun k k' ls ls' h h' e=>?_,fun k ls k' row' h h' hp hb=>?_,fun k k' row' row'' b h h' hp hp' hb hb'=>?_,fun b hb=>mem.lt b (ownO b hb)⟩
  ·rw[boxE,Option.map_eq_some_iff] at h
   obtain ⟨ls0,h,rfl⟩:=h
   obtain ⟨cs,e,h1,h2⟩:=mem.box k ls0 h
   exact ⟨cs,e,h1,im repL h2⟩
  ·rcases cases3 k row' h with ⟨rfl,rfl⟩ | ⟨rfl,rfl⟩ | ⟨e1,e2,h3⟩
   ·simp only[g',if_true];exact hru
   ·rw[hrowT]
    simp only[g',if_neg hrn,if_true]
    exact c1.mono fun b hb=>hb.resolve_right fun h=>h
   ·simp only[g',if_neg e1,if_neg e2]
    exact mem.own k row' h3 hp
  ·rcases cases3 k row' h with ⟨rfl,rfl⟩ | ⟨rfl,rfl⟩ | ⟨e1,e2,h3⟩
   ·cases hp
   ·rw[hpm] at hp;cases hp
   ·simp only[g',if_neg e1,if_neg e2]
    rcases mem.top k row' h3 hp with h4 | ⟨a1,cap,cs,h4,h5,h6,h7⟩
    ·exact Or.inl h4
    ·exact Or.inr ⟨a1,cap,cs,h4,h5,h6,fun i j x c hx hc=>(h7 i j x c hx hc).mono fun b hb ho=>hb (ownO b ho)⟩
  ·rcases cases3 k row' h with ⟨rfl,rfl⟩ | ⟨rfl,rfl⟩ | ⟨e1,e2,h3⟩
   ·cases hp
   ·rw[hpm] at hp;cases hp
   ·simp only[g',if_neg e1]
    exact (mem.ro k row' h3 hp).mono fun b hb ho=>hb (ownO b ho)
  ·rw[boxE,Option.map_eq_some_iff] at h h'
   obtain ⟨l0,h,-⟩:=h
   obtain ⟨l1,h',-⟩:=h'
   exact mem.bb k k' l0 l1 h h' e
  ·rw[boxE,Option.map_eq_some_iff] at h
   obtain ⟨l0,h,-⟩:=h
   obtain ⟨k0,row0,q1,q2,q3,-⟩:=fpO k' row' _ h' hp hb
   exact mem.br k l0 k0 row0 h q1 q2 q3
  ·obtain ⟨k0,row0,q1,q2,q3,q4,q5,q6⟩:=fpO k row' b h hp hb
   obtain ⟨k1,row1,p1,p2,p3,p4,p5,p6⟩:=fpO k' row'' b h' hp' hb'
   have e:=mem.rr k0 k1 row0 row1 b q1 p1 q2 p2 q3 p3
   by_cases n1:k = nm
   ·by_cases n2:k' = nm
    ·rw[n1,n2]
    ·obtain ⟨a1,a2⟩:=q4 n1
     have a3:=p5 n2
     exact absurd a2 (p6 (by rw[← a3,← e,a1]))
   ·by_cases n2:k' = nm
    ·obtain ⟨a1,a2⟩:=p4 n2
     have a3:=q5 n1
     exact absurd a2 (q6 (by rw[← a3,e,a1]))
    ·rw[← q5 n1,← p5 n2,e]
 refine ⟨g',⟨fun t c v hg hc=>?_,fun t c v hg hc=>?_⟩,pO R.unq,mem',fun b hb=>R.own b (ownO b hb),R.frm,R.siz,R.os,R.tape,R.out,R.dfr,R.tsz,fun x hx=>?_⟩
 ·simp only[St.unpack,gX,Option.map_eq_some_iff,Prod.mk.injEq] at hg
  obtain ⟨y,hy,rfl,rfl⟩:=hg
  exact pM repL (R.slots.yes t y.1 y.2 hy hc)
 ·simp only[St.unpack,gX,Option.map_eq_some_iff,Prod.mk.injEq] at hg
  obtain ⟨y,hy,rfl,rfl⟩:=hg
  exact R.slots.no t y.1 y.2 hy hc
 ·simp only[St.unpack,List.mem_map] at hx
  obtain ⟨y,hy,rfl⟩:=hx
  obtain ⟨q1,q2,q3⟩:=R.sav y hy
  refine ⟨fun t c v hg hc=>?_,fun t c v hg hc=>?_,pO q3⟩
  ·simp only[gX,Option.map_eq_some_iff,Prod.mk.injEq] at hg
   obtain ⟨x,hx,rfl,rfl⟩:=hg
   exact pM repL (q1 t x.1 x.2 hx hc)
  ·simp only[gX,Option.map_eq_some_iff,Prod.mk.injEq] at hg
   obtain ⟨x,hx,rfl,rfl⟩:=hg
   exact q2 t x.1 x.2 hx hc
theorem vu (φ:L → L):mapE φ [] = []:=rfl
theorem ue (φ:L → L) (k:Nat) (c:Bool) (v:V) (env:List (Nat × Bool × V)):mapE φ ((k,c,v) :: env) = (k,c,mapV φ v) :: mapE φ env:=rfl
attribute [go_sem] St.unpack L.mv mapV vu ue pfx
section
variable {P:Program} {w0 w:World} {Al:Blks} {N:Nat} {g:Gh} {σ:St} {a:Act}
theorem vv (R:Rel w0 Al N σ a w g) (ts:List Nat) (hn:ts.Nodup):Rel w0 Al N (σ.only ts) a w g :=
 ⟨⟨fun t c v hg hc=>(R.slots.yes t c v (jQ σ ts t _ hg).2 hc).same rfl rfl,fun t c v hg hc=>R.slots.no t c v (jQ σ ts t _ hg).2 hc⟩,mL σ ts hn,R.mem.same rfl rfl,by rw[Owned.same (g:=g) (σ':=σ.only ts) (σ:=σ) rfl rfl];exact R.own,R.frm,R.siz,R.os,R.tape,R.out,R.dfr,R.tsz,fun x hx=>let ⟨q1,q2,q3⟩:=R.sav x hx;⟨fun t c v h hc=>(q1 t c v h hc).same rfl rfl,q2,q3⟩⟩
theorem rQ {k:Bool} {f:FuncId} {vs:List V} {K:St → V → Prop} (ts:List Nat) (hn:ts.Nodup) (h:CallW P k f vs K (σ.only ts)):CallW P k f vs K σ :=
 ⟨h.1,fun w0 Al N a w g us R hu=>h.2 w0 Al N a w g us (vv R ts hn) (hu.stays fun _ _ l _=>iY rfl rfl l)⟩
end
def PE {α:Type} (P:Program) (f:FuncId) (args:List A) (Q:α → Prop) (res:α → List A):Prop :=
 Ours P f ∧ ∀ w vs,Shapes args vs → (∀ (j:Nat) t v,(flatA args)[j]? = some t → (flatU vs)[j]? = some v → Rep w false v t fun _=>True) → Calls P f vs.toArray w fun
  | .returned r,w'=>w.heap.size ≤ w'.heap.size ∧ (∀ b,b < w.heap.size → w'.heap[b]? = w.heap[b]?) ∧ w'.os = w.os ∧ w'.tape = w.tape ∧ w'.output = w.output ∧
    ∃ x,Q x ∧ ∃ us,r = oneU us ∧ Shapes (res x) us ∧ ∃ F:Nat → Blks,(∀ (j:Nat) t v,(flatA (res x))[j]? = some t → (flatU us)[j]? = some v → Rep w' true v t (F j)) ∧ (∀ j b,F j b → w.heap.size ≤ b) ∧ ∀ j j' b,F j b → F j' b → j = j'
  | _,_=>False
def OutE {α:Type} (P:Program) (rs:List ResultVar) (Q:α → Prop) (res:α → List A) (e:Exit) (σ:St):Prop:=∃ x,Q x ∧ OutN P rs (res x) e σ
section
variable {P:Program} {w0 w w':World} {Al:Blks} {N:Nat} {g:Gh} {σ σ':St} {a:Act}
theorem pP {α:Type} {fn:Func} {Q:α → Prop} {res:α → List A} {e:Exit} (R:Rel w0 Al N σ a w g) (h:OutE P fn.results.toList Q res e σ) :
  (e = .normal ∨ e = .ret) ∧ ∃ x,Q x ∧ ∃ us,(results fn a.tmps).run P w = .ok (oneU us) w ∧ Shapes (res x) us ∧ ∃ F:Nat → Blks,(∀ (j:Nat) t v,(flatA (res x))[j]? = some t → (flatU us)[j]? = some v → Rep w true v t (F j)) ∧ (∀ j b,F j b → ∃ r row,get σ.row r = some row ∧ row.pm = .own ∧ g.fp r b) ∧ ∀ j j' b,F j b → F j' b → j = j':=by
 obtain ⟨x,hx,h⟩:=h
 have fin:(match resV P σ fn.results.toList with
  | some (c,vs)=>c ∧ shapeVs (res x) vs ∧ match takeLs σ ((flatA (res x)).map zOf) (vs.flatMap V.leaves) with
   | some (c',ts,_)=>c' ∧ ts = flatA (res x)
   | none=>False
  | none=>False) → ∃ us,(results fn a.tmps).run P w = .ok (oneU us) w ∧ Shapes (res x) us ∧ ∃ F:Nat → Blks,(∀ (j:Nat) t v,(flatA (res x))[j]? = some t → (flatU us)[j]? = some v → Rep w true v t (F j)) ∧ (∀ j b,F j b → ∃ r row,get σ.row r = some row ∧ row.pm = .own ∧ g.fp r b) ∧ ∀ j j' b,F j b → F j' b → j = j':=by
  intro hK
  split at hK
  ·rename_i c vs' hres
   obtain ⟨hc,hsv,hK⟩:=hK
   split at hK
   ·rename_i c' ts rs hts
    obtain ⟨hc',rfl⟩:=hK
    obtain ⟨us,hr,hus⟩:=jP R.mem R.slots hres hc
    obtain ⟨hS,hL⟩:=dT hsv hus
    obtain ⟨_,hown,F,q1,q2,q3⟩:=bM R.mem hts hc' hL
    refine ⟨us,hr,hS,F,q1,fun j b hb=>?_,q3⟩
    obtain ⟨r,row,hrs,h1,h2,h3⟩:=q2 j b hb
    obtain ⟨row',e1,e2⟩:=hown r hrs
    rw[h1] at e1
    cases e1
    exact ⟨r,row,h1,e2,h3⟩
   ·exact hK.elim
  ·exact hK.elim
 cases e with
 | normal=>exact ⟨Or.inl rfl,x,hx,fin h⟩
 | ret=>exact ⟨Or.inr rfl,x,hx,fin h⟩
 | _=>exact h.elim
theorem PE_of {α:Type} {f:FuncId} {fn:Func} {c:Code} {args:List A} {Q:α → Prop} {res:α → List A} (hf:P.funcs[f]? = some fn) (hb:fn.body = some c) (hn:(fn.name == "runtime.NumGoroutine") = false) {n:Nat} (hnt:fn.ntmps = n) {rs:List ResultVar} (hrs:fn.results.toList = rs) (hl:args.length ≤ n)
  (h:W P n c (OutE P rs Q res) (St.start args)):PE P f args Q res:=by
 subst hnt hrs
 refine ⟨⟨fn,hf,by simp[hb],hn⟩,fun w vs hsh hrep=>calls_of_wp hf hb ?_⟩
 let g:Gh:=⟨fun _=>0,fun k=>(flatU vs).getD k undef,fun _ _=>False⟩
 have hfl:=bA hsh
 have hrow:∀ r row,get (rowsN .ro 0 (flatA args)) r = some row → row.pm = .ro ∧ (flatA args)[r]? = some (.sl row.z row.es):=by
  intro r row hr
  rw[aV] at hr
  simp only[Nat.zero_le,if_true,Nat.sub_zero] at hr
  split at hr
  ·rename_i z es he
   simp only[Option.some.injEq] at hr
   subst hr
   exact ⟨rfl,he⟩
  ·cases hr
 have hown:∀ b,¬ Owned g (St.start args) b:=by
  rintro b (⟨k,ls,h1,_⟩ | ⟨r,row,h1,h2,_⟩)
  ·simp[St.start,get] at h1
  ·exact h2 (hrow r row h1).1
 have hvals:RepVs w g (St.start args) (valsN 0 args) vs:=by
  refine bV hsh fun j t v ht hv=>?_
  refine bI (hrep j t v ht hv) fun z es e=>?_
  subst e
  refine ⟨⟨.ro,z,es⟩,?_,rfl,rfl,?_⟩
  ·simp only[St.start,aV,Nat.zero_le,if_true,Nat.zero_add,Nat.sub_zero,ht]
  ·simp[g,hv]
 have hlen:=hvals.length
 have hal:args.length = vs.length:=hsh.length
 have R:Rel w (fun _=>False) fn.ntmps (St.start args) { tmps:=vs.toArray ++ Array.replicate (fn.ntmps - vs.toArray.size) undef,defers:=[] } w g:=by
  refine ⟨⟨fun t c v hg hc=>?_,fun t c v hg hc=>?_⟩,cE _ 0,⟨?_,?_,?_,?_,?_,?_,?_,fun b hb=>(hown b hb).elim⟩,fun b hb=>(hown b hb).elim,fun _ _ _=>rfl,Nat.le_refl _,rfl,rfl,rfl,rfl,by simp;omega,fun x hx=>by simp[St.start] at hx⟩
  ·obtain ⟨_,_,h3⟩:=bj _ 0 t c v hg
   obtain ⟨u,hu,hr⟩:=hvals.nth (j:=t) (by simpa using h3)
   have hlt:t < vs.length:=(List.getElem?_eq_some_iff.1 hu).1
   have:(vs.toArray ++ Array.replicate (fn.ntmps - vs.toArray.size) undef).getD t undef = u:=by
    rw[Array.getD_eq_getD_getElem?,Array.getElem?_append_left (by simpa using hlt)]
    simp[hu]
   rw[this]
   exact hr
  ·have:=(bj _ 0 t c v hg).1
   rw[hc] at this
   cases this
  ·intro k ls h;simp[St.start,get] at h
  ·intro r row h hp;rw[(hrow r row h).1] at hp;cases hp
  ·intro r row h hp;rw[(hrow r row h).1] at hp;cases hp
  ·intro r row h hp
   have ht:=(hrow r row h).2
   have hlt:r < (flatU vs).length:=by rw[hfl];exact (List.getElem?_eq_some_iff.1 ht).1
   have hv:(flatU vs)[r]? = some ((flatU vs).getD r undef):=by simp[List.getD_eq_getElem?_getD,List.getElem?_eq_getElem hlt]
   exact (hrep r _ _ ht hv).mono fun b _=>hown b
  ·intro k k' ls ls' h;simp[St.start,get] at h
  ·intro k ls r row h;simp[St.start,get] at h
  ·intro r r' row row' b h _ hp;exact absurd (hrow r row h).1 hp
 refine wp_mono (h w (fun _=>False) _ w g R) fun e a' w' ⟨σ',g',R',hK⟩=>?_
 obtain ⟨he,x,hx,us,hr,hS,F,q1,q2,q3⟩:=pP R' hK
 have fin:a'.defers = [] ∧ ∃ v,(results fn a'.tmps).run P w' = .ok v w' ∧ (w.heap.size ≤ w'.heap.size ∧ (∀ b,b < w.heap.size → w'.heap[b]? = w.heap[b]?) ∧ w'.os = w.os ∧ w'.tape = w.tape ∧ w'.output = w.output ∧
   ∃ x,Q x ∧ ∃ us,v = oneU us ∧ Shapes (res x) us ∧ ∃ F:Nat → Blks,(∀ (j:Nat) t v,(flatA (res x))[j]? = some t → (flatU us)[j]? = some v → Rep w' true v t (F j)) ∧ (∀ j b,F j b → w.heap.size ≤ b) ∧ ∀ j j' b,F j b → F j' b → j = j'):=by
  refine ⟨R'.dfr,_,hr,R'.siz,fun b hb=>R'.frm b hb (fun h=>h),R'.os,R'.tape,R'.out,x,hx,us,rfl,hS,F,q1,fun j b hb=>?_,q3⟩
  obtain ⟨r,row,h1,h2,h3⟩:=q2 j b hb
  rcases R'.own b (Or.inr ⟨r,row,h1,by simp[h2],h3⟩) with h | h
  ·exact h
  ·exact h.elim
 rcases he with rfl | rfl
 ·exact fin
 ·exact fin
theorem CallW_E {α:Type} {f:FuncId} {args:List A} {Q:α → Prop} {res:α → List A} {vs:List V} {K:St → V → Prop} (hpe:PE P f args Q res) (hden:denVs σ vs args) (v:α → V) (hv:∀ x,oneV (valsN σ.nxt (res x)) = some (v x))
  (hfr:σ.row.all (fun x=>decide (x.1 < σ.nxt)) = true) (hK:∀ x,Q x → K (σ.answer (res x)) (v x)) {k:Bool}:CallW P k f vs K σ:=by
 refine ⟨hpe.1,fun w0 Al N a w g us R hus=>?_⟩
 obtain ⟨h1,h2⟩:=fD R.mem hus hden
 refine Calls.mono (hpe.2 w us h1 h2) fun e w' he=>?_
 cases e with
 | panicked=>exact he
 | outgrown=>exact he
 | returned r =>
  obtain ⟨hsiz,hold,hos,htape,hout,x,hx,us',rfl,hsh,F,hF,hlo,hdis⟩:=he
  obtain ⟨g',hin,hrw⟩:=kR R.mem (fun _ _=>kS hfr _ (by omega)) hsh hF hlo hdis hsiz hold
  have R':=R.turn hin ⟨by rw[bD];rfl,(bK _).symm⟩ hos htape hout
  refine ⟨σ.answer (res x),g',v x,R',?_,hK x hx,fun _=>hold⟩
  refine fB (hv x) (bV hsh fun j t u ht hu=>bI (hF j t u ht hu) fun z es e=>?_)
  subst e
  have hj:j < (flatA (res x)).length:=(List.getElem?_eq_some_iff.1 ht).1
  refine ⟨⟨.own,z,es⟩,?_,rfl,rfl,hrw j u hj hu⟩
  simp only[St.answer,get_append,aV,Nat.le_add_right,if_true,Nat.add_sub_cancel_left,ht]
end
attribute [go_sem] OutE
theorem View.both {u v v':Value} {z n:Nat} (h:View u z 0 n v) (h':View u z 0 n v'):View v z 0 n v':=by
 obtain ⟨oa,m,cap,o1,rfl,rfl,h1⟩:=h;obtain ⟨oa',m',cap',o2,e,rfl,h2⟩:=h';cases e
 refine ⟨o1,n,cap - 0,o2,rfl,by simp,?_⟩;rcases h1 with h1 | h1
 ·exact Or.inl (by omega)
 ·rcases h2 with h2 | h2
  ·exact Or.inl (by omega)
  ·refine Or.inr ?_;rw[h2,h1];cases oa <;> simp[Addr.add]
theorem View.comp {u v v':Value} {z n:Nat} (h:View u z 0 n v) (h':View v z 0 n v'):View u z 0 n v':=by
 obtain ⟨oa,m,cap,o1,rfl,rfl,h1⟩:=h;obtain ⟨oa',m',cap',o2,e,rfl,h2⟩:=h';cases e
 refine ⟨oa,m,cap,o2,rfl,by simp,?_⟩;rcases h1 with h1 | h1
 ·exact Or.inl (by omega)
 ·rcases h2 with h2 | h2
  ·exact Or.inl (by omega)
  ·refine Or.inr ?_;rw[h2,h1];cases oa <;> simp[Addr.add]
def Cur (w:World) (c:Nat) (es:Els) (bv:Value):Prop :=
 ∃ cs e u1 u2 i h,w.heap[c]? = some (.cells cs e (0,0)) ∧ cs.toList = [bv,u1,u2] ∧ Rep w false bv (.sl 1 es) (fun b=>b ≠ c) ∧ 0 ≤ i ∧ Rep w false u1 (.int .i64 i) (fun _=>False) ∧ Rep w false u2 (.int .i64 h) fun _=>False
def PD {α:Type} (P:Program) (f:FuncId) (es:Els) (args:List A) (Q:α → Prop) (res:α → List A):Prop :=
 Ours P f ∧ ∀ w c bv vs,Cur w c es bv → (∃ oa cap,bv = .slice oa es.length cap) → Shapes args vs → (∀ (j:Nat) t v,(flatA args)[j]? = some t → (flatU vs)[j]? = some v → Rep w false v t fun b=>b ≠ c) → Calls P f (Value.pointer (some ⟨c,0,none⟩) :: vs).toArray w fun
  | .returned r,w'=>w.heap.size ≤ w'.heap.size ∧ (∀ b,b < w.heap.size → b ≠ c → w'.heap[b]? = w.heap[b]?) ∧ w'.os = w.os ∧ w'.tape = w.tape ∧ w'.output = w.output ∧
    (∃ bv',View bv 1 0 es.length bv' ∧ Cur w' c es bv') ∧
    ∃ x,Q x ∧ ∃ us,r = oneU us ∧ Shapes (res x) us ∧ ∃ F:Nat → Blks,(∀ (j:Nat) t v,(flatA (res x))[j]? = some t → (flatU us)[j]? = some v → Rep w' true v t (F j)) ∧ (∀ j b,F j b → w.heap.size ≤ b) ∧ ∀ j j' b,F j b → F j' b → j = j'
  | _,_=>False
def St.drawn (σ:St) (k:Nat) (ls:List L) (res:List A):St:={ σ with box:=(k,ls) :: del [k] σ.box,row:=rowsN .own σ.nxt (flatA res) ++ σ.row,nxt:=σ.nxt + (flatA res).length }
section
variable {P:Program} {w0 w w':World} {Al:Blks} {N:Nat} {g:Gh} {σ σ':St} {a:Act}
theorem fU (m:Mem w g σ) {k:Nat} {ls:List L} (hk:get σ.box k = some ls) {r:Nat} {row:Row} (h:get σ.row r = some row):Rep w false (g.rw r) row.t fun b=>b ≠ g.bx k :=
 (m.lentRow h).mono fun b hb e=>by
  subst e
  rcases hb with ⟨r',row',_,h1,h2,h3⟩ | hb
  ·exact m.br k ls r' row' hk h1 h2 h3
  ·exact hb (Or.inl ⟨k,ls,hk,rfl⟩)
theorem vw (m:Mem w g σ) {k:Nat} {ls:List L} (hk:get σ.box k = some ls) {l:L} {t:T} {v:Value} (h:RepL w g σ l v) (hd:denL σ l t):Rep w false v t fun b=>b ≠ g.bx k:=by
 unfold denL at hd;split at hd
 ·subst hd;exact (show Rep w false v _ _ from h).mono fun b hb=>hb.elim
 ·subst hd;obtain ⟨oa,rfl⟩:=h;cases oa with
  | none=>exact .nils
  | some a=>exact .bare
 ·rename_i r p z off len z' es'
  obtain ⟨row,es0,u,e1,e2,e3,e4,e5⟩:=h;(have hn:nodeOf σ r p = some (z,es0):=by simp[nodeOf,e1,e2]);rw[hn] at hd;obtain ⟨rfl,rfl⟩:=hd;obtain ⟨u',hu',hru⟩:=(fU m hk e1).focus_ro e2;rw[e3] at hu';cases hu'
  exact hru.view e5 e4
 ·exact .hole h
 ·exact hd.elim
theorem nS (m:Mem w g σ) {k:Nat} {lk:List L} (hk:get σ.box k = some lk):∀ {ls:List L} {ts:List T} {vs:List Value},RepLs w g σ ls vs → denLs σ ls ts → ∀ (j:Nat) t v,ts[j]? = some t → vs[j]? = some v → Rep w false v t fun b=>b ≠ g.bx k
 | [],[],[],_,_=>by simp
 | l :: ls,t :: ts,v :: vs,h,hd=>fun j t' v' ht hv=>by
  cases j with
  | zero=>simp at ht hv;subst ht hv;exact vw m hk h.1 hd.1
  | succ j=>exact nS m hk h.2 hd.2 j t' v' (by simpa using ht) (by simpa using hv)
 | [],_ :: _,_,_,h=>h.elim
 | _ :: _,[],_,_,h=>h.elim
 | [],[],_ :: _,h,_=>h.elim
 | _ :: _,_ :: _,[],h,_=>h.elim
theorem nT (m:Mem w g σ) {k:Nat} {lk:List L} (hk:get σ.box k = some lk):∀ {vs:List V} {xs:List A} {us:List Value},RepVs w g σ vs us → denVs σ vs xs →
  ∀ (j:Nat) t v,(flatA xs)[j]? = some t → (flatU us)[j]? = some v → Rep w false v t fun b=>b ≠ g.bx k
 | [],[],[],_,_=>by simp[flatA]
 | x :: vs,(b,ts) :: xs,u :: us,h,hd=>by
  have key:∀ ls,RepLs w g σ ls u.cells.toList → denLs σ ls ts → denVs σ vs xs →
    ∀ (j:Nat) t v,(flatA ((b,ts) :: xs))[j]? = some t → (flatU (u :: us))[j]? = some v → Rep w false v t fun b=>b ≠ g.bx k:=by
   intro ls h1 h2 h4
   have q1:=(fC m h1 h2).1
   intro j t v ht hv
   simp only[flatA,flatU,List.flatMap_cons] at ht hv
   by_cases hj:j < ts.length
   ·rw[List.getElem?_append_left hj] at ht
    rw[List.getElem?_append_left (by omega)] at hv
    exact nS m hk h1 h2 j t v ht hv
   ·rw[List.getElem?_append_right (by omega)] at ht
    rw[List.getElem?_append_right (by omega)] at hv
    rw[← q1] at hv
    exact nT m hk h.2 h4 _ t v ht hv
  cases x with
  | l y =>
   cases b with
   | true=>exact hd.elim
   | false=>exact key [y] (RepV.cells h.1 rfl) hd.1 hd.2
  | agg ys =>
   cases b with
   | false=>exact hd.elim
   | true =>
    obtain ⟨d1,d2⟩:=hd
    obtain ⟨cs,rfl,hr⟩:=h.1
    exact key ys (by simpa [Value.cells] using hr) d1 d2
  | tup=>cases b <;> exact hd.elim
 | [],_ :: _,_,_,h=>h.elim
 | .l _ :: _,[],_,_,h=>h.elim
 | .agg _ :: _,[],_,_,h=>h.elim
 | .tup _ :: _,[],_,_,h=>h.elim
 | [],[],_ :: _,h,_=>h.elim
 | _ :: _,_ :: _,[],h,_=>h.elim
theorem ax {α:Type} {f:FuncId} {es:Els} {args:List A} {Q:α → Prop} {res:α → List A} {vs:List V} {K:St → V → Prop} {k r n:Nat} {i h:Int} {pm:Pm} (hpd:PD P f es args Q res)
  (hbox:get σ.box k = some [.ref r [] 1 0 n,.t (.int .i64 i),.t (.int .i64 h)]) (hrow:get σ.row r = some ⟨pm,1,es⟩) (hn:n = es.length) (hi:0 ≤ i) (hden:denVs σ vs args) (v:α → V) (hv:∀ x,oneV (valsN σ.nxt (res x)) = some (v x))
  (hfr:σ.row.all (fun x=>decide (x.1 < σ.nxt)) = true) (hK:∀ (i' h':Int),0 ≤ i' → ∀ x,Q x → K (σ.drawn k [.ref r [] 1 0 n,.t (.int .i64 i'),.t (.int .i64 h')] (res x)) (v x)):CallW P false f (.l (.ptr k 0) :: vs) K σ:=by
 refine ⟨hpd.1,fun w0 Al N a w g us R hus=>?_⟩
 have m:=R.mem
 match us,hus with
 | [],hus=>exact hus.elim
 | u0 :: us,hus =>
  obtain ⟨hu0,hus⟩:=hus
  obtain ⟨_,hp⟩:(get σ.box k).isSome ∧ u0 = .pointer (some ⟨g.bx k,0,none⟩):=hu0
  subst hp
  obtain ⟨h1,_⟩:=fD m hus hden
  obtain ⟨cs,e,hc,hls⟩:=m.box k _ hbox
  obtain ⟨bv,u1,u2,hcs,hb0,hb1,hb2⟩:∃ bv u1 u2,cs.toList = [bv,u1,u2] ∧ RepL w g σ (.ref r [] 1 0 n) bv ∧ RepL w g σ (.t (.int .i64 i)) u1 ∧ RepL w g σ (.t (.int .i64 h)) u2:=by
   match hq:cs.toList,hls with
   | [x,y,z],hls=>exact ⟨x,y,z,rfl,hls.1,hls.2.1,hls.2.2.1⟩
   | [],hls=>exact hls.elim
   | [_],hls=>exact hls.2.elim
   | [_,_],hls=>exact hls.2.2.elim
   | _ :: _ :: _ :: _ :: _,hls=>exact hls.2.2.2.elim
  obtain ⟨row',es',u,e1,e2,e3,e4,e5⟩:=hb0
  rw[hrow] at e1
  cases e1
  simp only[T.at?,Option.some.injEq,T.sl.injEq,true_and] at e2
  subst e2
  simp only[valAt,Option.some.injEq] at e3
  subst e3
  have hbr:Rep w false bv (.sl 1 es) fun b=>b ≠ g.bx k:=by
   have:=(fU m hbox hrow).view e5 (by simp[hn])
   rwa [hn,List.drop_zero,List.take_length] at this
  have hcur:Cur w (g.bx k) es bv:=⟨cs,e,u1,u2,i,h,hc,hcs,hbr,hi,hb1,hb2⟩
  have hbs:∃ oa cap,bv = .slice oa es.length cap:=by
   obtain ⟨_,_,cap,oa',_,hv',_⟩:=e5
   exact ⟨oa',_,by rw[hv',hn]⟩
  refine Calls.mono (hpd.2 w (g.bx k) bv us hcur hbs h1 fun j t v ht hv=>nT m hbox hus hden j t v ht hv) fun e w' he=>?_
  cases e with
  | panicked=>exact he
  | outgrown=>exact he
  | returned q =>
   obtain ⟨hsiz,hold,hos,htape,hout,⟨bv',hvw,cs',e',u1',u2',i',h',hc',hcs',hbr',hi',hr1,hr2⟩,x,hx,us',rfl,hsh,F,hF,hlo,hdis⟩:=he
   let G:Nat → Blks:=fun j b=>F j b ∧ b < w'.heap.size
   let g':Gh:=⟨g.bx,fun k=>if σ.nxt ≤ k ∧ k < σ.nxt + (flatA (res x)).length then (flatU us').getD (k - σ.nxt) undef else g.rw k,fun k=>if σ.nxt ≤ k ∧ k < σ.nxt + (flatA (res x)).length then G (k - σ.nxt) else g.fp k⟩
   have hfl:=bA hsh
   have hfr':∀ j,j < (flatA (res x)).length → get σ.row (σ.nxt + j) = none:=fun j _=>kS hfr _ (by omega)
   have hrow':∀ r row,get (rowsN .own σ.nxt (flatA (res x))) r = some row → row.pm = .own ∧ σ.nxt ≤ r ∧ r < σ.nxt + (flatA (res x)).length ∧ (flatA (res x))[r - σ.nxt]? = some (.sl row.z row.es):=by
    intro r row hr
    rw[aV] at hr
    split at hr
    ·rename_i hle
     split at hr
     ·rename_i z es he
      simp only[Option.some.injEq] at hr
      subst hr
      have:=(List.getElem?_eq_some_iff.1 he).1
      exact ⟨rfl,hle,by omega,he⟩
     ·cases hr
    ·cases hr
   have hnew:∀ k row,get (rowsN .own σ.nxt (flatA (res x))) k = some row → get σ.row k = none:=by
    intro k row hk
    obtain ⟨_,h1,h2,_⟩:=hrow' k row hk
    have:=hfr' (k - σ.nxt) (by omega)
    rwa [Nat.add_sub_cancel' h1] at this
   have hnot:∀ r,(get σ.row r).isSome → ¬ (σ.nxt ≤ r ∧ r < σ.nxt + (flatA (res x)).length):=by
    rintro r hr ⟨h1,h2⟩
    have:=hfr' (r - σ.nxt) (by omega)
    rw[Nat.add_sub_cancel' h1] at this
    rw[this] at hr
    cases hr
   have hrwr:g'.rw r = g.rw r:=by
    have:=hnot r (by simp[hrow])
    simp only[g',this,if_false]
   have hklt:g.bx k < w.heap.size:=m.lt _ (Or.inl ⟨k,_,hbox,rfl⟩)
   have hrowr:get (σ.drawn k [.ref r [] 1 0 n,.t (.int .i64 i'),.t (.int .i64 h')] (res x)).row r = some ⟨pm,1,es⟩:=by
    simp only[St.drawn,get_append]
    cases hq:get (rowsN .own σ.nxt (flatA (res x))) r with
    | none=>exact hrow
    | some row=>have:=hnew r row hq;rw[hrow] at this;cases this
   have hgb:∀ k' ls,get [(k,[L.ref r [] 1 0 n,.t (.int .i64 i'),.t (.int .i64 h')])] k' = some ls → k' = k ∧ [L.ref r [] 1 0 n,.t (.int .i64 i'),.t (.int .i64 h')] = ls:=fun k' ls h=>bz h
   have hin:NewIn w w' g g' σ (σ.drawn k [.ref r [] 1 0 n,.t (.int .i64 i'),.t (.int .i64 h')] (res x)) [] [k] (rowsN .own σ.nxt (flatA (res x))) [(k,[.ref r [] 1 0 n,.t (.int .i64 i'),.t (.int .i64 h')])] (fun _=>false):=by
    refine ⟨by simp[St.drawn,bw],by simp[St.drawn,cD],fun b hb hp=>hold b hb fun e=>hp (Or.inr ⟨k,_,by simp,hbox,e.symm⟩),hsiz,fun r _ hr=>?_,fun _ _ _=>rfl,fun k row hk=>Or.inr (hnew k row hk),fun k' ls hk=>?_,?_,?_,?_,?_,fun k' ls hk=>?_,?_,fun k' ls r row hk hr _ hb=>?_,fun k1 k2 ls ls' hk hk' _=>?_,fun k' ls hk=>?_,fun _ _ r p _ _ h=>by simp at h,fun l _ b _ _ hb=>?_⟩
    ·have:=hnot r hr
     simp only[g',this,if_false,and_self]
    ·exact Or.inl (by simp[(hgb k' ls hk).1])
    ·intro k row hk _
     obtain ⟨_,h1,h2,h3⟩:=hrow' k row hk
     have hc:σ.nxt ≤ k ∧ k < σ.nxt + (flatA (res x)).length:=⟨h1,h2⟩
     have hlt:k - σ.nxt < (flatU us').length:=by omega
     have hv:(flatU us')[k - σ.nxt]? = some ((flatU us').getD (k - σ.nxt) undef):=by simp[List.getD_eq_getElem?_getD,List.getElem?_eq_getElem hlt]
     simp only[g',hc,and_self,if_true]
     obtain ⟨H,hH,hs,hlt'⟩:=(hF _ _ _ h3 hv).lt
     exact hH.mono fun b hb=>⟨hs b hb,hlt' b hb⟩
    ·intro k row hk hp;rw[(hrow' k row hk).1] at hp;cases hp
    ·intro k row hk hp;rw[(hrow' k row hk).1] at hp;cases hp
    ·intro k row b hk _ hb
     obtain ⟨_,h1,h2,h3⟩:=hrow' k row hk
     have hc:σ.nxt ≤ k ∧ k < σ.nxt + (flatA (res x)).length:=⟨h1,h2⟩
     simp only[g',hc,and_self,if_true] at hb
     exact ⟨Or.inr (hlo _ b hb.1),hb.2⟩
    ·obtain ⟨rfl,_⟩:=hgb k' ls hk
     exact ⟨Or.inl (Or.inr ⟨k',_,by simp,hbox,rfl⟩),Nat.lt_of_lt_of_le hklt hsiz⟩
    ·intro r r' row row' b hr hr' _ _ hb hb'
     obtain ⟨_,h1,h2,_⟩:=hrow' r row hr
     obtain ⟨_,h3,h4,_⟩:=hrow' r' row' hr'
     have hc:σ.nxt ≤ r ∧ r < σ.nxt + (flatA (res x)).length:=⟨h1,h2⟩
     have hc':σ.nxt ≤ r' ∧ r' < σ.nxt + (flatA (res x)).length:=⟨h3,h4⟩
     simp only[g',hc,hc',and_self,if_true] at hb hb'
     have:=hdis _ _ b hb.1 hb'.1
     omega
    ·obtain ⟨rfl,_⟩:=hgb k' ls hk
     obtain ⟨_,h1,h2,_⟩:=hrow' r row hr
     have hc:σ.nxt ≤ r ∧ r < σ.nxt + (flatA (res x)).length:=⟨h1,h2⟩
     simp only[g',hc,and_self,if_true] at hb
     have:=hlo _ _ hb.1
     omega
    ·rw[(hgb k1 ls hk).1,(hgb k2 ls' hk').1]
    ·obtain ⟨rfl,rfl⟩:=hgb k' ls hk
     refine ⟨cs',e',hc',?_⟩
     rw[hcs']
     refine ⟨⟨_,es,g.rw r,hrowr,rfl,by simp[valAt,hrwr],by simp[hn],?_⟩,hr1,hr2,trivial⟩
     rw[hn]
     exact (hn ▸ e5).comp hvw
    ·have:b = k:=by simpa using hb
     subst this
     exact ⟨by simp[get],rfl⟩
   have R':=R.turn hin ⟨by rw[bD];rfl,(bK _).symm⟩ hos htape hout
   refine ⟨_,g',v x,R',?_,hK i' h' hi' x hx,fun e=>by cases e⟩
   refine fB (hv x) (bV hsh fun j t u ht hu=>bI (hF j t u ht hu) fun z es e=>?_)
   subst e
   have hj:j < (flatA (res x)).length:=(List.getElem?_eq_some_iff.1 ht).1
   have hc:σ.nxt ≤ σ.nxt + j ∧ σ.nxt + j < σ.nxt + (flatA (res x)).length:=⟨by omega,by omega⟩
   refine ⟨⟨.own,z,es⟩,?_,rfl,rfl,?_⟩
   ·simp only[St.drawn,get_append,aV,Nat.le_add_right,if_true,Nat.add_sub_cancel_left,ht]
   ·simp only[g',hc,and_self,if_true,Nat.add_sub_cancel_left,List.getD_eq_getElem?_getD,hu,Option.getD_some]
end
def St.startD (a0:Act) (es:Els) (i h:Int) (args:List A):St :=
 { env:=(0,true,.l (.ptr 0 0)) :: paramsE 1 (valsN 1 args),box:=[(0,[.ref 0 [] 1 0 es.length,.t (.int .i64 i),.t (.int .i64 h)])],row:=(0,⟨.ro,1,es⟩) :: rowsN .ro 1 (flatA args),nxt:=(flatA args).length + 1,sav:=[([(0,true,.l (.ptr 0 0)),(1,true,.l (.ref 0 [] 1 0 es.length))],a0)] }
def CurO (a0:Act) (es:Els) (σ:St):Prop:=∃ env' k r n i h pm,σ.sav = [(env',a0)] ∧ get env' 0 = some (true,.l (.ptr k 0)) ∧ get env' 1 = some (true,.l (.ref r [] 1 0 n)) ∧
 get σ.box k = some [.ref r [] 1 0 n,.t (.int .i64 i),.t (.int .i64 h)] ∧ get σ.row r = some ⟨pm,1,es⟩ ∧ n = es.length ∧ 0 ≤ i
def OutD {α:Type} (P:Program) (rs:List ResultVar) (a0:Act) (es:Els) (Q:α → Prop) (res:α → List A) (e:Exit) (σ:St):Prop:=(∃ x,Q x ∧ OutN P rs (res x) e σ) ∧ CurO a0 es σ
section
variable {P:Program} {w0 w w':World} {Al:Blks} {N:Nat} {g:Gh} {σ σ':St} {a:Act}
theorem iD {α:Type} {f:FuncId} {fn:Func} {c:Code} {es:Els} {args:List A} {Q:α → Prop} {res:α → List A} (hf:P.funcs[f]? = some fn) (hb:fn.body = some c) (hn:(fn.name == "runtime.NumGoroutine") = false) {n:Nat} (hnt:fn.ntmps = n) {rs:List ResultVar} (hrs:fn.results.toList = rs) (hl:args.length + 1 ≤ n)
  (h:∀ a0 i h,0 ≤ i → W P n c (OutD P rs a0 es Q res) (St.startD a0 es i h args)):PD P f es args Q res:=by
 subst hnt hrs
 refine ⟨⟨fn,hf,by simp[hb],hn⟩,fun w c bv vs hcur hbs hsh hrep=>calls_of_wp hf hb ?_⟩
 obtain ⟨cs,ce,u1,u2,i,hh,hc,hcs,hbr,hi,hr1,hr2⟩:=hcur
 obtain ⟨oa,cap,hbv⟩:=hbs
 let g:Gh:=⟨fun _=>c,fun k=>if k = 0 then bv else (flatU vs).getD (k - 1) undef,fun _ _=>False⟩
 let a0:Act:={ tmps:=#[Value.pointer (some ⟨c,0,none⟩),bv],defers:=[] }
 have hfl:=bA hsh
 have hclt:c < w.heap.size:=(Array.getElem?_eq_some_iff.1 hc).1
 have hrow:∀ r row,get (St.startD a0 es i hh args).row r = some row → row.pm = .ro ∧ ((r = 0 ∧ row = ⟨.ro,1,es⟩) ∨ (r ≠ 0 ∧ (flatA args)[r - 1]? = some (.sl row.z row.es))):=by
  intro r row hr
  simp only[St.startD,get] at hr
  split at hr
  ·rename_i e
   simp only[Option.some.injEq] at hr
   subst hr
   exact ⟨rfl,Or.inl ⟨e,rfl⟩⟩
  ·rename_i e
   rw[aV] at hr
   split at hr
   ·split at hr
    ·rename_i z es he
     simp only[Option.some.injEq] at hr
     subst hr
     exact ⟨rfl,Or.inr ⟨e,he⟩⟩
    ·cases hr
   ·cases hr
 have hbox:∀ k ls,get (St.startD a0 es i hh args).box k = some ls → k = 0 ∧ [L.ref 0 [] 1 0 es.length,.t (.int .i64 i),.t (.int .i64 hh)] = ls:=fun k ls h=>bz h
 have hown:∀ b,Owned g (St.startD a0 es i hh args) b → b = c:=by
  rintro b (⟨k,ls,h1,h2⟩ | ⟨r,row,h1,h2,_⟩)
  ·exact h2.symm
  ·exact absurd (hrow r row h1).1 h2
 have hno:∀ b,b ≠ c → ¬ Owned g (St.startD a0 es i hh args) b:=fun b hb ho=>hb (hown b ho)
 have hrow0:get (St.startD a0 es i hh args).row 0 = some ⟨.ro,1,es⟩:=by simp[St.startD,get]
 have hbref:RepL w g (St.startD a0 es i hh args) (.ref 0 [] 1 0 es.length) bv:=by
  refine ⟨_,es,bv,hrow0,rfl,by simp[valAt,g],by simp,?_⟩
  rw[hbv]
  exact View.whole _ _ _ _ _
 have hptr:RepL w g (St.startD a0 es i hh args) (.ptr 0 0) (.pointer (some ⟨c,0,none⟩)):=⟨by simp[St.startD,get],rfl⟩
 have hvals:RepVs w g (St.startD a0 es i hh args) (valsN 1 args) vs:=by
  refine bV hsh fun j t v ht hv=>?_
  refine bI (hrep j t v ht hv) fun z es' e=>?_
  subst e
  refine ⟨⟨.ro,z,es'⟩,?_,rfl,rfl,?_⟩
  ·have:1 + j ≠ 0:=by omega
   simp only[St.startD,get,this,if_false,aV,Nat.le_add_right,if_true,Nat.add_sub_cancel_left,ht]
  ·have:1 + j ≠ 0:=by omega
   simp[g,hv]
 have hlen:=hvals.length
 have hal:args.length = vs.length:=hsh.length
 have R:Rel w (fun b=>b = c) fn.ntmps (St.startD a0 es i hh args) { tmps:=(Value.pointer (some ⟨c,0,none⟩) :: vs).toArray ++ Array.replicate (fn.ntmps - (Value.pointer (some ⟨c,0,none⟩) :: vs).toArray.size) undef,defers:=[] } w g:=by
  refine ⟨⟨fun t c' v hg hc'=>?_,fun t c' v hg hc'=>?_⟩,?_,⟨?_,?_,?_,?_,?_,?_,?_,fun b hb=>by rw[hown b hb];exact hclt⟩,fun b hb=>Or.inr (hown b hb),fun _ _ _=>rfl,Nat.le_refl _,rfl,rfl,rfl,rfl,by simp;omega,fun x hx=>?_⟩
  ·simp only[St.startD,get] at hg
   split at hg
   ·rename_i e
    subst e
    simp only[Option.some.injEq,Prod.mk.injEq] at hg
    obtain ⟨_,rfl⟩:=hg
    have:((Value.pointer (some ⟨c,0,none⟩) :: vs).toArray ++ Array.replicate (fn.ntmps - (Value.pointer (some ⟨c,0,none⟩) :: vs).toArray.size) undef).getD 0 undef = Value.pointer (some ⟨c,0,none⟩):=by
     rw[Array.getD_eq_getD_getElem?,Array.getElem?_append_left (by simp)]
     simp
    rw[this]
    exact hptr
   ·obtain ⟨_,h2,h3⟩:=bj _ 1 t c' v hg
    obtain ⟨u,hu,hr⟩:=hvals.nth (j:=t - 1) h3
    have hlt:t - 1 < vs.length:=(List.getElem?_eq_some_iff.1 hu).1
    have:((Value.pointer (some ⟨c,0,none⟩) :: vs).toArray ++ Array.replicate (fn.ntmps - (Value.pointer (some ⟨c,0,none⟩) :: vs).toArray.size) undef).getD t undef = u:=by
     rw[Array.getD_eq_getD_getElem?,Array.getElem?_append_left (by simp;omega)]
     have e:t = (t - 1) + 1:=by omega
     rw[e]
     simp[hu]
    rw[this]
    exact hr
  ·simp only[St.startD,get] at hg
   split at hg
   ·simp only[Option.some.injEq,Prod.mk.injEq] at hg
    rw[hc'] at hg
    cases hg.1
   ·have:=(bj _ 1 t c' v hg).1
    rw[hc'] at this
    cases this
  ·refine List.pairwise_cons.2 ⟨fun y hy=>?_,cE _ 1⟩
   have:=dp _ 1 y.1 y.2 hy
   simp only
   omega
  ·intro k ls h
   obtain ⟨rfl,rfl⟩:=hbox k ls h
   refine ⟨cs,ce,hc,?_⟩
   rw[hcs]
   exact ⟨hbref,hr1,hr2,trivial⟩
  ·intro r row h hp;rw[(hrow r row h).1] at hp;cases hp
  ·intro r row h hp;rw[(hrow r row h).1] at hp;cases hp
  ·intro r row h hp
   rcases (hrow r row h).2 with ⟨rfl,rfl⟩ | ⟨hr0,ht⟩
   ·simp only[g,if_true]
    exact hbr.mono fun b hb=>hno b hb
   ·have hlt:r - 1 < (flatU vs).length:=by rw[hfl];exact (List.getElem?_eq_some_iff.1 ht).1
    have hv:(flatU vs)[r - 1]? = some ((flatU vs).getD (r - 1) undef):=by simp[List.getD_eq_getElem?_getD,List.getElem?_eq_getElem hlt]
    simp only[g,hr0,if_false]
    exact (hrep _ _ _ ht hv).mono fun b hb=>hno b hb
  ·intro k k' ls ls' h h' _
   rw[(hbox k ls h).1,(hbox k' ls' h').1]
  ·intro k ls r row _ h hp;exact absurd (hrow r row h).1 hp
  ·intro r r' row row' b h _ hp;exact absurd (hrow r row h).1 hp
  ·simp only[St.startD,List.mem_singleton] at hx
   subst hx
   refine ⟨fun t c' v hg hc'=>?_,fun t c' v hg hc'=>?_,by simp⟩
   ·simp only[get] at hg
    split at hg
    ·rename_i e
     subst e
     simp only[Option.some.injEq,Prod.mk.injEq] at hg
     obtain ⟨_,rfl⟩:=hg
     exact hptr
    ·split at hg
     ·rename_i e
      subst e
      simp only[Option.some.injEq,Prod.mk.injEq] at hg
      obtain ⟨_,rfl⟩:=hg
      exact hbref
     ·cases hg
   ·simp only[get] at hg
    split at hg
    ·simp only[Option.some.injEq,Prod.mk.injEq] at hg
     rw[hc'] at hg
     cases hg.1
    ·split at hg
     ·simp only[Option.some.injEq,Prod.mk.injEq] at hg
      rw[hc'] at hg
      cases hg.1
     ·cases hg
 refine wp_mono (h a0 i hh hi w _ _ w g R) fun e a' w' ⟨σ',g',R',hK,hO⟩=>?_
 obtain ⟨he,x,hx,us,hr,hS,F,q1,q2,q3⟩:=pP R' hK
 obtain ⟨env',k,r,n,i',h',pm,o1,o2,o3,o4,o5,o6,o7⟩:=hO
 obtain ⟨s1,_,_⟩:=R'.sav (env',a0) (by rw[o1];simp)
 have p1:Value.pointer (some ⟨c,0,none⟩) = .pointer (some ⟨g'.bx k,0,none⟩):=(s1 0 true _ o2 rfl).2
 have hkc:g'.bx k = c:=by simpa using p1.symm
 have p2:RepL w' g' σ' (.ref r [] 1 0 n) bv:=s1 1 true _ o3 rfl
 obtain ⟨cs',ce',hc',hls⟩:=R'.mem.box k _ o4
 obtain ⟨bv',u1',u2',hcs',hb0,hb1,hb2⟩:∃ bv u1 u2,cs'.toList = [bv,u1,u2] ∧ RepL w' g' σ' (.ref r [] 1 0 n) bv ∧ RepL w' g' σ' (.t (.int .i64 i')) u1 ∧ RepL w' g' σ' (.t (.int .i64 h')) u2:=by
  match hq:cs'.toList,hls with
  | [x,y,z],hls=>exact ⟨x,y,z,rfl,hls.1,hls.2.1,hls.2.2.1⟩
  | [],hls=>exact hls.elim
  | [_],hls=>exact hls.2.elim
  | [_,_],hls=>exact hls.2.2.elim
  | _ :: _ :: _ :: _ :: _,hls=>exact hls.2.2.2.elim
 have hfin:∃ bv',View bv 1 0 es.length bv' ∧ Cur w' c es bv':=by
  obtain ⟨row1,e1,u1,d1,d2,d3,_,d5⟩:=p2
  obtain ⟨row2,e2,u2,f1,f2,f3,_,f5⟩:=hb0
  rw[o5] at d1 f1
  cases d1
  cases f1
  simp only[T.at?,Option.some.injEq,T.sl.injEq,true_and] at d2 f2
  subst d2
  simp only[valAt,Option.some.injEq] at d3 f3
  subst d3
  subst f3
  refine ⟨bv',o6 ▸ d5.both f5,cs',ce',u1',u2',i',h',hkc ▸ hc',hcs',?_,o7,hb1,hb2⟩
  have:=(fU R'.mem o4 o5).view f5 (by simp[o6])
  rw[o6,List.drop_zero,List.take_length,hkc] at this
  exact this
 have fin:a'.defers = [] ∧ ∃ v,(results fn a'.tmps).run P w' = .ok v w' ∧ (w.heap.size ≤ w'.heap.size ∧ (∀ b,b < w.heap.size → b ≠ c → w'.heap[b]? = w.heap[b]?) ∧ w'.os = w.os ∧ w'.tape = w.tape ∧ w'.output = w.output ∧
   (∃ bv',View bv 1 0 es.length bv' ∧ Cur w' c es bv') ∧
   ∃ x,Q x ∧ ∃ us,v = oneU us ∧ Shapes (res x) us ∧ ∃ F:Nat → Blks,(∀ (j:Nat) t v,(flatA (res x))[j]? = some t → (flatU us)[j]? = some v → Rep w' true v t (F j)) ∧ (∀ j b,F j b → w.heap.size ≤ b) ∧ ∀ j j' b,F j b → F j' b → j = j'):=by
  refine ⟨R'.dfr,_,hr,R'.siz,fun b hb hbc=>R'.frm b hb hbc,R'.os,R'.tape,R'.out,hfin,x,hx,us,rfl,hS,F,q1,fun j b hb=>?_,q3⟩
  obtain ⟨r',row,h1,h2,h3⟩:=q2 j b hb
  rcases R'.own b (Or.inr ⟨r',row,h1,by simp[h2],h3⟩) with h | h
  ·exact h
  ·subst h
   exact absurd (hkc ▸ h3) (R'.mem.br k _ r' row o4 h1 (by simp[h2]))
 rcases he with rfl | rfl
 ·exact fin
 ·exact fin
end
attribute [go_sem] OutD CurO St.startD St.drawn
def PNew (P:Program) (f:FuncId) (es:Els):Prop :=
 Ours P f ∧ ∀ w bv,Rep w false bv (.sl 1 es) (fun _=>True) → (∃ oa cap,bv = .slice oa es.length cap) → Calls P f #[bv] w fun
  | .returned r,w'=>w.heap.size ≤ w'.heap.size ∧ (∀ b,b < w.heap.size → w'.heap[b]? = w.heap[b]?) ∧ w'.os = w.os ∧ w'.tape = w.tape ∧ w'.output = w.output ∧
    ∃ c cs e bv' u1 u2 h,r = .pointer (some ⟨c,0,none⟩) ∧ w.heap.size ≤ c ∧ c < w'.heap.size ∧ w'.heap[c]? = some (.cells cs e (0,0)) ∧ cs.toList = [bv',u1,u2] ∧ View bv 1 0 es.length bv' ∧
     Rep w' false u1 (.int .i64 0) (fun _=>False) ∧ Rep w' false u2 (.int .i64 h) fun _=>False
  | _,_=>False
def St.startN (a0:Act) (es:Els):St :=
 { env:=[(0,true,.l (.ref 0 [] 1 0 es.length))],box:=[],row:=[(0,⟨.ro,1,es⟩)],nxt:=1,sav:=[([(0,true,.l (.ref 0 [] 1 0 es.length))],a0)] }
def OutNew (a0:Act) (es:Els) (t:Nat):Exit → St → Prop
 | .normal,σ | .ret,σ=>∃ env' k r n h,σ.sav = [(env',a0)] ∧ get env' 0 = some (true,.l (.ref r [] 1 0 n)) ∧ get σ.env t = some (true,.l (.ptr k 0)) ∧ get σ.box k = some [.ref r [] 1 0 n,.t (.int .i64 0),.t (.int .i64 h)] ∧ n = es.length
 | _,_=>False
def St.newcur (σ:St) (r n:Nat) (h:Int):St:={ σ with box:=(σ.nxt,[.ref r [] 1 0 n,.t (.int .i64 0),.t (.int .i64 h)]) :: σ.box,nxt:=σ.nxt + 1 }
section
variable {P:Program} {w0 w w':World} {Al:Blks} {N:Nat} {g:Gh} {σ σ':St} {a:Act}
theorem PNew_of {f:FuncId} {fn:Func} {c:Code} {es:Els} (hf:P.funcs[f]? = some fn) (hb:fn.body = some c) (hn:(fn.name == "runtime.NumGoroutine") = false) {n t:Nat} (hnt:fn.ntmps = n) (hrs:fn.results.toList = [.tmp t]) (hl:1 ≤ n)
  (h:∀ a0,W P n c (OutNew a0 es t) (St.startN a0 es)):PNew P f es:=by
 subst hnt
 refine ⟨⟨fn,hf,by simp[hb],hn⟩,fun w bv hrep hbs=>calls_of_wp hf hb ?_⟩
 obtain ⟨oa,cap,hbv⟩:=hbs
 let g:Gh:=⟨fun _=>0,fun _=>bv,fun _ _=>False⟩
 let a0:Act:={ tmps:=#[bv] ++ Array.replicate (fn.ntmps - 1) undef,defers:=[] }
 have hslot:a0.tmps.getD 0 undef = bv:=by
  simp only[a0]
  rw[Array.getD_eq_getD_getElem?,Array.getElem?_append_left (by simp)]
  simp
 have hrow:∀ r row,get (St.startN a0 es).row r = some row → r = 0 ∧ row = ⟨.ro,1,es⟩:=fun r row h=>by
  obtain ⟨h1,h2⟩:=bz h
  exact ⟨h1,h2.symm⟩
 have hown:∀ b,¬ Owned g (St.startN a0 es) b:=by
  rintro b (⟨k,ls,h1,_⟩ | ⟨r,row,h1,h2,_⟩)
  ·simp[St.startN,get] at h1
  ·rw[(hrow r row h1).2] at h2;exact h2 rfl
 have hleaf:RepL w g (St.startN a0 es) (.ref 0 [] 1 0 es.length) bv:=by
  refine ⟨⟨.ro,1,es⟩,es,bv,by simp[St.startN,get],rfl,by simp[valAt,g],by simp,?_⟩
  rw[hbv]
  exact View.whole _ _ _ _ _
 have R:Rel w (fun _=>False) fn.ntmps (St.startN a0 es) a0 w g:=by
  refine ⟨⟨fun t c u hg hc=>?_,fun t c u hg hc=>?_⟩,by simp[St.startN],⟨?_,?_,?_,?_,?_,?_,?_,fun b hb=>(hown b hb).elim⟩,fun b hb=>(hown b hb).elim,fun _ _ _=>rfl,Nat.le_refl _,rfl,rfl,rfl,rfl,by simp[a0];omega,fun x hx=>?_⟩
  ·obtain ⟨rfl,e⟩:=bz hg
   simp only[Prod.mk.injEq] at e
   obtain ⟨_,rfl⟩:=e
   rw[hslot]
   exact hleaf
  ·obtain ⟨rfl,e⟩:=bz hg
   simp only[Prod.mk.injEq] at e
   rw[hc] at e
   cases e.1
  ·intro k ls h;simp[St.startN,get] at h
  ·intro r row h hp;rw[(hrow r row h).2] at hp;cases hp
  ·intro r row h hp;rw[(hrow r row h).2] at hp;cases hp
  ·intro r row h hp
   obtain ⟨rfl,rfl⟩:=hrow r row h
   exact hrep.mono fun b _=>hown b
  ·intro k k' ls ls' h;simp[St.startN,get] at h
  ·intro k ls r row h;simp[St.startN,get] at h
  ·intro r r' row row' b h _ hp;rw[(hrow r row h).2] at hp;exact absurd rfl hp
  ·simp only[St.startN,List.mem_singleton] at hx
   subst hx
   refine ⟨fun t c u hg hc=>?_,fun t c u hg hc=>?_,by simp⟩
   ·obtain ⟨rfl,e⟩:=bz hg
    simp only[Prod.mk.injEq] at e
    obtain ⟨_,rfl⟩:=e
    rw[hslot]
    exact hleaf
   ·obtain ⟨rfl,e⟩:=bz hg
    simp only[Prod.mk.injEq] at e
    rw[hc] at e
    cases e.1
 have ha0:({ tmps:=#[bv] ++ Array.replicate (fn.ntmps - #[bv].size) undef,defers:=[] }:Act) = a0:=rfl
 rw[ha0]
 refine wp_mono (h a0 w _ _ w g R) fun e a' w' ⟨σ',g',R',hK⟩=>?_
 have fin:(∃ env' k r n h,σ'.sav = [(env',a0)] ∧ get env' 0 = some (true,.l (.ref r [] 1 0 n)) ∧ get σ'.env t = some (true,.l (.ptr k 0)) ∧ get σ'.box k = some [.ref r [] 1 0 n,.t (.int .i64 0),.t (.int .i64 h)] ∧ n = es.length) →
   a'.defers = [] ∧ ∃ v,(results fn a'.tmps).run P w' = .ok v w' ∧ (w.heap.size ≤ w'.heap.size ∧ (∀ b,b < w.heap.size → w'.heap[b]? = w.heap[b]?) ∧ w'.os = w.os ∧ w'.tape = w.tape ∧ w'.output = w.output ∧
    ∃ c cs e bv' u1 u2 h,v = .pointer (some ⟨c,0,none⟩) ∧ w.heap.size ≤ c ∧ c < w'.heap.size ∧ w'.heap[c]? = some (.cells cs e (0,0)) ∧ cs.toList = [bv',u1,u2] ∧ View bv 1 0 es.length bv' ∧
     Rep w' false u1 (.int .i64 0) (fun _=>False) ∧ Rep w' false u2 (.int .i64 h) fun _=>False):=by
  rintro ⟨env',k,r,n,h',o1,o2,o3,o4,o5⟩
  obtain ⟨us,hr,hus⟩:=jP (P:=P) (a:=a') (fn:=fn) (c:=true = true ∧ True) (vs:=[.l (.ptr k 0)]) R'.mem R'.slots (by rw[hrs];simp[resV,o3]) ⟨rfl,trivial⟩
  match us,hus with
  | [u],hus =>
   obtain ⟨_,hu⟩:(get σ'.box k).isSome ∧ u = .pointer (some ⟨g'.bx k,0,none⟩):=hus.1
   obtain ⟨s1,_,_⟩:=R'.sav (env',a0) (by rw[o1];simp)
   have p2:RepL w' g' σ' (.ref r [] 1 0 n) bv:=by
    have:=s1 0 true _ o2 rfl
    rwa [hslot] at this
   obtain ⟨cs',ce',hc',hls⟩:=R'.mem.box k _ o4
   obtain ⟨bv',u1',u2',hcs',hb0,hb1,hb2⟩:∃ bv u1 u2,cs'.toList = [bv,u1,u2] ∧ RepL w' g' σ' (.ref r [] 1 0 n) bv ∧ RepL w' g' σ' (.t (.int .i64 0)) u1 ∧ RepL w' g' σ' (.t (.int .i64 h')) u2:=by
    match hq:cs'.toList,hls with
    | [x,y,z],hls=>exact ⟨x,y,z,rfl,hls.1,hls.2.1,hls.2.2.1⟩
    | [],hls=>exact hls.elim
    | [_],hls=>exact hls.2.elim
    | [_,_],hls=>exact hls.2.2.elim
    | _ :: _ :: _ :: _ :: _,hls=>exact hls.2.2.2.elim
   have ho:Owned g' σ' (g'.bx k):=Or.inl ⟨k,_,o4,rfl⟩
   refine ⟨R'.dfr,_,hr,R'.siz,fun b hb=>R'.frm b hb fun h=>h,R'.os,R'.tape,R'.out,g'.bx k,cs',ce',bv',u1',u2',h',hu ▸ rfl,(R'.own _ ho).resolve_right fun h=>h,R'.mem.lt _ ho,hc',hcs',?_,hb1,hb2⟩
   obtain ⟨row1,e1,x1,d1,d2,d3,_,d5⟩:=p2
   obtain ⟨row2,e2,x2,f1,f2,f3,_,f5⟩:=hb0
   rw[d1] at f1
   cases f1
   simp only[valAt,Option.some.injEq] at d3 f3
   subst d3
   subst f3
   exact o5 ▸ d5.both f5
  | [],hus=>exact hus.elim
  | _ :: _ :: _,hus=>exact hus.2.elim
 cases e with
 | normal=>exact fin hK
 | ret=>exact fin hK
 | _=>exact hK.elim
theorem uf {f:FuncId} {es:Els} {K:St → V → Prop} {r n:Nat} {pm:Pm} (hp:PNew P f es) (hrow:get σ.row r = some ⟨pm,1,es⟩) (hn:n = es.length) (hbx:get σ.box σ.nxt = none)
  (hK:∀ h,K (σ.newcur r n h) (.l (.ptr σ.nxt 0))):CallW P false f [.l (.ref r [] 1 0 n)] K σ:=by
 refine ⟨hp.1,fun w0 Al N a w g us R hus=>?_⟩
 have m:=R.mem
 match us,hus with
 | [],hus=>exact hus.elim
 | _ :: _ :: _,hus=>exact hus.2.elim
 | [bv],hus =>
  obtain ⟨row',es',u,e1,e2,e3,e4,e5⟩:=hus.1
  rw[hrow] at e1
  cases e1
  simp only[T.at?,Option.some.injEq,T.sl.injEq,true_and] at e2
  subst e2
  simp only[valAt,Option.some.injEq] at e3
  subst e3
  have hbr:Rep w false bv (.sl 1 es) fun _=>True:=by
   have:=(m.reads hrow).view e5 (by simp[hn])
   rwa [hn,List.drop_zero,List.take_length] at this
  have hbs:∃ oa cap,bv = .slice oa es.length cap:=by
   obtain ⟨_,_,cap,oa',_,hv',_⟩:=e5
   exact ⟨oa',_,by rw[hv',hn]⟩
  refine Calls.mono (hp.2 w bv hbr hbs) fun e w' he=>?_
  cases e with
  | panicked=>exact he
  | outgrown=>exact he
  | returned q =>
   obtain ⟨hsiz,hold,hos,htape,hout,c,cs,ce,bv',u1,u2,h,rfl,hlo,hlt,hc,hcs,hvw,hr1,hr2⟩:=he
   let g':Gh:={ g with bx:=fun b=>if b = σ.nxt then c else g.bx b }
   have hin:NewIn w w' g g' σ (σ.newcur r n h) [] [] [] [(σ.nxt,[.ref r [] 1 0 n,.t (.int .i64 0),.t (.int .i64 h)])] (fun _=>false):=by
    have hgb:∀ k' ls,get [(σ.nxt,[L.ref r [] 1 0 n,.t (.int .i64 0),.t (.int .i64 h)])] k' = some ls → k' = σ.nxt ∧ [L.ref r [] 1 0 n,.t (.int .i64 0),.t (.int .i64 h)] = ls:=fun k' ls h=>bz h
    refine ⟨by simp[St.newcur,bw],by simp[St.newcur,bw,cD],fun b hb _=>hold b hb,hsiz,fun _ _ _=>⟨rfl,rfl⟩,fun b _ hb=>?_,fun k row h=>by simp[get] at h,fun k' ls hk=>?_,?_,?_,?_,?_,fun k' ls hk=>?_,?_,fun k' ls r row hk hr=>by simp[get] at hr,fun k1 k2 ls ls' hk hk' _=>?_,fun k' ls hk=>?_,fun _ _ r p _ _ h=>by simp at h,fun l _ b _ _ hb=>by simp at hb⟩
    ·simp only[g']
     rw[if_neg]
     intro e
     subst e
     rw[hbx] at hb
     cases hb
    ·rw[(hgb k' ls hk).1];exact Or.inr hbx
    ·intro k row h;simp[get] at h
    ·intro k row h;simp[get] at h
    ·intro k row h;simp[get] at h
    ·intro k row b h;simp[get] at h
    ·rw[(hgb k' ls hk).1]
     simp only[g',if_true]
     exact ⟨Or.inr hlo,hlt⟩
    ·intro r r' row row' b h;simp[get] at h
    ·rw[(hgb k1 ls hk).1,(hgb k2 ls' hk').1]
    ·obtain ⟨rfl,rfl⟩:=hgb k' ls hk
     refine ⟨cs,ce,by simpa [g'] using hc,?_⟩
     rw[hcs]
     exact ⟨⟨_,es,g.rw r,hrow,rfl,by simp[valAt,g'],by simp[hn],hn ▸ (hn ▸ e5).comp hvw⟩,hr1,hr2,trivial⟩
   have R':=R.turn hin ⟨by rw[bD];rfl,(bK _).symm⟩ hos htape hout
   exact ⟨_,g',.l (.ptr σ.nxt 0),R',⟨by simp[St.newcur,get],by simp[g']⟩,hK h,fun e=>by cases e⟩
theorem mW {α:Type} [Inhabited α] {f:FuncId} {es:Els} {args:List A} {Q:α → Prop} {res:α → List A} {vs:List V} {c:Prop} {G:Bool} {d:Option Nat} {next:St → Prop} {k r n:Nat} {i h:Int} {pm:Pm} (hpd:G = true → PD P f es args Q res)
  (hc:G = true → c) (hbox:get σ.box k = some [.ref r [] 1 0 n,.t (.int .i64 i),.t (.int .i64 h)]) (hrow:get σ.row r = some ⟨pm,1,es⟩) (hn:n = es.length) (hi:0 ≤ i) (hden:G = true → denVs σ vs args) (v:α → V) (hv:∀ x,oneV (valsN σ.nxt (res x)) = some (v x))
  (hfr:σ.row.all (fun x=>decide (x.1 < σ.nxt)) = true) (hfl:∀ x,(flatA (res x)).all (fun t=>match t with | .sl ..=>false | _=>true) = true)
  (hK:∀ (i' h':Int),0 ≤ i' → ∀ x,(G = true → Q x) → next ((σ.drawn k [.ref r [] 1 0 n,.t (.int .i64 i'),.t (.int .i64 h')] (res x)).set d G (v x))):CallG P false f (.l (.ptr k 0) :: vs) c G d next σ:=by
 cases G with
 | true=>exact aj (hc rfl) (ax (hpd rfl) hbox hrow hn hi (hden rfl) v hv hfr fun i' h' hi' x hx=>hK i' h' hi' x fun _=>hx)
 | false =>
  refine ⟨_,v default,?_,fun _=>hK i h hi default (fun e=>by cases e),fun e=>by cases e⟩
  refine (Sub.num (σ.nxt + (flatA (res default)).length)).trans (Sub.same_get rfl rfl (fun q=>?_) fun q=>?_)
  ·simp only[St.drawn,jc _ _ _ (hfl default),List.nil_append]
  ·simp only[St.drawn,get,bq]
   by_cases e:q = k
   ·subst e;simp[hbox]
   ·simp[e]
theorem OutE_in {α:Type} {rs:List ResultVar} {Q:α → Prop} {res:α → List A} {e:Exit} (x:α) (hq:Q x) (h:OutN P rs (res x) e σ):OutE P rs Q res e σ:=⟨x,hq,h⟩
theorem bp {α:Type} {rs:List ResultVar} {a0:Act} {es:Els} {Q:α → Prop} {res:α → List A} {e:Exit} (x:α) (hq:Q x) (hc:CurO a0 es σ) (h:OutN P rs (res x) e σ):OutD P rs a0 es Q res e σ:=⟨⟨x,hq,h⟩,hc⟩
end
attribute [go_sem] St.startN OutNew St.newcur
theorem fE {P:Program} {t:Nat} {a0:Act} {es:Els} {Q:Int → Prop} {e:Exit} {σ:St} {y:Int} (he:e = .ret ∨ e = .normal) (hg:get σ.env t = some (true,.l (.t (.int .i64 y)))) (hq:Q y) (hc:CurO a0 es σ) :
  OutD P [.tmp t] a0 es Q (fun x:Int=>[(false,[.int .i64 x])]) e σ:=by
 refine ⟨⟨y,hq,?_⟩,hc⟩
 rcases he with rfl | rfl <;> simp[OutN,resV,hg,shapeVs,shapeV,takeLs,takeL,V.leaves,flatA,zOf]
theorem ug {a0:Act} {es:Els} {t:Nat} {σ:St} (h:∃ env' k r n h,σ.sav = [(env',a0)] ∧ get env' 0 = some (true,.l (.ref r [] 1 0 n)) ∧ get σ.env t = some (true,.l (.ptr k 0)) ∧ get σ.box k = some [.ref r [] 1 0 n,.t (.int .i64 0),.t (.int .i64 h)] ∧ n = es.length):OutNew a0 es t .ret σ:=h
theorem vy (x:BitVec 64):0 ≤ IntKind.wrap .i64 ((x &&& 255#64).toNat:Int) ∧ IntKind.wrap .i64 ((x &&& 255#64).toNat:Int) ≤ 255:=by
 (have h:(x &&& 255#64).toNat ≤ 255:=by rw[BitVec.toNat_and];exact Nat.and_le_right);rw[ap (by omega) (by omega)];omega
theorem uh {P:Program} {t:Nat} {a0:Act} {es:Els} {Q:Bool → Prop} {e:Exit} {σ:St} {y:Bool} (he:e = .ret ∨ e = .normal) (hg:get σ.env t = some (true,.l (.t (.bool y)))) (hq:Q y) (hc:CurO a0 es σ) :
  OutD P [.tmp t] a0 es Q (fun x:Bool=>[(false,[.bool x])]) e σ:=by
 refine ⟨⟨y,hq,?_⟩,hc⟩
 rcases he with rfl | rfl <;> simp[OutN,resV,hg,shapeVs,shapeV,takeLs,takeL,V.leaves,flatA,zOf]
theorem sN {x n:Int} (hx:0 ≤ x) (hn:0 < n):0 ≤ x.tmod n ∧ (x.tmod n < n ∨ n ≤ 0 ∧ x.tmod n = 0):=⟨Int.tmod_nonneg _ hx,Or.inl (Int.tmod_lt_of_pos _ hn)⟩
theorem vz {x y z w n:Int} (hx:0 ≤ x ∧ x ≤ 255) (hy:0 ≤ y ∧ y ≤ 255) (hz:0 ≤ z ∧ z ≤ 255) (hw:0 ≤ w ∧ w ≤ 255) (hn:0 < n) :
  0 ≤ (IntKind.wrap .i64 (IntKind.wrap .i64 (IntKind.wrap .i64 (IntKind.wrap .i64 (x * 16777216) + IntKind.wrap .i64 (y * 65536)) + IntKind.wrap .i64 (z * 256)) + w)).tmod n ∧
  ((IntKind.wrap .i64 (IntKind.wrap .i64 (IntKind.wrap .i64 (IntKind.wrap .i64 (x * 16777216) + IntKind.wrap .i64 (y * 65536)) + IntKind.wrap .i64 (z * 256)) + w)).tmod n < n ∨ n ≤ 0 ∧ (IntKind.wrap .i64 (IntKind.wrap .i64 (IntKind.wrap .i64 (IntKind.wrap .i64 (x * 16777216) + IntKind.wrap .i64 (y * 65536)) + IntKind.wrap .i64 (z * 256)) + w)).tmod n = 0):=by
 rw[ap (n:=x * 16777216) (by omega) (by omega),ap (n:=y * 65536) (by omega) (by omega),ap (n:=z * 256) (by omega) (by omega),ap (n:=x * 16777216 + y * 65536) (by omega) (by omega),ap (n:=x * 16777216 + y * 65536 + z * 256) (by omega) (by omega),ap (by omega) (by omega)]
 exact sN (by omega) hn
theorem W_seqJ {P:Program} {N:Nat} {K:Exit → St → Prop} {x y:Code} {σ:St} {α:Type} (I:α → St) (φ:α → Prop) (h1:W P N x (Then (fun σ'=>∃ p,φ p ∧ Sub σ' (I p)) K) σ) (h2:∀ p,φ p → W P N y K (I p)):W P N (.seq x y) K σ :=
 aa fun K' hK=>re h1 fun e σ' h=>by
  cases e with
  | normal=>obtain ⟨p,hp,hs⟩:=h;exact hK _ (iB hs (h2 p hp))
  | _=>exact h
def oneIf {α:Type} (b:Bool) (x:α):List α:=match b with | true=>[x] | false=>[]
structure OwnC (w:World) (vs:List Value) (ts:List T) (F:Nat → Blks):Prop where
 len:vs.length = ts.length
 rep:∀ (j:Nat) t v,ts[j]? = some t → vs[j]? = some v → Rep w true v t (F j)
 dis:∀ j j' x,F j x → F j' x → j = j'
def Hand (w:World) (b:Bool) (c:Nat) (u:Value) (cs:List Value) (ts:List T) (F:Nat → Blks):Prop :=
 OwnC w cs ts F ∧ match b with
 | true=>u = .pointer (some ⟨c,0,none⟩) ∧ (∃ e,w.heap[c]? = some (.cells cs.toArray e (0,0))) ∧ ∀ j,¬ F j c
 | false=>u = .agg cs.toArray
def PM (P:Program) (f:FuncId) (b:Bool) (ts:List T) (args:List A) (ts':List T) (res:List A):Prop :=
 Ours P f ∧ (b = false → ts' = []) ∧ ∀ w c u cs vs F,Hand w b c u cs ts F → (∀ j x,F j x → x < w.heap.size) → Shapes args vs →
  (∀ (j:Nat) t v,(flatA args)[j]? = some t → (flatU vs)[j]? = some v → Rep w false v t fun x=>(∀ j,¬ F j x) ∧ (b = true → x ≠ c)) →
  Calls P f (u :: vs).toArray w fun
  | .returned r,w'=>w.heap.size ≤ w'.heap.size ∧ (∀ x,x < w.heap.size → (∀ j,¬ F j x) → (b = true → x ≠ c) → w'.heap[x]? = w.heap[x]?) ∧ w'.os = w.os ∧ w'.tape = w.tape ∧ w'.output = w.output ∧
    ∃ us xs F',r = oneU us ∧ Shapes res us ∧ xs.length = ts'.length ∧ (b = true → ∃ e,w'.heap[c]? = some (.cells xs.toArray e (0,0))) ∧ OwnC w' (xs ++ flatU us) (ts' ++ flatA res) F' ∧
     ∀ j x,F' j x → ((∃ i,F i x) ∨ w.heap.size ≤ x) ∧ x < w'.heap.size ∧ (b = true → x ≠ c)
  | _,_=>False
def hand0 (b:Bool) (ts:List T):V:=match b with | true=>.l (.ptr 0 0) | false=>.agg (leavesN 0 ts)
def St.startP (b:Bool) (a0:Act) (ts:List T) (args:List A):St :=
 { env:=(0,true,hand0 b ts) :: paramsE 1 (valsN ts.length args),box:=oneIf b (0,leavesN 0 ts),row:=rowsN .own 0 ts ++ rowsN .ro ts.length (flatA args),nxt:=ts.length + (flatA args).length + 1,sav:=oneIf b ([(0,true,.l (.ptr 0 0))],a0) }
def boxL (σ:St) (b:Bool) (a0:Act) (ls:List L):Prop :=
 match b with
 | true=>∃ env' k,σ.sav = [(env',a0)] ∧ get env' 0 = some (true,.l (.ptr k 0)) ∧ get σ.box k = some ls
 | false=>ls = []
def OutP (P:Program) (rs:List ResultVar) (b:Bool) (a0:Act) (ts':List T) (res:List A):Exit → St → Prop
 | .normal,σ | .ret,σ=>∃ ls,boxL σ b a0 ls ∧ match resV P σ rs with
  | some (c,vs)=>c ∧ shapeVs res vs ∧ match takeLs σ ((ts' ++ flatA res).map zOf) (ls ++ vs.flatMap V.leaves) with
   | some (c',ts,_)=>c' ∧ ts = ts' ++ flatA res
   | none=>False
  | none=>False
 | _,_=>False
def St.moved (σ:St) (b:Bool) (k:Nat) (rs:List Nat) (ts':List T) (res:List A):St :=
 { env:=killE (hits rs) σ.env,sav:=killS (hits rs) σ.sav,box:=oneIf b (k,leavesN σ.nxt ts') ++ killB (hits rs) (del (oneIf b k) σ.box),row:=rowsN .own σ.nxt (ts' ++ flatA res) ++ del rs σ.row,nxt:=σ.nxt + (ts' ++ flatA res).length }
section
variable {P:Program} {w0 w w':World} {Al:Blks} {N:Nat} {g:Gh} {σ σ':St} {a:Act}
theorem vA {M:Blks} {σ0:St} (hsub:∀ r row,get σ0.row r = some row → get σ.row r = some row ∧ Rep w false (g.rw r) row.t M) {l:L} {t:T} {v:Value} (h:RepL w g σ l v) (hd:denL σ0 l t):Rep w false v t M:=by
 unfold denL at hd;split at hd
 ·subst hd;exact (show Rep w false v _ _ from h).mono fun b hb=>hb.elim
 ·subst hd;obtain ⟨oa,rfl⟩:=h;cases oa with
  | none=>exact .nils
  | some a=>exact .bare
 ·rename_i r p z off len z' es'
  obtain ⟨row,es0,u,e1,e2,e3,e4,e5⟩:=h;split at hd
  ·rename_i zz es1 hn
   obtain ⟨rfl,rfl⟩:=hd
   have hr0:∃ row0,get σ0.row r = some row0 ∧ row0.t.at? p = some (.sl zz es1):=by
    unfold nodeOf at hn;split at hn
    ·rename_i row0 hr0
     refine ⟨row0,hr0,?_⟩;split at hn
     ·rename_i z1 es2 ha
      simp only[Option.some.injEq,Prod.mk.injEq] at hn;rw[ha,hn.1,hn.2]
     ·cases hn
    ·cases hn
   obtain ⟨row0,hr0,hat⟩:=hr0;obtain ⟨h1,h2⟩:=hsub r row0 hr0;rw[e1] at h1;cases h1
   rw[e2] at hat;cases hat
   obtain ⟨u',hu',hru⟩:=h2.focus_ro e2;rw[e3] at hu';cases hu'
   exact hru.view e5 e4
  ·exact hd.elim
 ·exact .hole h
 ·exact hd.elim
theorem io {M:Blks} {σ0:St} (hsub:∀ r row,get σ0.row r = some row → get σ.row r = some row ∧ Rep w false (g.rw r) row.t M):∀ {ls:List L} {ts:List T} {vs:List Value},RepLs w g σ ls vs → denLs σ0 ls ts →
  vs.length = ts.length ∧ ∀ (j:Nat) t v,ts[j]? = some t → vs[j]? = some v → Rep w false v t M
 | [],[],[],_,_=>by simp
 | l :: ls,t :: ts,v :: vs,h,hd=>by
  obtain ⟨h1,h2⟩:=io hsub h.2 hd.2
  refine ⟨by simp[h1],fun j t' v' ht hv=>?_⟩
  cases j with
  | zero=>simp at ht hv;subst ht hv;exact vA hsub h.1 hd.1
  | succ j=>exact h2 j t' v' (by simpa using ht) (by simpa using hv)
 | [],_ :: _,_,_,h=>h.elim
 | _ :: _,[],_,_,h=>h.elim
 | [],[],_ :: _,h,_=>h.elim
 | _ :: _,_ :: _,[],h,_=>h.elim
theorem nU {M:Blks} {σ0:St} (hsub:∀ r row,get σ0.row r = some row → get σ.row r = some row ∧ Rep w false (g.rw r) row.t M):∀ {vs:List V} {xs:List A} {us:List Value},RepVs w g σ vs us → denVs σ0 vs xs →
  Shapes xs us ∧ ∀ (j:Nat) t v,(flatA xs)[j]? = some t → (flatU us)[j]? = some v → Rep w false v t M
 | [],[],[],_,_=>⟨trivial,by simp[flatA]⟩
 | x :: vs,(b,ts) :: xs,u :: us,h,hd=>by
  have key:∀ ls,RepLs w g σ ls u.cells.toList → denLs σ0 ls ts → ShapeV (b,ts) u → denVs σ0 vs xs →
    Shapes ((b,ts) :: xs) (u :: us) ∧ ∀ (j:Nat) t v,(flatA ((b,ts) :: xs))[j]? = some t → (flatU (u :: us))[j]? = some v → Rep w false v t M:=by
   intro ls h1 h2 h3 h4
   obtain ⟨q1,q2⟩:=io hsub h1 h2
   obtain ⟨q3,q4⟩:=nU hsub h.2 h4
   refine ⟨⟨h3,q3⟩,fun j t v ht hv=>?_⟩
   simp only[flatA,flatU,List.flatMap_cons] at ht hv
   by_cases hj:j < ts.length
   ·rw[List.getElem?_append_left hj] at ht
    rw[List.getElem?_append_left (by omega)] at hv
    exact q2 j t v ht hv
   ·rw[List.getElem?_append_right (by omega)] at ht
    rw[List.getElem?_append_right (by omega),q1] at hv
    exact q4 _ t v ht hv
  cases x with
  | l y =>
   cases b with
   | true=>exact hd.elim
   | false =>
    obtain ⟨d1,d2⟩:=hd
    have hy:RepLs w g σ [y] u.cells.toList:=RepV.cells h.1 rfl
    have hl:=(io hsub hy d1).1
    refine key [y] hy d1 ?_ d2
    simp only[ShapeV,Bool.false_eq_true,if_false]
    refine ⟨?_,RepL.one h.1⟩
    have h9:=hy.length
    rw[List.length_singleton] at h9
    show ts.length = 1
    omega
  | agg ys =>
   cases b with
   | false=>exact hd.elim
   | true =>
    obtain ⟨d1,d2⟩:=hd
    obtain ⟨cs,rfl,hr⟩:=h.1
    have hl:=(io hsub hr d1).1
    exact key ys (by simpa [Value.cells] using hr) d1 (by simp only[ShapeV,if_true];exact ⟨cs,rfl,hl⟩) d2
  | tup=>cases b <;> exact hd.elim
 | [],_ :: _,_,_,h=>h.elim
 | .l _ :: _,[],_,_,h=>h.elim
 | .agg _ :: _,[],_,_,h=>h.elim
 | .tup _ :: _,[],_,_,h=>h.elim
 | [],[],_ :: _,h,_=>h.elim
 | _ :: _,_ :: _,[],h,_=>h.elim
end
section
variable {P:Program} {w0 w w':World} {Al:Blks} {N:Nat} {g:Gh} {σ σ':St} {a:Act}
theorem RepLs.app:∀ {ls ks:List L} {vs us:List Value},RepLs w g σ ls vs → RepLs w g σ ks us → RepLs w g σ (ls ++ ks) (vs ++ us)
 | [],_,[],_,_,h'=>h'
 | [],_,_ :: _,_,h,_=>h.elim
 | _ :: _,_,[],_,h,_=>h.elim
 | _ :: _,_,_ :: _,_,h,h'=>⟨h.1,RepLs.app h.2 h'⟩
theorem fV:∀ {ts:List T} {vs:List Value} {k:Nat},vs.length = ts.length → (∀ (j:Nat) t v,ts[j]? = some t → vs[j]? = some v → RepL w g σ (leafN (k + j) t) v) → RepLs w g σ (leavesN k ts) vs
 | [],[],_,_,_=>trivial
 | t :: ts,v :: vs,k,hl,h=>⟨h 0 t v rfl rfl,fV (by simpa using hl) fun j t' v' h1 h2=>by have:=h (j + 1) t' v' (by simpa using h1) (by simpa using h2);rwa [show k + (j + 1) = k + 1 + j by omega] at this⟩
 | [],_ :: _,_,hl,_=>by simp at hl
 | _ :: _,[],_,hl,_=>by simp at hl
theorem vB (m:Mem w g σ) {b:Bool} {k:Nat} {rs:List Nat} {ts':List T} {res:List A} {us xs:List Value} {F:Nat → Blks} (hk:b = true → (get σ.box k).isSome)
  (hfr:∀ j,j < (ts' ++ flatA res).length → get σ.row (σ.nxt + j) = none) (hown:∀ r ∈ rs,∃ row,get σ.row r = some row ∧ row.pm = .own)
  (hO:OwnC w' (xs ++ us) (ts' ++ flatA res) F) (hF:∀ j x,F j x → (RowsFp g σ rs x ∨ w.heap.size ≤ x) ∧ x < w'.heap.size ∧ (b = true → x ≠ g.bx k)) (hxl:xs.length = ts'.length)
  (hbx:b = true → ∃ e,w'.heap[g.bx k]? = some (.cells xs.toArray e (0,0))) (hsiz:w.heap.size ≤ w'.heap.size)
  (hold:∀ x,x < w.heap.size → ¬ RowsFp g σ rs x → (b = true → x ≠ g.bx k) → w'.heap[x]? = w.heap[x]?) :
  ∃ g',NewIn w w' g g' σ (σ.moved b k rs ts' res) rs (oneIf b k) (rowsN .own σ.nxt (ts' ++ flatA res)) (oneIf b (k,leavesN σ.nxt ts')) (hits rs) ∧
   ∀ j v,j < (ts' ++ flatA res).length → (xs ++ us)[j]? = some v → g'.rw (σ.nxt + j) = v:=by
 let all:=ts' ++ flatA res
 let vals:=xs ++ us
 have hvl:vals.length = all.length:=hO.len
 let g':Gh:=⟨g.bx,fun r=>if σ.nxt ≤ r ∧ r < σ.nxt + all.length then vals.getD (r - σ.nxt) undef else g.rw r,fun r=>if σ.nxt ≤ r ∧ r < σ.nxt + all.length then F (r - σ.nxt) else g.fp r⟩
 have hrow:∀ r row,get (rowsN .own σ.nxt all) r = some row → row.pm = .own ∧ σ.nxt ≤ r ∧ r < σ.nxt + all.length ∧ all[r - σ.nxt]? = some (.sl row.z row.es):=by
  intro r row hr
  rw[aV] at hr
  split at hr
  ·rename_i hle
   split at hr
   ·rename_i z es he
    simp only[Option.some.injEq] at hr
    subst hr
    have:=(List.getElem?_eq_some_iff.1 he).1
    exact ⟨rfl,hle,by omega,he⟩
   ·cases hr
  ·cases hr
 have hnew:∀ r row,get (rowsN .own σ.nxt all) r = some row → get σ.row r = none:=by
  intro r row hr
  obtain ⟨_,h1,h2,_⟩:=hrow r row hr
  have:=hfr (r - σ.nxt) (by show _ < all.length;omega)
  rwa [Nat.add_sub_cancel' h1] at this
 have hnot:∀ r,(get σ.row r).isSome → ¬ (σ.nxt ≤ r ∧ r < σ.nxt + all.length):=by
  rintro r hr ⟨h1,h2⟩
  have:=hfr (r - σ.nxt) (by show _ < all.length;omega)
  rw[Nat.add_sub_cancel' h1] at this
  rw[this] at hr
  cases hr
 have hrw:∀ j v,j < all.length → vals[j]? = some v → g'.rw (σ.nxt + j) = v:=by
  intro j v hj hv
  have hc:σ.nxt ≤ σ.nxt + j ∧ σ.nxt + j < σ.nxt + all.length:=⟨by omega,by omega⟩
  simp only[g',hc,and_self,if_true,Nat.add_sub_cancel_left,List.getD_eq_getElem?_getD,hv,Option.getD_some]
 have pool:∀ x,Pool g σ rs (oneIf b k) x ↔ RowsFp g σ rs x ∨ (b = true ∧ x = g.bx k):=by
  intro x
  unfold Pool RowsFp
  cases b with
  | true =>
   constructor
   ·rintro (h | ⟨k',ls,h1,h2,h3⟩)
    ·exact Or.inl h
    ·obtain rfl:k' = k:=by simpa [oneIf] using h1
     exact Or.inr ⟨rfl,h3.symm⟩
   ·rintro (h | ⟨-,rfl⟩)
    ·exact Or.inl h
    ·obtain ⟨ls,hls⟩:=Option.isSome_iff_exists.1 (hk rfl)
     exact Or.inr ⟨k,ls,by simp[oneIf],hls,rfl⟩
  | false=>simp[oneIf]
 refine ⟨g',⟨rfl,?_,fun x hx hp=>?_,hsiz,fun r hr hs=>?_,fun _ _ _=>rfl,fun r row hr=>Or.inr (hnew r row hr),fun k' ls hk'=>?_,fun r row hr _=>?_,fun r row hr hp=>?_,fun r row hr hp=>?_,fun r row x hr _ hx=>?_,fun k' ls hk'=>?_,fun r r' row row' x hr hr' _ _ hx hx'=>?_,fun k' ls r row hk' hr _=>?_,fun k' k'' ls ls' hk' hk'' _=>?_,fun k' ls hk'=>?_,fun l hl r p hrp hs hm=>?_,fun l hl k' hk' hs hm=>?_⟩,hrw⟩
 ·rfl
 ·rw[pool] at hp
  exact hold x hx (fun h=>hp (Or.inl h)) fun hb e=>hp (Or.inr ⟨hb,e⟩)
 ·have:=hnot r hs
  simp only[g',this,if_false,and_self]
 ·cases b with
  | true =>
   simp only[oneIf,get] at hk'
   split at hk'
   ·rename_i e;exact Or.inl (by simp[oneIf,e])
   ·cases hk'
  | false=>simp[oneIf,get] at hk'
 ·obtain ⟨_,h1,h2,h3⟩:=hrow r row hr
  have hc:σ.nxt ≤ r ∧ r < σ.nxt + all.length:=⟨h1,h2⟩
  have hlt:r - σ.nxt < vals.length:=by omega
  have hv:vals[r - σ.nxt]? = some (vals.getD (r - σ.nxt) undef):=by simp[List.getD_eq_getElem?_getD,List.getElem?_eq_getElem hlt]
  simp only[g',hc,and_self,if_true]
  exact hO.rep _ _ _ h3 hv
 ·rw[(hrow r row hr).1] at hp;cases hp
 ·rw[(hrow r row hr).1] at hp;cases hp
 ·obtain ⟨_,h1,h2,h3⟩:=hrow r row hr
  have hc:σ.nxt ≤ r ∧ r < σ.nxt + all.length:=⟨h1,h2⟩
  simp only[g',hc,and_self,if_true] at hx
  obtain ⟨q1,q2,-⟩:=hF _ x hx
  exact ⟨q1.imp (fun h=>(pool x).2 (Or.inl h)) id,q2⟩
 ·cases b with
  | true =>
   simp only[oneIf,get] at hk'
   split at hk'
   ·rename_i e
    subst e
    obtain ⟨ls0,hls⟩:=Option.isSome_iff_exists.1 (hk rfl)
    have hlt:=m.lt (g.bx k') (Or.inl ⟨k',ls0,hls,rfl⟩)
    exact ⟨Or.inl ((pool _).2 (Or.inr ⟨rfl,rfl⟩)),Nat.lt_of_lt_of_le hlt hsiz⟩
   ·cases hk'
  | false=>simp[oneIf,get] at hk'
 ·obtain ⟨_,h1,h2,_⟩:=hrow r row hr
  obtain ⟨_,h3,h4,_⟩:=hrow r' row' hr'
  have hc:σ.nxt ≤ r ∧ r < σ.nxt + all.length:=⟨h1,h2⟩
  have hc':σ.nxt ≤ r' ∧ r' < σ.nxt + all.length:=⟨h3,h4⟩
  simp only[g',hc,hc',and_self,if_true] at hx hx'
  have:=hO.dis _ _ x hx hx'
  omega
 ·cases b with
  | true =>
   simp only[oneIf,get] at hk'
   split at hk'
   ·rename_i e
    subst e
    obtain ⟨_,h1,h2,_⟩:=hrow r row hr
    have hc:σ.nxt ≤ r ∧ r < σ.nxt + all.length:=⟨h1,h2⟩
    intro hx
    simp only[g',hc,and_self,if_true] at hx
    exact (hF _ _ hx).2.2 rfl rfl
   ·cases hk'
  | false=>simp[oneIf,get] at hk'
 ·cases b with
  | true =>
   simp only[oneIf,get] at hk' hk''
   split at hk'
   ·split at hk''
    ·rename_i e1 e2;rw[e1,e2]
    ·cases hk''
   ·cases hk'
  | false=>simp[oneIf,get] at hk'
 ·cases b with
  | true =>
   simp only[oneIf,get] at hk'
   split at hk'
   ·rename_i e
    subst e
    simp only[Option.some.injEq] at hk'
    subst hk'
    obtain ⟨e,he⟩:=hbx rfl
    refine ⟨xs.toArray,e,he,?_⟩
    refine fV (by simpa using hxl) fun j t v ht hv=>?_
    have hv':xs[j]? = some v:=by simpa using hv
    have hj:j < ts'.length:=(List.getElem?_eq_some_iff.1 ht).1
    have hta:all[j]? = some t:=by show (ts' ++ flatA res)[j]? = _;rw[List.getElem?_append_left hj];exact ht
    have hva:vals[j]? = some v:=by show (xs ++ us)[j]? = _;rw[List.getElem?_append_left (by omega)];exact hv'
    refine bI (hO.rep j t v hta hva) fun z es et=>?_
    subst et
    have hjl:j < all.length:=(List.getElem?_eq_some_iff.1 hta).1
    refine ⟨⟨.own,z,es⟩,?_,rfl,rfl,hrw j v hjl hva⟩
    show get (rowsN .own σ.nxt all ++ del rs σ.row) _ = _
    simp only[get_append,aV,Nat.le_add_right,if_true,Nat.add_sub_cancel_left,hta]
   ·cases hk'
  | false=>simp[oneIf,get] at hk'
 ·unfold hits at hl
  rw[hrp] at hl
  simp only at hl
  exact absurd (by simpa using hm) (by simpa using hl)
 ·cases b with
  | true =>
   simp only[oneIf,List.mem_singleton] at hm
   subst hm
   exact ⟨by simp[oneIf,get],rfl⟩
  | false=>simp[oneIf] at hm
end
section
variable {P:Program} {w0 w w':World} {Al:Blks} {N:Nat} {g:Gh} {σ σ':St} {a:Act}
def handV (σ:St) (b:Bool) (k:Nat) (ls:List L) (V0:V):Prop:=match b with
 | true=>V0 = .l (.ptr k 0) ∧ get σ.box k = some ls
 | false=>V0 = .agg ls
theorem rR {f:FuncId} {b:Bool} {ts ts':List T} {args res:List A} {k:Nat} {rs zs:List Nat} {ls:List L} {cnd:Prop} {vs:List V} {V0 v:V} {K:St → V → Prop} (hpm:PM P f b ts args ts' res)
  (hV:handV σ b k ls V0) (ht:takeLs σ zs ls = some (cnd,ts,rs)) (hc:cnd) (hden:denVs { σ with row:=del rs σ.row } vs args) (hfr:σ.row.all (fun x=>decide (x.1 < σ.nxt)) = true)
  (hv:oneV (valsN (σ.nxt + ts'.length) res) = some v) (hK:K (σ.moved b k rs ts' res) v):CallW P false f (V0 :: vs) K σ:=by
 refine ⟨hpm.1,fun w0 Al N a w g us R hus=>?_⟩
 have m:=R.mem
 match us,hus with
 | [],hus=>exact hus.elim
 | u0 :: us,hus =>
  obtain ⟨hu0,hus⟩:=hus
  obtain ⟨cs,hls,hhand⟩:∃ cs:List Value,RepLs w g σ ls cs ∧ match b with
    | true=>u0 = .pointer (some ⟨g.bx k,0,none⟩) ∧ get σ.box k = some ls ∧ ∃ e,w.heap[g.bx k]? = some (.cells cs.toArray e (0,0))
    | false=>u0 = .agg cs.toArray:=by
   cases b with
   | true =>
    obtain ⟨rfl,hbox⟩:=hV
    obtain ⟨_,hp⟩:(get σ.box k).isSome ∧ u0 = .pointer (some ⟨g.bx k,0,none⟩):=hu0
    obtain ⟨cs,e,h1,h2⟩:=m.box k ls hbox
    exact ⟨cs.toList,h2,hp,hbox,e,by simpa using h1⟩
   | false =>
    have hV:V0 = .agg ls:=hV
    subst hV
    obtain ⟨cs,rfl,hr⟩:=hu0
    exact ⟨cs,hr,rfl⟩
  obtain ⟨hlen,hrs,F,h1,h2,h3⟩:=bM m ht hc hls
  have hcl:cs.length = ts.length:=by have:=hls.length;omega
  have hO:OwnC w cs ts F:=⟨hcl,fun j t v ht hv=>h1 j t v ht hv,h3⟩
  have hbx0:b = true → ∃ ls0,get σ.box k = some ls0:=fun e=>by subst e;exact ⟨ls,hhand.2.1⟩
  have hnb:∀ j x,F j x → b = true → x ≠ g.bx k:=by
   rintro j x hj hb rfl
   obtain ⟨r,row,_,q1,q2,q3⟩:=h2 j _ hj
   obtain ⟨ls0,hb0⟩:=hbx0 hb
   exact m.br k ls0 r row hb0 q1 q2 q3
  have hH:Hand w b (g.bx k) u0 cs ts F:=by
   refine ⟨hO,?_⟩
   cases b with
   | true=>exact ⟨hhand.1,hhand.2.2,fun j hj=>hnb j _ hj rfl rfl⟩
   | false=>exact hhand
  have hlt:∀ j x,F j x → x < w.heap.size:=by
   intro j x hj
   obtain ⟨r,row,_,q1,q2,q3⟩:=h2 j _ hj
   exact m.lt x (Or.inr ⟨r,row,q1,q2,q3⟩)
  have hread:=nU (w:=w) (g:=g) (σ:=σ) (M:=fun x=>(∀ j,¬ F j x) ∧ (b = true → x ≠ g.bx k)) (σ0:={ σ with row:=del rs σ.row }) (fun r row hr=>by
   simp only[bq] at hr
   split at hr
   ·cases hr
   ·rename_i hnr
    refine ⟨hr,(m.lentRow hr).mono fun x hx=>⟨fun j hj=>?_,fun hb e=>?_⟩⟩
    ·obtain ⟨r',row',p1,p2,p3,p4⟩:=h2 j x hj
     rcases hx with ⟨r2,row2,q1,q2,q3,q4⟩ | hx
     ·simp only[List.mem_singleton] at q1
      subst q1
      have:=m.rr r' r2 row' row2 x p2 q2 p3 q3 p4 q4
      exact hnr (this ▸ p1)
     ·exact hx (Or.inr ⟨r',row',p2,p3,p4⟩)
    ·subst e
     obtain ⟨ls0,hb0⟩:=hbx0 hb
     rcases hx with ⟨r2,row2,q1,q2,q3,q4⟩ | hx
     ·exact m.br k ls0 r2 row2 hb0 q2 q3 q4
     ·exact hx (Or.inl ⟨k,ls0,hb0,rfl⟩)) hus hden
  refine Calls.mono (hpm.2.2 w (g.bx k) u0 cs us F hH hlt hread.1 hread.2) fun e w' he=>?_
  cases e with
  | panicked=>exact he
  | outgrown=>exact he
  | returned q =>
   obtain ⟨hsiz,hold,hos,htape,hout,us',xs,F',rfl,hsh,hxl,hbx,hO',hF'⟩:=he
   obtain ⟨g',hin,hrw⟩:=vB (w':=w') m (b:=b) (k:=k) (rs:=rs) (ts':=ts') (res:=res) (us:=flatU us') (xs:=xs) (F:=F') (fun hb=>by obtain ⟨ls0,hb0⟩:=hbx0 hb;simp[hb0]) (fun j _=>kS hfr _ (by omega)) hrs hO'
    (fun j x hx=>by
     obtain ⟨q1,q2,q3⟩:=hF' j x hx
     exact ⟨q1.imp (fun ⟨i,hi⟩=>h2 i x hi) id,q2,q3⟩) hxl hbx hsiz
    (fun x hx hn hb=>hold x hx (fun j hj=>hn (h2 j x hj)) hb)
   have R':=R.turn hin ⟨rfl,rfl⟩ hos htape hout
   refine ⟨σ.moved b k rs ts' res,g',v,R',?_,hK,fun e=>by cases e⟩
   refine fB hv (bV hsh fun j t u hjt hju=>?_)
   have hta:(ts' ++ flatA res)[ts'.length + j]? = some t:=by rw[List.getElem?_append_right (by omega),Nat.add_sub_cancel_left];exact hjt
   have hva:(xs ++ flatU us')[ts'.length + j]? = some u:=by rw[← hxl,List.getElem?_append_right (by omega),Nat.add_sub_cancel_left];exact hju
   refine bI (hO'.rep _ t u hta hva) fun z es et=>?_
   subst et
   have hjl:ts'.length + j < (ts' ++ flatA res).length:=(List.getElem?_eq_some_iff.1 hta).1
   refine ⟨⟨.own,z,es⟩,?_,rfl,rfl,by rw[Nat.add_assoc];exact hrw _ u hjl hva⟩
   show get (rowsN .own σ.nxt (ts' ++ flatA res) ++ del rs σ.row) _ = _
   rw[Nat.add_assoc]
   simp only[get_append,aV,Nat.le_add_right,if_true,Nat.add_sub_cancel_left,hta]
end
section
variable {P:Program} {w0 w w':World} {Al:Blks} {N:Nat} {g:Gh} {σ σ':St} {a:Act}
theorem dc {b:Bool} {a0:Act} {ts:List T} {args:List A} {r:Nat} {row:Row} (h:get (St.startP b a0 ts args).row r = some row) :
  (r < ts.length ∧ ts[r]? = some (.sl row.z row.es) ∧ row.pm = .own) ∨ (ts.length ≤ r ∧ (flatA args)[r - ts.length]? = some (.sl row.z row.es) ∧ row.pm = .ro):=by
 simp only[St.startP,get_append,aV,Nat.zero_le,if_true,Nat.sub_zero] at h
 cases ht:ts[r]? with
 | none =>
  rw[ht] at h
  simp only at h
  split at h
  ·rename_i hle
   split at h
   ·rename_i z es he
    simp only[Option.some.injEq] at h
    subst h
    exact Or.inr ⟨hle,he,rfl⟩
   ·cases h
  ·cases h
 | some t =>
  have hlt:=(List.getElem?_eq_some_iff.1 ht).1
  rw[ht] at h
  cases t with
  | sl z es =>
   simp only[Option.some.injEq] at h
   subst h
   exact Or.inl ⟨hlt,rfl,rfl⟩
  | int=>simp only at h;rw[if_neg (by omega)] at h;cases h
  | bool=>simp only at h;rw[if_neg (by omega)] at h;cases h
  | str=>simp only at h;rw[if_neg (by omega)] at h;cases h
  | hole=>simp only at h;rw[if_neg (by omega)] at h;cases h
theorem rS {b:Bool} {a0:Act} {ts:List T} {args:List A} {r z:Nat} {es:Els} (h:ts[r]? = some (.sl z es)):get (St.startP b a0 ts args).row r = some ⟨.own,z,es⟩:=by
 simp only[St.startP,get_append,aV,Nat.zero_le,if_true,Nat.sub_zero,h]
theorem ui {b:Bool} {a0:Act} {ts:List T} {args:List A} {j z:Nat} {es:Els} (h:(flatA args)[j]? = some (.sl z es)):get (St.startP b a0 ts args).row (ts.length + j) = some ⟨.ro,z,es⟩:=by
 have hn:ts[ts.length + j]? = none:=List.getElem?_eq_none (by omega);simp only[St.startP,get_append,aV,Nat.zero_le,if_true,Nat.sub_zero,hn,Nat.le_add_right,Nat.add_sub_cancel_left,h]
theorem dw {f:FuncId} {fn:Func} {c:Code} {b:Bool} {ts ts':List T} {args res:List A} (hf:P.funcs[f]? = some fn) (hb:fn.body = some c) (hn:(fn.name == "runtime.NumGoroutine") = false) {n:Nat} (hnt:fn.ntmps = n) {rs:List ResultVar} (hrs:fn.results.toList = rs)
  (hl:args.length + 1 ≤ n) (hts:b = false → ts' = []) (h:∀ a0,W P n c (OutP P rs b a0 ts' res) (St.startP b a0 ts args)):PM P f b ts args ts' res:=by
 subst hnt hrs
 refine ⟨⟨fn,hf,by simp[hb],hn⟩,hts,fun w c u cs vs F hH hlt hsh hrep=>calls_of_wp hf hb ?_⟩
 obtain ⟨hO,hh⟩:=hH
 let g:Gh:=⟨fun _=>c,fun k=>(cs ++ flatU vs).getD k undef,fun k=>if k < ts.length then F k else fun _=>False⟩
 let a0:Act:={ tmps:=(u :: vs).toArray ++ Array.replicate (fn.ntmps - (u :: vs).toArray.size) undef,defers:=[] }
 let Al:Blks:=fun x=>(∃ j,F j x) ∨ (b = true ∧ x = c)
 let σ0:=St.startP b a0 ts args
 have hfl:=bA hsh
 have hcl:=hO.len
 have hbox:∀ k ls,get σ0.box k = some ls → b = true ∧ k = 0 ∧ ls = leavesN 0 ts:=by
  intro k ls hk
  simp only[σ0,St.startP] at hk
  cases b with
  | true =>
   simp only[oneIf,get] at hk
   split at hk
   ·rename_i e;cases hk;exact ⟨rfl,e,rfl⟩
   ·cases hk
  | false=>simp[oneIf,get] at hk
 have hown:∀ x,Owned g σ0 x → Al x:=by
  rintro x (⟨k,ls,h1,h2⟩ | ⟨r,row,h1,h2,h3⟩)
  ·exact Or.inr ⟨(hbox k ls h1).1,h2.symm⟩
  ·rcases dc h1 with ⟨q1,_,_⟩ | ⟨_,_,q3⟩
   ·simp only[g,if_pos q1] at h3
    exact Or.inl ⟨r,h3⟩
   ·exact absurd q3 h2
 have hrwO:∀ j v,cs[j]? = some v → g.rw j = v:=by
  intro j v hv
  have:(cs ++ flatU vs)[j]? = some v:=by rw[List.getElem?_append_left (List.getElem?_eq_some_iff.1 hv).1];exact hv
  simp[g,List.getD_eq_getElem?_getD,this]
 have hrwR:∀ j v,(flatU vs)[j]? = some v → g.rw (ts.length + j) = v:=by
  intro j v hv
  have:(cs ++ flatU vs)[ts.length + j]? = some v:=by rw[List.getElem?_append_right (by omega),← hcl,Nat.add_sub_cancel_left];exact hv
  simp[g,List.getD_eq_getElem?_getD,this]
 have hleafs:RepLs w g σ0 (leavesN 0 ts) cs:=by
  refine fV hcl fun j t v ht hv=>bI (hO.rep j t v ht hv) fun z es et=>?_
  subst et
  rw[Nat.zero_add]
  exact ⟨⟨.own,z,es⟩,rS ht,rfl,rfl,hrwO j v hv⟩
 have hvals:RepVs w g σ0 (valsN ts.length args) vs:=by
  refine bV hsh fun j t v ht hv=>bI (hrep j t v ht hv) fun z es et=>?_
  subst et
  exact ⟨⟨.ro,z,es⟩,ui ht,rfl,rfl,hrwR j v hv⟩
 have hlen:=hvals.length
 have hal:args.length = vs.length:=hsh.length
 have hc0:b = true → ∃ e,w.heap[c]? = some (.cells cs.toArray e (0,0)):=fun e=>by subst e;exact hh.2.1
 have hV0:RepV w g σ0 (hand0 b ts) u:=by
  cases b with
  | true=>exact ⟨by simp[σ0,St.startP,oneIf,get],hh.1⟩
  | false=>exact ⟨cs,hh,hleafs⟩
 have hslot0:a0.tmps.getD 0 undef = u:=by
  simp only[a0]
  rw[Array.getD_eq_getD_getElem?,Array.getElem?_append_left (by simp)]
  simp
 have hltO:∀ x,Al x → x < w.heap.size:=by
  rintro x (⟨j,hj⟩ | ⟨hb',rfl⟩)
  ·exact hlt j x hj
  ·obtain ⟨e,he⟩:=hc0 hb'
   exact (Array.getElem?_eq_some_iff.1 he).1
 have R:Rel w Al fn.ntmps σ0 a0 w g:=by
  refine ⟨⟨fun t c' v hg hc=>?_,fun t c' v hg hc=>?_⟩,?_,⟨?_,?_,?_,?_,?_,?_,?_,fun x hx=>hltO x (hown x hx)⟩,fun x hx=>Or.inr (hown x hx),fun _ _ _=>rfl,Nat.le_refl _,rfl,rfl,rfl,rfl,by simp[a0];omega,fun x hx=>?_⟩
  ·simp only[σ0,St.startP,get] at hg
   split at hg
   ·rename_i e
    subst e
    simp only[Option.some.injEq,Prod.mk.injEq] at hg
    obtain ⟨_,rfl⟩:=hg
    rw[hslot0]
    exact hV0
   ·obtain ⟨_,h2,h3⟩:=bj _ 1 t c' v hg
    obtain ⟨y,hy,hr⟩:=hvals.nth (j:=t - 1) h3
    have hlt:t - 1 < vs.length:=(List.getElem?_eq_some_iff.1 hy).1
    have:a0.tmps.getD t undef = y:=by
     simp only[a0]
     rw[Array.getD_eq_getD_getElem?,Array.getElem?_append_left (by simp;omega)]
     have e:t = (t - 1) + 1:=by omega
     rw[e]
     simp[hy]
    rw[this]
    exact hr
  ·simp only[σ0,St.startP,get] at hg
   split at hg
   ·simp only[Option.some.injEq,Prod.mk.injEq] at hg
    rw[hc] at hg
    cases hg.1
   ·have:=(bj _ 1 t c' v hg).1
    rw[hc] at this
    cases this
  ·refine List.pairwise_cons.2 ⟨fun y hy=>?_,cE _ 1⟩
   have:=dp _ 1 y.1 y.2 hy
   simp only
   omega
  ·intro k ls hk
   obtain ⟨hb',rfl,rfl⟩:=hbox k ls hk
   obtain ⟨e,he⟩:=hc0 hb'
   exact ⟨cs.toArray,e,he,by simpa using hleafs⟩
  ·intro r row hr hp
   rcases dc hr with ⟨q1,q2,_⟩ | ⟨_,_,q3⟩
   ·have hltc:r < cs.length:=by omega
    have hv:cs[r]? = some cs[r]:=List.getElem?_eq_getElem hltc
    have:=hO.rep r _ _ q2 hv
    rw[hrwO r _ hv]
    simp only[g,if_pos q1]
    exact this
   ·rw[q3] at hp;cases hp
  ·intro r row hr hp
   rcases dc hr with ⟨_,_,q3⟩ | ⟨_,_,q3⟩ <;> (rw[q3] at hp;cases hp)
  ·intro r row hr hp
   rcases dc hr with ⟨_,_,q3⟩ | ⟨q1,q2,_⟩
   ·rw[q3] at hp;cases hp
   ·have hltv:r - ts.length < (flatU vs).length:=by rw[hfl];exact (List.getElem?_eq_some_iff.1 q2).1
    have hv:(flatU vs)[r - ts.length]? = some (flatU vs)[r - ts.length]:=List.getElem?_eq_getElem hltv
    have e1:=hrwR _ _ hv
    rw[show ts.length + (r - ts.length) = r by omega] at e1
    rw[e1]
    refine (hrep _ _ _ q2 hv).mono fun x hx ho=>?_
    rcases hown x ho with ⟨j,hj⟩ | ⟨hb',rfl⟩
    ·exact hx.1 j hj
    ·exact hx.2 hb' rfl
  ·intro k k' ls ls' hk hk' _
   rw[(hbox k ls hk).2.1,(hbox k' ls' hk').2.1]
  ·intro k ls r row hk hr hp hx
   obtain ⟨hb',_,_⟩:=hbox k ls hk
   rcases dc hr with ⟨q1,_,_⟩ | ⟨_,_,q3⟩
   ·simp only[g,if_pos q1] at hx
    subst hb'
    exact hh.2.2 r hx
   ·exact hp q3
  ·intro r r' row row' x hr hr' hp hp' hx hx'
   rcases dc hr with ⟨q1,_,_⟩ | ⟨_,_,q3⟩
   ·rcases dc hr' with ⟨q1',_,_⟩ | ⟨_,_,q3'⟩
    ·simp only[g,if_pos q1] at hx
     simp only[g,if_pos q1'] at hx'
     exact hO.dis r r' x hx hx'
    ·exact absurd q3' hp'
   ·exact absurd q3 hp
  ·simp only[σ0,St.startP] at hx
   cases b with
   | true =>
    simp only[oneIf,List.mem_singleton] at hx
    subst hx
    refine ⟨fun t c' v hg hc=>?_,fun t c' v hg hc=>?_,by simp⟩
    ·simp only[get] at hg
     split at hg
     ·rename_i e
      subst e
      simp only[Option.some.injEq,Prod.mk.injEq] at hg
      obtain ⟨_,rfl⟩:=hg
      rw[hslot0]
      exact hV0
     ·cases hg
    ·simp only[get] at hg
     split at hg
     ·simp only[Option.some.injEq,Prod.mk.injEq] at hg
      rw[hc] at hg
      cases hg.1
     ·cases hg
   | false=>simp[oneIf] at hx
 refine wp_mono (h a0 w Al _ w g R) fun e a' w' ⟨σ',g',R',hK⟩=>?_
 have fin:(∃ ls,boxL σ' b a0 ls ∧ match resV P σ' fn.results.toList with
  | some (c,vs)=>c ∧ shapeVs res vs ∧ match takeLs σ' ((ts' ++ flatA res).map zOf) (ls ++ vs.flatMap V.leaves) with
   | some (c',ts,_)=>c' ∧ ts = ts' ++ flatA res
   | none=>False
  | none=>False) → a'.defers = [] ∧ ∃ v,(results fn a'.tmps).run P w' = .ok v w' ∧ (w.heap.size ≤ w'.heap.size ∧ (∀ x,x < w.heap.size → (∀ j,¬ F j x) → (b = true → x ≠ c) → w'.heap[x]? = w.heap[x]?) ∧ w'.os = w.os ∧ w'.tape = w.tape ∧ w'.output = w.output ∧
    ∃ us xs F',v = oneU us ∧ Shapes res us ∧ xs.length = ts'.length ∧ (b = true → ∃ e,w'.heap[c]? = some (.cells xs.toArray e (0,0))) ∧ OwnC w' (xs ++ flatU us) (ts' ++ flatA res) F' ∧
     ∀ j x,F' j x → ((∃ i,F i x) ∨ w.heap.size ≤ x) ∧ x < w'.heap.size ∧ (b = true → x ≠ c)):=by
  rintro ⟨ls,hbl,hK⟩
  refine ⟨R'.dfr,?_⟩
  obtain ⟨xs,hxs,hxb⟩:∃ xs:List Value,RepLs w' g' σ' ls xs ∧ (b = true → (∃ e,w'.heap[c]? = some (.cells xs.toArray e (0,0))) ∧ ∃ k,get σ'.box k = some ls ∧ g'.bx k = c):=by
   cases b with
   | true =>
    obtain ⟨env',k,e1,e2,e3⟩:=hbl
    have hs:=R'.sav (env',a0) (by rw[e1];simp)
    have hp:=hs.yes 0 true _ e2 rfl
    rw[hslot0,hh.1] at hp
    obtain ⟨_,hp⟩:(get σ'.box k).isSome ∧ Value.pointer (some ⟨c,0,none⟩) = .pointer (some ⟨g'.bx k,0,none⟩):=hp
    have hck:c = g'.bx k:=by simpa using hp
    obtain ⟨cs',e,q1,q2⟩:=R'.mem.box k ls e3
    exact ⟨cs'.toList,q2,fun _=>⟨⟨e,by rw[hck];simpa using q1⟩,k,e3,hck.symm⟩⟩
   | false =>
    have hbl:ls = []:=hbl
    subst hbl
    exact ⟨[],trivial,fun e=>by cases e⟩
  split at hK
  ·rename_i cc vs' hres
   obtain ⟨hc,hsv,hK⟩:=hK
   split at hK
   ·rename_i c' ts1 rs hts'
    obtain ⟨hc',rfl⟩:=hK
    obtain ⟨us,hr,hus⟩:=jP R'.mem R'.slots hres hc
    obtain ⟨hS,hL⟩:=dT hsv hus
    have hall:=RepLs.app hxs hL
    obtain ⟨p1,_,F',q1,q2,q3⟩:=bM R'.mem hts' hc' hall
    have hl2:=hall.length
    have hl3:=bA hS
    have hxl:xs.length = ts'.length:=by simp only[List.length_append] at p1 hl2;omega
    refine ⟨_,hr,R'.siz,fun x hx hnF hnc=>R'.frm x hx (fun hA=>?_),R'.os,R'.tape,R'.out,us,xs,F',rfl,hS,hxl,fun e=>(hxb e).1,⟨by simp only[List.length_append];omega,fun j t v ht hv=>q1 j t v ht hv,q3⟩,fun j x hj=>?_⟩
    ·rcases hA with ⟨j,hj⟩ | ⟨hb',rfl⟩
     ·exact hnF j hj
     ·exact hnc hb' rfl
    ·obtain ⟨r,row,_,h1,h2,h3⟩:=q2 j x hj
     have hne:b = true → x ≠ c:=by
      rintro hb' rfl
      obtain ⟨_,k,e1,e2⟩:=hxb hb'
      exact R'.mem.br k ls r row e1 h1 h2 (by rw[e2];exact h3)
     have hOw:Owned g' σ' x:=Or.inr ⟨r,row,h1,h2,h3⟩
     refine ⟨?_,R'.mem.lt x hOw,hne⟩
     rcases R'.own x hOw with h | h | ⟨hb',rfl⟩
     ·exact Or.inr h
     ·exact Or.inl h
     ·exact absurd rfl (hne hb')
   ·exact hK.elim
  ·exact hK.elim
 cases e with
 | normal=>exact fin hK
 | ret=>exact fin hK
 | _=>exact hK.elim
end
def StepI (P:Program) (N:Nat) (k:Bool) (ops:List Oper) (i:Nat) (σ:St) (next:St → Prop):Prop:=∃ o,ops[i]? = some o ∧ Step P N k ops o σ next
def RunI (P:Program) (N:Nat) (k:Bool) (ops:List Oper) (K:St → Prop):Sch → St → Prop
 | .nil,σ=>K σ
 | .op i r,σ=>StepI P N k ops i σ (RunI P N k ops K r)
 | .fork i a j b,σ=>StepI P N k ops i σ (RunI P N k ops K a) ∧ StepI P N k ops j σ (RunI P N k ops K b)
 | .fork3 i a j b m c,σ=>StepI P N k ops i σ (RunI P N k ops K a) ∧ StepI P N k ops j σ (RunI P N k ops K b) ∧ StepI P N k ops m σ (RunI P N k ops K c)
 | .fork4 i a j b m c n d,σ=>StepI P N k ops i σ (RunI P N k ops K a) ∧ StepI P N k ops j σ (RunI P N k ops K b) ∧ StepI P N k ops m σ (RunI P N k ops K c) ∧ StepI P N k ops n σ (RunI P N k ops K d)
 | .sub r,σ=>∃ σ',Sub σ σ' ∧ RunI P N k ops K r σ'
section
variable {P:Program} {N:Nat} {k:Bool} {ops:List Oper} {K:St → Prop} {σ:St}
theorem cB {i:Nat} {o:Oper} {n:St → Prop} (h:ops[i]? = some o):StepI P N k ops i σ n ↔ Step P N k ops o σ n :=
 ⟨fun ⟨_,e,q⟩=>by rw[h] at e;cases e;exact q,fun q=>⟨o,h,q⟩⟩
theorem cZ:∀ (s:Sch) {os:SchO} (_:s.ops ops = some os) (σ:St),RunI P N k ops K s σ → RunS P N k ops K os σ
 | .nil,os,h,σ,R=>by simp only[Sch.ops,Option.some.injEq] at h;subst h;exact R
 | .op i r,os,h,σ,R=>by
  simp only[Sch.ops] at h
  split at h
  ·rename_i o r' e1 e2
   cases h
   exact bW (cZ r e2) ((cB e1).1 R)
  ·cases h
 | .fork i a j b,os,h,σ,R=>by
  simp only[Sch.ops] at h
  split at h
  ·rename_i o a' p b' e1 e2 e3 e4
   cases h
   exact ⟨bW (cZ a e2) ((cB e1).1 R.1),bW (cZ b e4) ((cB e3).1 R.2)⟩
  ·cases h
 | .fork3 i a j b m c,os,h,σ,R=>by
  simp only[Sch.ops] at h
  split at h
  ·rename_i o a' p b' q c' e1 e2 e3 e4 e5 e6
   cases h
   exact ⟨bW (cZ a e2) ((cB e1).1 R.1),bW (cZ b e4) ((cB e3).1 R.2.1),bW (cZ c e6) ((cB e5).1 R.2.2)⟩
  ·cases h
 | .fork4 i a j b m c n d,os,h,σ,R=>by
  simp only[Sch.ops] at h
  split at h
  ·rename_i o a' p b' q c' r d' e1 e2 e3 e4 e5 e6 e7 e8
   cases h
   exact ⟨bW (cZ a e2) ((cB e1).1 R.1),bW (cZ b e4) ((cB e3).1 R.2.1),bW (cZ c e6) ((cB e5).1 R.2.2.1),bW (cZ d e8) ((cB e7).1 R.2.2.2)⟩
  ·cases h
 | .sub r,os,h,σ,R=>by
  simp only[Sch.ops] at h
  split at h
  ·rename_i r' e1
   cases h
   obtain ⟨σ',h1,h2⟩:=R
   exact ⟨σ',h1,cZ r e1 σ' h2⟩
  ·cases h
theorem uj {o:Oper} {n:St → Prop} (hg:o.guard = none) (h:Step P N k [] o σ n):Step P N k ops o σ n:=by
 unfold Step at *;rw[hg] at *;exact h
theorem aU {i:Nat} {s:Sch} {o:Oper} (ho:ops[i]? = some o) (hg:o.guard = none) (h:∀ K':St → Prop,(∀ σ,RunI P N k ops K s σ → K' σ) → Step P N k [] o σ K'):StepI P N k ops i σ (RunI P N k ops K s) :=
 ⟨o,ho,uj hg (h _ fun _ q=>q)⟩
theorem RunI_f1 {i:Nat} {r:Sch} (h:StepI P N k ops i σ (RunI P N k ops K r)):RunI P N k ops K (.op i r) σ:=h
theorem bd {i j:Nat} {a b:Sch} (h1:StepI P N k ops i σ (RunI P N k ops K a)) (h2:StepI P N k ops j σ (RunI P N k ops K b)):RunI P N k ops K (.fork i a j b) σ:=⟨h1,h2⟩
theorem dq {i j m:Nat} {a b c:Sch} (h1:StepI P N k ops i σ (RunI P N k ops K a)) (h2:StepI P N k ops j σ (RunI P N k ops K b)) (h3:StepI P N k ops m σ (RunI P N k ops K c)):RunI P N k ops K (.fork3 i a j b m c) σ:=⟨h1,h2,h3⟩
theorem sO {i j m n:Nat} {a b c d:Sch} (h1:StepI P N k ops i σ (RunI P N k ops K a)) (h2:StepI P N k ops j σ (RunI P N k ops K b)) (h3:StepI P N k ops m σ (RunI P N k ops K c)) (h4:StepI P N k ops n σ (RunI P N k ops K d)):RunI P N k ops K (.fork4 i a j b m c n d) σ:=⟨h1,h2,h3,h4⟩
theorem ai (h:K σ):RunI P N k ops K .nil σ:=h
end
theorem bg {P:Program} {N:Nat} {σ:St} (kc:Bool) {id:Nat} {l:List Oper} {K:Exit → St → Prop} (s:Sch) (hm:P.follows .mixedOrders = true)
  (hc:((s.len == l.length && Region.noSelect l.toArray && checkS kc l.toArray s (Array.replicate l.length false)) && (s.ops l).isSome) = true) (h:RunI P N kc l (K .normal) s σ):W P N (.region id l.toArray true) K σ:=by
 rw[Bool.and_eq_true] at hc
 obtain ⟨os,e⟩:=Option.isSome_iff_exists.1 hc.2
 exact aD kc s hm hc.1 e (cZ s e σ h)
attribute [go_sem] St.startP hand0 oneIf OutP boxL St.moved handV
theorem eN {α:Type} {xs ys:List α} (hl:xs.length = ys.length) (h:xs.take xs.length = ys.take xs.length):xs = ys:=by
 rw[List.take_length,hl,List.take_length] at h;exact h
theorem dr {α:Type} {xs ys:List α} {i:Nat} (h:xs.take i = ys.take i) (h1:i < xs.length) (h2:i < ys.length) (he:xs[i] = ys[i]):xs.take (i + 1) = ys.take (i + 1):=by
 rw[← List.take_append_getElem h1,← List.take_append_getElem h2,h,he]
theorem ip {α:Type} {xs ys:List α} {i:Nat} (h1:i < xs.length) (h2:i < ys.length) (he:xs[i] ≠ ys[i]):xs ≠ ys:=fun e=>by subst e;exact he rfl
theorem iq {α:Type} {xs ys:List α} (h:xs.length ≠ ys.length):xs ≠ ys:=fun e=>h (by rw[e])
def inR (x lo hi:Int):Bool:=decide (lo ≤ x) && decide (x ≤ hi)
theorem am (x lo hi:Int):inR x lo hi = true ↔ lo ≤ x ∧ x ≤ hi:=by simp[inR]
attribute [go_sem] am
def isW (x:Int):Bool:=inR x 0 65535
def wordsOk (xs:List Int) (n:Int):Bool:=decide ((xs.length:Int) = n) && xs.all isW
theorem pQ (xs:List Int) (n:Int):(decide ((xs.length:Int) = n) && !(xs.any fun x=>!(inR x 0 65535))) = wordsOk xs n:=by
 unfold wordsOk isW;congr 1;induction xs with
 | nil=>rfl
 | cons x xs ih=>simp only[List.any_cons,List.all_cons,Bool.not_or,Bool.not_not,ih]
theorem nC {xs:List Int} {n:Int} {i:Nat} (h:i < xs.length) (hw:isW xs[i] = false):wordsOk xs n = false:=by
 unfold wordsOk
 have:xs.all isW = false:=by
  rw[List.all_eq_false];exact ⟨_,List.getElem_mem h,by simp[hw]⟩
 rw[this,Bool.and_false]
theorem pR {xs:List Int} {n:Int} (h:∀ j,(hj:j < xs.length) → isW xs[j] = true):wordsOk xs n = decide ((xs.length:Int) = n):=by
 unfold wordsOk
 have:xs.all isW = true:=by
  rw[List.all_eq_true];intro x hx;obtain ⟨j,hj,rfl⟩:=List.getElem_of_mem hx;exact h j hj
 rw[this,Bool.and_true]
theorem de {xs:List Int} {n:Int} (h:wordsOk xs n = true) {j:Nat} (hj:j < xs.length):0 ≤ xs[j] ∧ xs[j] ≤ 65535:=by
 unfold wordsOk at h;rw[Bool.and_eq_true,List.all_eq_true] at h;have:=h.2 _ (List.getElem_mem hj);simpa [isW,inR] using this
theorem dg {xs:List Int} {n:Int} (h:wordsOk xs n = true):(xs.length:Int) = n:=by
 unfold wordsOk at h;rw[Bool.and_eq_true,decide_eq_true_eq] at h;exact h.1
def offL (c:Int):Nat:=if c = 82 then 1 else if c = 65 then 2 else if c = 66 then 3 else 4
theorem rT (c:Int):(c = 82 ∧ offL c = 1) ∨ (c = 65 ∧ offL c = 2) ∨ (c = 66 ∧ offL c = 3) ∨ ((c ≠ 82 ∧ c ≠ 65 ∧ c ≠ 66) ∧ offL c = 4):=by
 unfold offL;by_cases h1:c = 82
 ·simp[h1]
 by_cases h2:c = 65
 ·simp[h2]
 by_cases h3:c = 66
 ·simp[h3]
 simp[h1,h2,h3]
def formS (op:Int):ByteArray :=
 if op = 1 then ⟨#[82,78]⟩ else if op = 2 ∨ op = 10 then ⟨#[82,65,66]⟩ else if op = 3 ∨ op = 4 then ⟨#[82,65,78]⟩ else if op = 5 then ⟨#[65,66,78]⟩
 else if op = 6 then ⟨#[82,65,66,78]⟩ else if op = 7 then ⟨#[65,78]⟩ else if op = 8 then ⟨#[78]⟩ else ⟨#[]⟩
def formOk (op:Int):Bool:=inR op 1 10
def fld (v most:Int) (has:Bool):Bool:=inR v 0 most && (has || decide (v = 0))
def hasR (op:Int):Bool:=decide (op = 1 ∨ op = 2 ∨ op = 3 ∨ op = 4 ∨ op = 6 ∨ op = 10)
def hasA (op:Int):Bool:=decide (op = 2 ∨ op = 3 ∨ op = 4 ∨ op = 5 ∨ op = 6 ∨ op = 7 ∨ op = 10)
def hasB (op:Int):Bool:=decide (op = 2 ∨ op = 5 ∨ op = 6 ∨ op = 10)
def hasN (op:Int):Bool:=decide (op = 1 ∨ op = 3 ∨ op = 4 ∨ op = 5 ∨ op = 6 ∨ op = 7 ∨ op = 8)
def insOk (x:GIns):Bool:=inR x.op 1 10 && fld x.r 3 (hasR x.op) && fld x.a 3 (hasA x.op) && fld x.b 3 (hasB x.op) && fld x.n 63 (hasN x.op)
def chr (s:ByteArray) (i:Nat):Int:=((s.data.getD i 0).toNat:Int)
def upd1 (y x:GIns) (c:Int):GIns:=if c = 82 then { y with r:=x.r } else if c = 65 then { y with a:=x.a } else if c = 66 then { y with b:=x.b } else { y with n:=x.n }
def restN (s:ByteArray) (x:GIns):Nat → GIns
 | 0=>⟨x.op,0,0,0,0⟩
 | i + 1=>upd1 (restN s x i) x (chr s i)
theorem rU (op:Int):(formS op).size ≤ 4:=by
 unfold formS;by_cases h1:op = 1
 ·rw[if_pos h1];decide
 rw[if_neg h1];by_cases h2:op = 2 ∨ op = 10
 ·rw[if_pos h2];decide
 rw[if_neg h2];by_cases h3:op = 3 ∨ op = 4
 ·rw[if_pos h3];decide
 rw[if_neg h3];by_cases h5:op = 5
 ·rw[if_pos h5];decide
 rw[if_neg h5];by_cases h6:op = 6
 ·rw[if_pos h6];decide
 rw[if_neg h6];by_cases h7:op = 7
 ·rw[if_pos h7];decide
 rw[if_neg h7];by_cases h8:op = 8
 ·rw[if_pos h8];decide
 rw[if_neg h8];decide
theorem rV (x:GIns):(formOk x.op && decide (restN (formS x.op) x (formS x.op).size = x) && inR x.r 0 3 && inR x.a 0 3 && inR x.b 0 3 && inR x.n 0 63) = insOk x:=by
 obtain ⟨op,r,a,b,n⟩:=x;by_cases h:1 ≤ op ∧ op ≤ 10
 ·(have h':op = 1 ∨ op = 2 ∨ op = 3 ∨ op = 4 ∨ op = 5 ∨ op = 6 ∨ op = 7 ∨ op = 8 ∨ op = 9 ∨ op = 10:=by omega);rcases h' with rfl | rfl | rfl | rfl | rfl | rfl | rfl | rfl | rfl | rfl <;>
  ·rw[Bool.eq_iff_iff];simp[formOk,formS,restN,upd1,chr,insOk,fld,hasR,hasA,hasB,hasN,inR,ByteArray.size];try omega
 ·(have h1:inR op 1 10 = false:=by simp[inR];omega);simp[formOk,insOk,h1]
theorem ba {n k:Int} (h:0 ≤ n):n.tmod k = n % k:=Int.tmod_eq_emod_of_nonneg h
theorem bY {n k:Int} (h:0 ≤ n):n.tdiv k = n / k:=Int.tdiv_eq_ediv_of_nonneg h
theorem jV {n k:Int} (h:n < 0):n.tmod k = -((-n) % k):=by
 have:=Int.neg_tmod (-n) k;rw[Int.neg_neg] at this;rw[this,ba (by omega)]
def addr (n:Int):Int:=n % 24
theorem tmod24 (n:Int):-24 < n.tmod 24 ∧ n.tmod 24 < 24 ∧ (n.tmod 24) % 24 = n % 24:=by
 by_cases h:0 ≤ n
 ·rw[ba h];omega
 ·rw[jV (by omega)];omega
theorem uk (n:Int):-65536 < n.tmod 65536 ∧ n.tmod 65536 < 65536 ∧ (n.tmod 65536) % 65536 = n % 65536:=by
 by_cases h:0 ≤ n
 ·rw[ba h];omega
 ·rw[jV (by omega)];omega
theorem ul (n:Int):(IntKind.wrap .i64 (n.tmod 24 + 24)).tmod 24 = addr n:=by
 unfold addr;have h:=tmod24 n;(generalize n.tmod 24 = m at h ⊢);rw[ap (by omega) (by omega),ba (by omega)];omega
theorem nD {n:Int} (h:n.tmod 24 < 0):IntKind.wrap .i64 (n.tmod 24 + 24) = addr n:=by
 unfold addr;by_cases h0:0 ≤ n
 ·rw[ba h0] at h;omega
 ·rw[jV (by omega)] at h ⊢;rw[ap (by omega) (by omega)];omega
theorem nE {n:Int} (h:¬ n.tmod 24 < 0):n.tmod 24 = addr n:=by
 unfold addr;by_cases h0:0 ≤ n
 ·rw[ba h0]
 ·rw[jV (by omega)] at h ⊢;omega
theorem dE (n:Int):0 ≤ addr n ∧ addr n ≤ 23:=by unfold addr;omega
def word (n:Int):Int:=n % 65536
theorem um (n:Int):(IntKind.wrap .i64 (IntKind.wrap .i64 (n.tmod 65536 + 65535) + 1)).tmod 65536 = word n:=by
 unfold word;have h:=uk n;(generalize n.tmod 65536 = m at h ⊢);rw[ap (n:=m + 65535) (by omega) (by omega),ap (by omega) (by omega),ba (by omega)];omega
theorem vC (n:Int):(BitVec.ofInt 64 n &&& BitVec.ofInt 64 65535).toNat = (n % 65536).toNat:=by
 rw[BitVec.toNat_and,show (BitVec.ofInt 64 65535).toNat = 2 ^ 16 - 1 from by decide,Nat.and_two_pow_sub_one_eq_mod,BitVec.toNat_ofInt];omega
theorem un (n:Int):IntKind.wrap .i64 ((BitVec.ofInt 64 n &&& BitVec.ofInt 64 65535).toNat:Int) = word n:=by
 rw[vC,ap (by omega) (by omega)];unfold word;omega
theorem rW (n:Int):IntKind.wrap .i64 ((BitVec.ofInt 64 n &&& 65535#64).toNat:Int) = word n:=by rw[← un n];rfl
def hasBits (op:Int):Int:=if op = 1 then 9 else if op = 2 then 7 else if op = 3 then 11 else if op = 4 then 11 else if op = 5 then 14 else if op = 6 then 15 else if op = 7 then 10 else if op = 8 then 8 else if op = 10 then 7 else 0
def bitN (h k:Int):Bool:=decide (IntKind.wrap .i64 ((BitVec.ofInt 64 h &&& BitVec.ofInt 64 k).toNat:Int) ≠ 0)
theorem bit1 (h:Int):(IntKind.wrap .i64 ((BitVec.ofInt 64 h &&& 1#64).toNat:Int) != 0) = bitN h 1:=by
 rw[show (1#64:BitVec 64) = BitVec.ofInt 64 1 from rfl];unfold bitN;by_cases q:IntKind.wrap .i64 ((BitVec.ofInt 64 h &&& BitVec.ofInt 64 1).toNat:Int) = 0
 ·rw[q];rfl
 ·rw[decide_eq_true q];simpa using q
theorem bit2 (h:Int):(IntKind.wrap .i64 ((BitVec.ofInt 64 h &&& 2#64).toNat:Int) != 0) = bitN h 2:=by
 rw[show (2#64:BitVec 64) = BitVec.ofInt 64 2 from rfl];unfold bitN;by_cases q:IntKind.wrap .i64 ((BitVec.ofInt 64 h &&& BitVec.ofInt 64 2).toNat:Int) = 0
 ·rw[q];rfl
 ·rw[decide_eq_true q];simpa using q
theorem bit4 (h:Int):(IntKind.wrap .i64 ((BitVec.ofInt 64 h &&& 4#64).toNat:Int) != 0) = bitN h 4:=by
 rw[show (4#64:BitVec 64) = BitVec.ofInt 64 4 from rfl];unfold bitN;by_cases q:IntKind.wrap .i64 ((BitVec.ofInt 64 h &&& BitVec.ofInt 64 4).toNat:Int) = 0
 ·rw[q];rfl
 ·rw[decide_eq_true q];simpa using q
theorem bit8 (h:Int):(IntKind.wrap .i64 ((BitVec.ofInt 64 h &&& 8#64).toNat:Int) != 0) = bitN h 8:=by
 rw[show (8#64:BitVec 64) = BitVec.ofInt 64 8 from rfl];unfold bitN;by_cases q:IntKind.wrap .i64 ((BitVec.ofInt 64 h &&& BitVec.ofInt 64 8).toNat:Int) = 0
 ·rw[q];rfl
 ·rw[decide_eq_true q];simpa using q
theorem rX (x:GIns):(inR x.op 1 10 && fld x.r 3 (bitN (hasBits x.op) 1) && fld x.a 3 (bitN (hasBits x.op) 2) && fld x.b 3 (bitN (hasBits x.op) 4) && fld x.n 63 (bitN (hasBits x.op) 8)) = insOk x:=by
 obtain ⟨op,r,a,b,n⟩:=x;by_cases h:1 ≤ op ∧ op ≤ 10
 ·(have h':op = 1 ∨ op = 2 ∨ op = 3 ∨ op = 4 ∨ op = 5 ∨ op = 6 ∨ op = 7 ∨ op = 8 ∨ op = 9 ∨ op = 10:=by omega);(have e1:bitN (hasBits op) 1 = hasR op:=by rcases h' with rfl | rfl | rfl | rfl | rfl | rfl | rfl | rfl | rfl | rfl <;> decide);(have e2:bitN (hasBits op) 2 = hasA op:=by rcases h' with rfl | rfl | rfl | rfl | rfl | rfl | rfl | rfl | rfl | rfl <;> decide);(have e3:bitN (hasBits op) 4 = hasB op:=by rcases h' with rfl | rfl | rfl | rfl | rfl | rfl | rfl | rfl | rfl | rfl <;> decide);(have e4:bitN (hasBits op) 8 = hasN op:=by rcases h' with rfl | rfl | rfl | rfl | rfl | rfl | rfl | rfl | rfl | rfl <;> decide);simp only[e1,e2,e3,e4,insOk]
 ·(have h1:inR op 1 10 = false:=by simp[inR];omega);simp[insOk,h1]
def decIns (w:Int):GIns:=⟨w % 16,w / 16 % 4,w / 64 % 4,w / 256 % 4,w / 1024⟩
def decOk (w:Int):Bool:=isW w && insOk (decIns w)
def decode (w:Int):GIns:=if decOk w = true then decIns w else ⟨0,0,0,0,0⟩
def aims (x:GIns):Bool:=decide (x.op = 4 ∨ x.op = 5 ∨ x.op = 6)
def target (x:GIns) (regs:List Int):Int:=if insOk x = true ∧ aims x = true ∧ regs.length = 4 then addr (IntKind.wrap .i64 (regs.getD x.a.toNat 0 + x.n)) else -1
def hartOk (h:GHart):Bool:=wordsOk h.regs 4 && inR h.pc 0 23 && inR h.state 0 2
theorem cj {x:GIns} (h:insOk x = true):(1 ≤ x.op ∧ x.op ≤ 10) ∧ (0 ≤ x.r ∧ x.r ≤ 3) ∧ (0 ≤ x.a ∧ x.a ≤ 3) ∧ (0 ≤ x.b ∧ x.b ≤ 3) ∧ (0 ≤ x.n ∧ x.n ≤ 63):=by
 simp[insOk,fld,inR] at h;omega
def work (h:GHart) (x:GIns) (got:Int):GHart × Int :=
 if hartOk h = true ∧ h.state = 0 ∧ isW got = true then
  if insOk x = true then
   if x.op = 1 then (⟨h.regs.set x.r.toNat x.n,addr (h.pc + 1),0⟩,-1)
   else if x.op = 2 then (⟨h.regs.set x.r.toNat (word (h.regs.getD x.a.toNat 0 + h.regs.getD x.b.toNat 0)),addr (h.pc + 1),0⟩,-1)
   else if x.op = 10 then (⟨h.regs.set x.r.toNat (word (h.regs.getD x.a.toNat 0 - h.regs.getD x.b.toNat 0)),addr (h.pc + 1),0⟩,-1)
   else if x.op = 3 then (⟨h.regs.set x.r.toNat (word (h.regs.getD x.a.toNat 0 + x.n)),addr (h.pc + 1),0⟩,-1)
   else if x.op = 4 then (⟨h.regs.set x.r.toNat got,addr (h.pc + 1),0⟩,-1)
   else if x.op = 5 then (⟨h.regs,addr (h.pc + 1),0⟩,h.regs.getD x.b.toNat 0)
   else if x.op = 6 then (⟨h.regs.set x.r.toNat got,addr (h.pc + 1),0⟩,word (got + h.regs.getD x.b.toNat 0))
   else if x.op = 7 then (⟨h.regs,if h.regs.getD x.a.toNat 0 = 0 then addr x.n else addr (h.pc + 1),0⟩,-1)
   else if x.op = 8 then (⟨h.regs,addr x.n,0⟩,-1)
   else (⟨h.regs,h.pc,1⟩,-1)
  else (⟨h.regs,h.pc,2⟩,-1)
 else (h,-1)
theorem me {h:GHart} {x:GIns} {got:Int} (q:¬ (hartOk h = true ∧ h.state = 0 ∧ isW got = true)):work h x got = (h,-1):=if_neg q
theorem cF {h:GHart} (q:hartOk h = true):wordsOk h.regs 4 = true ∧ (h.regs.length:Int) = 4 ∧ (0 ≤ h.pc ∧ h.pc ≤ 23) ∧ (0 ≤ h.state ∧ h.state ≤ 2):=by
 unfold hartOk at q;rw[Bool.and_eq_true,Bool.and_eq_true] at q;obtain ⟨⟨q1,q2⟩,q3⟩:=q;exact ⟨q1,dg q1,(am _ _ _).1 q2,(am _ _ _).1 q3⟩
theorem oI (x:GIns) (regs:List Int):target x regs = -1 ∨ (0 ≤ target x regs ∧ target x regs ≤ 23):=by
 unfold target;split
 ·right;exact dE _
 ·left;rfl
def GMsg.small (x:GMsg):Prop:=(x.list.length ≤ 1048576)
def GSender.small (x:GSender):Prop:=(x.queue.length ≤ 1048576) ∧ (∀ a ∈ x.queue,a.small)
def GPacket.small (x:GPacket):Prop:=(x.msg.small)
def GFrame.small (x:GFrame):Prop:=(x.list.length ≤ 1048576)
def GHome.small (x:GHome):Prop:=(x.list.length ≤ 1048576) ∧ (x.readers.length ≤ 1048576) ∧ (x.queue.length ≤ 1048576)
def GNode.small (x:GNode):Prop:=(x.frames.length ≤ 1048576) ∧ (∀ a ∈ x.frames,a.small) ∧ (x.homes.length ≤ 1048576) ∧ (∀ a ∈ x.homes,a.small) ∧ (x.out.length ≤ 1048576) ∧ (∀ a ∈ x.out,a.small) ∧ (x.in_.length ≤ 1048576)
def GWorld.small (x:GWorld):Prop:=(x.nodes.length ≤ 1048576) ∧ (∀ a ∈ x.nodes,a.small) ∧ (x.net.length ≤ 1048576) ∧ (∀ a ∈ x.net,a.small)
def GHart.small (x:GHart):Prop:=(x.regs.length ≤ 1048576)
def GBlock.small (x:GBlock):Prop:=(x.list.length ≤ 1048576)
def GCore.small (x:GCore):Prop:=(x.hart.small) ∧ (x.cache.length ≤ 1048576) ∧ (∀ a ∈ x.cache,a.small)
def GFlock.small (x:GFlock):Prop:=(x.world.small) ∧ (x.cores.length ≤ 1048576) ∧ (∀ a ∈ x.cores,a.small)
section
variable {P:Program} {w0 w w':World} {Al:Blks} {N:Nat} {g:Gh} {σ σ':St} {a:Act}
theorem aG {f:FuncId} {b:Bool} {ts ts1 ts':List T} {args res:List A} {k:Nat} {rs zs:List Nat} {ls:List L} {cnd:Prop} {vs:List V} {V0 v:V} {K:St → V → Prop} (hpm:PM P f b ts args ts' res)
  (hV:handV σ b k ls V0) (ht:takeLs σ zs ls = some (cnd,ts1,rs)) (hts:cnd ∧ ts1 = ts) (hden:denVs { σ with row:=del rs σ.row } vs args) (hfr:σ.row.all (fun x=>decide (x.1 < σ.nxt)) = true)
  (hv:oneV (valsN (σ.nxt + ts'.length) res) = some v) (hK:K (σ.moved b k rs ts' res) v):CallW P false f (V0 :: vs) K σ:=by
 obtain ⟨hc,rfl⟩:=hts
 exact rR hpm hV ht hc hden hfr hv hK
end
attribute [go_sem] oneIf hand0 St.startP St.moved handV OutP boxL
theorem aN {P:Program} {N:Nat} {K:Exit → St → Prop} {x y:Code} {σ:St} {α:Type} (I:α → St) (φ:α → Prop) (h1:∀ K':St → Prop,(∀ σ',(∃ p,φ p ∧ Sub σ' (I p)) → K' σ') → W P N x (Then K' K) σ) (h2:∀ p,φ p → W P N y K (I p)):W P N (.seq x y) K σ :=
 W_seqJ I φ (h1 _ fun _ h=>h) h2
theorem tk {A B:Prop} (h:B) (a:A:=by first | omega | grind):A ∧ B:=⟨a,h⟩
theorem ah {P:Program} {k:Bool} {f:FuncId} {args res:List A} {vs:List V} {v:V} {c:Prop} {G:Bool} {d:Option Nat} {next:St → Prop} {σ:St} (hpc:G = true → PC P f args res)
  (hden:G = true → denVs σ vs args) (hv:oneV (valsN σ.nxt res) = some v) (hfr:σ.row.all (fun x=>decide (x.1 < σ.nxt)) = true)
  (hK:next ((σ.answer res).set d G v)) (hc:G = true → c:=by first | (simp;done) | (simp[am];done) | (simp[am];grind) | grind)
  (hfl:G = true ∨ (flatA res).all (fun t=>match t with | .sl ..=>false | _=>true) = true:=by first | exact Or.inl rfl | exact Or.inr rfl):CallG P k f vs c G d next σ:=uW hpc hc hden hv hfr hfl hK
theorem sr (a b:Nat) {σ τ:St} (h:Sub (σ.ren (swp a b) fun n=>n) τ):Sub σ τ:=(Sub.swp_row a b rfl).trans h
theorem sb (a b:Nat) {σ τ:St} (h:Sub (σ.ren (fun n=>n) (swp a b)) τ):Sub σ τ:=(Sub.swp_box a b rfl).trans h
theorem nr (t nm z:Nat) {σ τ:St} (hg:get σ.env t = some (true,.l .nil)) (hnm:get σ.row nm = none) (h:Sub { σ with env:=(t,true,.l (.ref nm [] z 0 0)) :: del [t] σ.env,row:=(nm,⟨.own,z,[]⟩) :: σ.row } τ):Sub σ τ:=(Sub.nilRow hg hnm).trans h
theorem nb (k j nm z:Nat) {σ τ:St} {ls:List L} (hb:get σ.box k = some ls) (hj:ls[j]? = some .nil) (hnm:get σ.row nm = none) (h:Sub { σ with box:=(k,ls.set j (.ref nm [] z 0 0)) :: del [k] σ.box,row:=(nm,⟨.own,z,[]⟩) :: σ.row } τ):Sub σ τ:=(Sub.nilBox hb hj hnm).trans h
theorem on {σ σ':St} (ts rs bs:List Nat) (n:Nat) (h:σ.neat ts rs bs n = σ') (hn:ts.Nodup:=by decide):Sub σ σ':=Sub.of_neat ts rs bs n hn h
def ends (x:GIns):Bool:=!(insOk x) || decide (x.op = 7) || decide (x.op = 8) || decide (x.op = 9)
def badIns (n i:Nat) (x:GIns):Bool:=(!(insOk x) && decide (x ≠ ⟨0,0,0,0,0⟩)) || (ends x && decide (i + 1 < n))
def blockHd (b:GBlock):Bool:=inR b.start 0 23 && inR (b.list.length:Int) 1 (4 - b.start % 4)
def blockOk (b:GBlock):Bool:=blockHd b && (List.range b.list.length).all fun i=>match b.list[i]? with
 | some x=>!badIns b.list.length i x
 | none=>true
theorem je {b:GBlock} (h:blockHd b = false):blockOk b = false:=by unfold blockOk;rw[h];rfl
theorem lm {b:GBlock} {i:Nat} (h:i < b.list.length) (hb:badIns b.list.length i b.list[i] = true):blockOk b = false:=by
 have:((List.range b.list.length).all fun i=>match b.list[i]? with | some x=>!badIns b.list.length i x | none=>true) = false:=by
  rw[List.all_eq_false];exact ⟨i,by simpa using h,by simp[h,hb]⟩
 unfold blockOk;rw[this,Bool.and_false]
theorem jW {b:GBlock} (hh:blockHd b = true) (h:∀ j,(hj:j < b.list.length) → badIns b.list.length j b.list[j] = false):blockOk b = true:=by
 have:((List.range b.list.length).all fun i=>match b.list[i]? with | some x=>!badIns b.list.length i x | none=>true) = true:=by
  rw[List.all_eq_true];intro j hj;(have hj:j < b.list.length:=by simpa using hj);simp[hj,h j hj]
 unfold blockOk;rw[hh,this];rfl
theorem dN {b:GBlock} (h:blockOk b = true):0 ≤ b.start ∧ b.start ≤ 23:=by
 unfold blockOk blockHd at h;rw[Bool.and_eq_true,Bool.and_eq_true] at h;exact (am _ _ _).1 h.1.1
def pageOf (b:GBlock):Int:=if blockOk b = true then b.start / 4 else -1
def frameOk (f:GFrame):Bool:=if f.state = 0 then decide (f.list.length = 0) else inR f.state 0 2 && wordsOk f.list 4
theorem fW {f:GFrame} (h:f.state = 0):frameOk f = decide (f.list.length = 0):=if_pos h
theorem cL {f:GFrame} (h:¬ f.state = 0):frameOk f = (inR f.state 0 2 && wordsOk f.list 4):=if_neg h
theorem rY {f:GFrame} (h:¬ f.state = 0):frameOk f = ((decide (f.state = 1) || decide (f.state = 2)) && wordsOk f.list 4):=by
 rw[cL h];congr 1;unfold inR;by_cases h1:f.state = 1
 ·simp[h1]
 ·by_cases h2:f.state = 2
  ·simp[h2]
  ·simp only[h1,h2,decide_false,Bool.or_self];simp;omega
def blk:List Int → List GIns
 | []=>[]
 | w :: ws=>if ends (decode w) = true then [decode w] else decode w :: blk ws
theorem sP:∀ ws:List Int,(blk ws).length ≤ ws.length
 | []=>by simp[blk]
 | w :: ws=>by
  unfold blk
  split
  ·simp
  ·have:=sP ws
   simp
   omega
def blockOf (ws:List Int) (s:Int):GBlock:=if ws.length = 4 ∧ 0 ≤ s ∧ s ≤ 23 then ⟨s,blk (ws.drop (s % 4).toNat)⟩ else ⟨0,[]⟩
theorem sQ {ws:List Int} {s i:Nat} {out:List GIns} (h:blk (ws.drop s) = out ++ blk (ws.drop i)) (hi:i < ws.length) (he:ends (decode ws[i]) = true):out ++ [decode ws[i]] = blk (ws.drop s):=by
 rw[h,List.drop_eq_getElem_cons hi];simp[blk,he]
theorem pS {ws:List Int} {s i:Nat} {out:List GIns} (h:blk (ws.drop s) = out ++ blk (ws.drop i)) (hi:i < ws.length) (he:ends (decode ws[i]) = false):blk (ws.drop s) = (out ++ [decode ws[i]]) ++ blk (ws.drop (i + 1)):=by
 rw[h,List.drop_eq_getElem_cons hi];simp[blk,he]
theorem pT {ws:List Int} {s i:Nat} {out:List GIns} (h:blk (ws.drop s) = out ++ blk (ws.drop i)) (hi:ws.length ≤ i):out = blk (ws.drop s):=by
 rw[h,List.drop_of_length_le hi];simp[blk]
theorem aX {P:Program} {k:Bool} {f:FuncId} {vs:List V} {c:Prop} {d:Option Nat} {next:St → Prop} {σ:St} (v:V) (h:next (σ.set d false v)):CallG P k f vs c false d next σ :=
 ⟨σ,v,fun _ _ _ _ _ g R=>⟨g,R⟩,fun _=>h,fun e=>by cases e⟩
def bOk (fs:List GFrame) (b:GBlock):Bool:=blockOk b && decide (b = blockOf (fs.getD (b.start / 4).toNat ⟨0,[],false⟩).list b.start)
def cacheOk (list:List GBlock) (fs:List GFrame):Bool:=decide (list.length ≤ 5) && decide (fs.length = 6) && fs.all frameOk && list.all (bOk fs)
theorem mX {list:List GBlock} {fs:List GFrame} (h:¬ (list.length ≤ 5 ∧ fs.length = 6)):cacheOk list fs = false:=by
 unfold cacheOk;by_cases h1:list.length ≤ 5
 ·have h2:¬ fs.length = 6:=fun e=>h ⟨h1,e⟩;simp[h2]
 ·simp[h1]
theorem rZ {list:List GBlock} {fs:List GFrame} {i:Nat} (h:i < fs.length) (hf:frameOk fs[i] = false):cacheOk list fs = false:=by
 (have:fs.all frameOk = false:=by rw[List.all_eq_false];exact ⟨fs[i],List.getElem_mem h,by simp[hf]⟩);unfold cacheOk;simp[this]
theorem pU {list:List GBlock} {fs:List GFrame} (h:(fs.any fun f=>!(frameOk f)) = true):cacheOk list fs = false:=by
 have:fs.all frameOk = false:=by
  rw[List.all_eq_false];obtain ⟨f,hf,h⟩:=List.any_eq_true.1 h;exact ⟨f,hf,by simpa using h⟩
 unfold cacheOk;simp[this]
theorem eO {list:List GBlock} {fs:List GFrame} {i:Nat} (h:i < list.length) (hf:bOk fs list[i] = false):cacheOk list fs = false:=by
 (have:list.all (bOk fs) = false:=by rw[List.all_eq_false];exact ⟨list[i],List.getElem_mem h,by simp[hf]⟩);unfold cacheOk;rw[this,Bool.and_false]
theorem gY {α:Type} {xs:List α} {p:α → Bool} (h:∀ j,(hj:j < xs.length) → p xs[j] = true):xs.all p = true:=by
 rw[List.all_eq_true];intro x hx;obtain ⟨j,hj,rfl⟩:=List.getElem_of_mem hx;exact h j hj
theorem all_any {α:Type} {xs:List α} {p:α → Bool} (h:(xs.any fun x=>!(p x)) = false):xs.all p = true:=by
 rw[List.all_eq_true];intro x hx;have:=List.any_eq_false.1 h x hx;simpa using this
theorem jX {list:List GBlock} {fs:List GFrame} (h1:list.length ≤ 5) (h2:fs.length = 6) (h3:fs.all frameOk = true) (h4:∀ j,(hj:j < list.length) → bOk fs list[j] = true):cacheOk list fs = true:=by
 unfold cacheOk;rw[h3,gY h4];simp[h1,h2]
theorem sR {b:GBlock} (h:blockOk b = true):∃ pg:Nat,b.start / 4 = pg ∧ IntKind.wrap .i64 (b.start.tdiv 4) = (pg:Int) ∧ pg < 6:=by
 have hs:=dN h;refine ⟨(b.start / 4).toNat,by omega,?_,by omega⟩;rw[bY hs.1,ap (by omega) (by omega)];omega
theorem se (b:GBlock) {n:Nat} (hn:n = 6):(blockOk b = false ∧ blockOk b = false ∧ blockOk b = false) ∨ (blockOk b = true ∧ ∃ pg:Nat,b.start / 4 = pg ∧ IntKind.wrap .i64 (b.start.tdiv 4) = (pg:Int) ∧ pg < n):=by
 subst hn;by_cases h:blockOk b = true
 ·exact Or.inr ⟨h,sR h⟩
 ·(have h:blockOk b = false:=by simpa using h);exact Or.inl ⟨h,h,h⟩
theorem sf {fs:List GFrame} {b:GBlock} (h:blockOk b = false):bOk fs b = false:=by unfold bOk;rw[h];rfl
theorem gZ {fs:List GFrame} {b:GBlock} {pg:Nat} (h:blockOk b = true) (hp:b.start / 4 = pg) (hl:pg < fs.length):bOk fs b = decide (b = blockOf fs[pg].list b.start):=by
 unfold bOk;rw[h,hp,Bool.true_and,Int.toNat_natCast,List.getD_eq_getElem?_getD,List.getElem?_eq_getElem hl,Option.getD_some]
theorem fg {ws:List Int} {s:Int} {n:Nat} (h:ws.length ≤ n):(blockOf ws s).list.length ≤ n:=by
 unfold blockOf;split
 ·have:=sP (ws.drop (s % 4).toNat);simp only[List.length_drop] at this;(show (blk _).length ≤ n);omega
 ·simp
theorem pV {list:List GBlock} {fs:List GFrame} (h:((decide ((5:Int) < list.length) || ((fs.length:Int) != 6)) || fs.any fun f=>!(frameOk f)) = true):cacheOk list fs = false:=by
 by_cases hh:list.length ≤ 5 ∧ fs.length = 6
 ·refine pU ?_;(have h1:decide ((5:Int) < list.length) = false:=by simp;omega);(have h2:((fs.length:Int) != 6) = false:=by simp;omega);rw[h1,h2] at h;simpa using h
 ·exact mX hh
theorem pW (xs:List Int):wordsOk xs 0 = decide (xs.length = 0):=by
 cases xs with
 | nil=>rfl
 | cons x xs =>
  (have:decide (((x :: xs).length:Int) = 0) = false:=by simp;omega);unfold wordsOk;rw[this];simp
def msgHd (m:GMsg):Bool:=inR m.kind 1 7 && inR m.page 0 5 && ((decide (m.kind = 3) || decide (m.kind = 6)) || !m.own)
def msgOk (m:GMsg):Bool:=msgHd m && wordsOk m.list (if m.kind = 3 ∨ m.kind = 7 then 4 else 0)
theorem vD {m:GMsg} (h:msgHd m = false):msgOk m = false:=by unfold msgOk;rw[h];rfl
theorem sg {m:GMsg} (h:msgHd m = true) (hk:m.kind = 3 ∨ m.kind = 7):msgOk m = wordsOk m.list 4:=by unfold msgOk;rw[h,if_pos hk];rfl
theorem sh {m:GMsg} (h:msgHd m = true) (hk:¬ (m.kind = 3 ∨ m.kind = 7)):msgOk m = decide (m.list.length = 0):=by unfold msgOk;rw[h,if_neg hk,pW];rfl
def sendHd (s:GSender):Bool:=inR s.base 0 100000 && decide ((s.queue.length:Int) ≤ 30) && decide (IntKind.wrap .i64 (s.base + s.queue.length) ≤ 100000)
def senderOk (s:GSender):Bool:=sendHd s && s.queue.all msgOk
theorem oJ {s:GSender} {i:Nat} (h:i < s.queue.length) (hf:msgOk s.queue[i] = false):senderOk s = false:=by
 (have:s.queue.all msgOk = false:=by rw[List.all_eq_false];exact ⟨s.queue[i],List.getElem_mem h,by simp[hf]⟩);unfold senderOk;rw[this,Bool.and_false]
theorem nF {s:GSender} (h:∀ j,(hj:j < s.queue.length) → msgOk s.queue[j] = true):senderOk s = sendHd s:=by
 unfold senderOk;rw[gY h,Bool.and_true]
theorem hC {α:Type} (xs:List α) (p:α → Bool):(!(xs.any fun x=>!(p x))) = xs.all p:=by
 induction xs with
 | nil=>rfl
 | cons x xs ih=>simp only[List.any_cons,List.all_cons,← ih];cases p x <;> rfl
def wofN (who n:Int):Bool:=inR who 0 (IntKind.wrap .i64 (n - 1))
def homeHd (h:GHome) (n:Int):Bool:=inR n 1 4 && wordsOk h.list 4 && inR h.owner (-1) (IntKind.wrap .i64 (n - 1)) && decide ((h.readers.length:Int) = n) && wofN h.now.who n && inR h.acks 0 n && decide ((h.queue.length:Int) ≤ 12)
def homeOk (h:GHome) (n:Int):Bool:=homeHd h n && h.queue.all fun w=>wofN w.who n
theorem uo {h:GHome} {n:Int} (q:homeHd h n = false):homeOk h n = false:=by unfold homeOk;rw[q];rfl
theorem si {h:GHome} {n:Int} {i:Nat} (hi:i < h.queue.length) (hf:wofN h.queue[i].who n = false):homeOk h n = false:=by
 (have:(h.queue.all fun w=>wofN w.who n) = false:=by rw[List.all_eq_false];exact ⟨h.queue[i],List.getElem_mem hi,by simp[hf]⟩);unfold homeOk;rw[this,Bool.and_false]
theorem ln {h:GHome} {n:Int} (q:homeHd h n = true) (hf:∀ j,(hj:j < h.queue.length) → wofN h.queue[j].who n = true):homeOk h n = true:=by
 unfold homeOk;rw[q,gY (p:=fun w:GWait=>wofN w.who n) hf];rfl
theorem sj (h:GHome) (n:Int):(homeHd h n && !(h.queue.any fun w=>!(inR n 1 4 && wofN w.who n))) = homeOk h n:=by
 unfold homeOk;by_cases q:homeHd h n = true
 ·have hn:inR n 1 4 = true:=by
   unfold homeHd at q;simp only[Bool.and_eq_true] at q;exact q.1.1.1.1.1.1
  rw[hn];simp only[Bool.true_and];rw[hC]
 ·(have q:homeHd h n = false:=by simpa using q);rw[q];rfl
def nodeHd (x:GNode) (n:Int):Bool:=inR n 1 4 && inR x.id 0 (IntKind.wrap .i64 (n - 1)) && decide ((x.frames.length:Int) = 6) && decide ((x.homes.length:Int) = 6) && decide ((x.out.length:Int) = n) && decide ((x.in_.length:Int) = n)
def gotOk (r:GReceiver):Bool:=inR r.got 0 100000
def nodeOk (x:GNode) (n:Int):Bool:=nodeHd x n && x.frames.all frameOk && (x.homes.all fun h=>homeOk h n) && x.out.all senderOk && x.in_.all gotOk
theorem mY {α:Type} {xs:List α} {p:α → Bool} {i:Nat} (h:i < xs.length) (hp:p xs[i] = false):xs.all p = false:=by
 rw[List.all_eq_false];exact ⟨xs[i],List.getElem_mem h,by simp[hp]⟩
theorem uq {x:GNode} {n:Int} (h:nodeHd x n = false):nodeOk x n = false:=by unfold nodeOk;simp[h]
theorem pX {x:GNode} {n:Int} {i:Nat} (h1:i < x.frames.length) (h2:i < x.homes.length) (h:(!(frameOk x.frames[i]) || !(homeOk x.homes[i] n)) = true):nodeOk x n = false:=by
 unfold nodeOk;cases hf:frameOk x.frames[i] with
 | false=>rw[mY h1 hf];simp
 | true =>
  rw[hf] at h;rw[mY (p:=fun h=>homeOk h n) h2 (by simpa using h)];simp
theorem pY {x:GNode} {n:Int} {i:Nat} (h1:i < x.out.length) (h2:i < x.in_.length) (h:(!(senderOk x.out[i]) || !(inR x.in_[i].got 0 100000)) = true):nodeOk x n = false:=by
 unfold nodeOk;cases hf:senderOk x.out[i] with
 | false=>rw[mY h1 hf];simp
 | true =>
  rw[hf] at h;rw[mY (p:=gotOk) h2 (by simpa [gotOk] using h)];simp
theorem pZ {x:GNode} {n:Int} (h:nodeHd x n = true) (h1:∀ j,(hj:j < x.frames.length) → frameOk x.frames[j] = true) (h2:∀ j,(hj:j < x.homes.length) → homeOk x.homes[j] n = true)
  (h3:∀ j,(hj:j < x.out.length) → senderOk x.out[j] = true) (h4:∀ j,(hj:j < x.in_.length) → inR x.in_[j].got 0 100000 = true):nodeOk x n = true:=by
 unfold nodeOk
 rw[h,gY h1,gY (p:=fun h=>homeOk h n) h2,gY h3,gY (p:=gotOk) h4]
 rfl
theorem sk {x:GNode} {n:Int} (h:nodeHd x n = true):(1 ≤ n ∧ n ≤ 4) ∧ x.frames.length = 6 ∧ x.homes.length = 6 ∧ (x.out.length:Int) = n ∧ (x.in_.length:Int) = n:=by
 unfold nodeHd inR at h;simp at h;omega
theorem vE {α:Type} (f:α → List T) (xs:List α):(enc f xs).tail = enc f xs.tail:=by cases xs <;> rfl
attribute [go_sem] vE
def cacheAdd (l:List GBlock) (b:GBlock):List GBlock:=if blockOk b = true then (if 5 ≤ l.length then l.drop 1 else l) ++ [b] else l
theorem hD {l:List GBlock} {b:GBlock} (h:blockOk b = false):cacheAdd l b = l:=by unfold cacheAdd;rw[if_neg (by simp[h])]
theorem iE {l:List GBlock} {b:GBlock} (h:blockOk b = true) (h5:5 ≤ l.length):cacheAdd l b = l.drop 1 ++ [b]:=by unfold cacheAdd;rw[if_pos h,if_pos h5]
theorem iF {l:List GBlock} {b:GBlock} (h:blockOk b = true) (h5:¬ 5 ≤ l.length):cacheAdd l b = l ++ [b]:=by unfold cacheAdd;rw[if_pos h,if_neg h5]
theorem ei (l:List GBlock) (b:GBlock):(cacheAdd l b).length ≤ max l.length 5:=by
 unfold cacheAdd;split
 ·split <;> simp <;> omega
 ·omega
theorem ej {l:List GBlock} {b a:GBlock} (h:a ∈ cacheAdd l b):a ∈ l ∨ a = b:=by
 unfold cacheAdd at h;split at h
 ·rcases List.mem_append.1 h with h | h
  ·split at h
   ·exact Or.inl (List.mem_of_mem_drop h)
   ·exact Or.inl h
  ·exact Or.inr (by simpa using h)
 ·exact Or.inl h
def purge (l:List GBlock) (page:Int):List GBlock:=l.filter fun b=>decide (pageOf b ≠ page)
theorem sm (l:List GBlock) (page:Int):purge (l.take 0) page = []:=rfl
theorem fX {l:List GBlock} {page:Int} {i:Nat} (h:i < l.length):purge (l.take (i + 1)) page = purge (l.take i) page ++ (if pageOf l[i] = page then [] else [l[i]]):=by
 unfold purge;rw[← List.take_append_getElem h,List.filter_append];by_cases hp:pageOf l[i] = page <;> simp[hp]
theorem sn (l:List GBlock) (page:Int):purge (l.take l.length) page = purge l page:=by rw[List.take_length]
theorem nV (l:List GBlock) (page:Int):(purge l page).length ≤ l.length:=List.length_filter_le _ _
theorem ur {l:List GBlock} {page:Int} {a:GBlock} (h:a ∈ purge l page):a ∈ l:=(List.mem_filter.1 h).1
theorem hE (n:Int):isW (word n) = true:=by unfold isW word inR;simp;omega
theorem qe {h:GHart} {x:GIns} {got:Int} (hp:0 ≤ (work h x got).2):hartOk h = true ∧ h.state = 0 ∧ isW got = true ∧ insOk x = true ∧ (x.op = 5 ∨ x.op = 6) ∧ isW (work h x got).2 = true:=by
 by_cases q:hartOk h = true ∧ h.state = 0 ∧ isW got = true
 ·by_cases qi:insOk x = true
  ·refine ⟨q.1,q.2.1,q.2.2,qi,?_⟩;obtain ⟨qw,ql,-,-⟩:=cF q.1;have qb:=(cj qi).2.2.2.1;(have hb:x.b.toNat < h.regs.length:=by omega);have hw:=de qw hb;unfold work at hp ⊢;rw[if_pos q,if_pos qi] at hp ⊢;by_cases e1:x.op = 1
   ·rw[if_pos e1] at hp;exact absurd (show (0:Int) ≤ -1 from hp) (by decide)
   rw[if_neg e1] at hp ⊢;by_cases e2:x.op = 2
   ·rw[if_pos e2] at hp;exact absurd (show (0:Int) ≤ -1 from hp) (by decide)
   rw[if_neg e2] at hp ⊢;by_cases e10:x.op = 10
   ·rw[if_pos e10] at hp;exact absurd (show (0:Int) ≤ -1 from hp) (by decide)
   rw[if_neg e10] at hp ⊢;by_cases e3:x.op = 3
   ·rw[if_pos e3] at hp;exact absurd (show (0:Int) ≤ -1 from hp) (by decide)
   rw[if_neg e3] at hp ⊢;by_cases e4:x.op = 4
   ·rw[if_pos e4] at hp;exact absurd (show (0:Int) ≤ -1 from hp) (by decide)
   rw[if_neg e4] at hp ⊢;by_cases e5:x.op = 5
   ·rw[if_pos e5];refine ⟨Or.inl e5,?_⟩;simp only[List.getD_eq_getElem?_getD,List.getElem?_eq_getElem hb,Option.getD_some];unfold isW;exact (am _ _ _).2 hw
   rw[if_neg e5] at hp ⊢;by_cases e6:x.op = 6
   ·rw[if_pos e6];exact ⟨Or.inr e6,hE _⟩
   rw[if_neg e6] at hp;by_cases e7:x.op = 7
   ·rw[if_pos e7] at hp;exact absurd (show (0:Int) ≤ -1 from hp) (by decide)
   rw[if_neg e7] at hp;by_cases e8:x.op = 8
   ·rw[if_pos e8] at hp;exact absurd (show (0:Int) ≤ -1 from hp) (by decide)
   rw[if_neg e8] at hp;exact absurd (show (0:Int) ≤ -1 from hp) (by decide)
  ·unfold work at hp;rw[if_pos q,if_neg qi] at hp;exact absurd (show (0:Int) ≤ -1 from hp) (by decide)
 ·rw[me q] at hp;exact absurd (show (0:Int) ≤ -1 from hp) (by decide)
theorem hP {mem:List Int} {n v:Int} {i:Nat} (h:wordsOk mem n = true) (hv:isW v = true):wordsOk (mem.set i v) n = true:=by
 unfold wordsOk at *;rw[Bool.and_eq_true] at *;refine ⟨by simpa using h.1,?_⟩;rw[List.all_eq_true] at *;intro x hx;rcases List.mem_or_eq_of_mem_set hx with hx | rfl
 ·exact h.2 x hx
 ·exact hv
def z0:GHart:=⟨[],0,0⟩
end Go.Tw
