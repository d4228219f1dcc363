/- The layer: trees, states, rules; plain functions. -/
import Derived.Test.YtfajbeoajomljaaGreatBaseB
import Derived.OrdersHeld
import Derived.Laws.BitsLemmas
import Derived.WalkKit
import Derived.ProofKit
import Derived.OpenShut
import Derived.ShutString
import Derived.ChangeOld
import Derived.Below
import Derived.SizedLaws
import Derived.ChangeSlices
import Derived.ChangeArms
set_option linter.unusedSimpArgs false
set_option linter.unusedVariables false
set_option linter.unnecessarySimpa false
namespace Go.Tw
def W (P:Program) (N:Nat) (c:Code) (K:Exit → St → Prop) (σ:St):Prop :=
 ∀ w0 Al a w g,Rel w0 Al N σ a w g → c.wp P (Lift w0 Al N K) a w
section
variable {P:Program} {w0 w w':World} {Al:Blks} {N:Nat} {g:Gh} {σ σ':St} {a:Act} {ops:Array Oper} {K K':Exit → St → Prop}
theorem cK {K:St → Prop} {Q:Exit → Act → World → Prop}:∀ (l:List Nat) (σ:St) (a:Act) (w:World) (g:Gh),Run P N ops K l σ → Rel w0 Al N σ a w g → (∀ σ' a' w' g',Rel w0 Al N σ' a' w' g' → K σ' → Q .normal a' w') → wpOps P ops Q l a w
 | [],σ,a,w,g,h,R,hQ=>hQ σ a w g R h
 | i :: rest,σ,a,w,g,h,R,hQ=>by
  simp only[Run] at h
  simp only[wpOps]
  cases ho:ops[i]? with
  | none =>
   simp only[ho] at h
   exact cK rest σ a w g h R hQ
  | some o =>
   simp only[ho] at h ⊢
   obtain ⟨hd,h⟩:=h
   have hd':∀ t,o.dst = some t → t < N:=by
    intro t ht
    rw[ht] at hd
    exact hd
   split at h
   ·exact h.elim
   ·rename_i G hG
    rw[fe R hG]
    split at h
    ·split at h
     ·rename_i c v hp
      obtain ⟨hc,h⟩:=h
      cases G with
      | true =>
       obtain ⟨r,hr,hv⟩:=uM R.mem R.slots hp (hc rfl)
       simp only[if_true]
       refine .inl ?_
       simp only[Oper.wp,hr,Oper.upon]
       exact cK rest _ _ _ g h (R.put hd' (fun _=>hv) (fun e=>by cases e)) hQ
      | false =>
       simp only[Bool.false_eq_true,if_false]
       exact cK rest _ _ _ g h (R.put hd' (fun e=>by cases e) (fun _=>rfl)) hQ
     ·exact h.elim
    ·split at h
     ·rename_i c f vs hcal
      obtain ⟨σ1,v1,hsub,h0,h1⟩:=h
      cases G with
      | false =>
       simp only[Bool.false_eq_true,if_false]
       obtain ⟨g1,R1⟩:=hsub _ _ _ _ _ _ R
       exact cK rest _ _ _ g1 (h0 rfl) (R1.put hd' (fun e=>by cases e) (fun _=>rfl)) hQ
      | true =>
       simp only[if_true]
       refine .inl ?_
       obtain ⟨hc,hours,hcall⟩:=h1 rfl
       obtain ⟨us,hus,hrun⟩:=mK R hcal hc hours
       simp only[Oper.wp,hrun,Oper.upon]
       refine Calls.mono (hcall w0 Al N a w g us R hus) fun e w2 he=>?_
       cases e with
       | returned r =>
        obtain ⟨σ2,g2,v,R2,hv,hK,_⟩:=he
        exact cK rest _ _ _ g2 hK (R2.put hd' (fun _=>hv) (fun e=>by cases e)) hQ
       | panicked=>exact he.elim
       | outgrown=>exact he.elim
     ·obtain ⟨h0,h1⟩:=h
      cases G with
      | false =>
       simp only[Bool.false_eq_true,if_false]
       exact cK rest _ _ _ g (h0 rfl) (R.put hd' (fun e=>by cases e) (fun _=>rfl)) hQ
      | true =>
       have h:=h1 rfl
       simp only[if_true]
       refine .inl ?_
       split at h
       ·rename_i c σ2 v he
        obtain ⟨hc,h⟩:=h
        obtain ⟨n,w2,g2,hr,_,R2,x,rfl,hv⟩:=md R he hc
        simp only[Oper.wp,hr,Oper.upon]
        exact cK rest _ _ _ g2 h ((R2.num (σ.nxt + 1)).put hd' (fun _=>hv.same rfl rfl) (fun e=>by cases e)) hQ
       ·rename_i c σ2 he
        obtain ⟨hc,h⟩:=h
        obtain ⟨n,w2,g2,hr,_,R2,rfl⟩:=md R he hc
        simp only[Oper.wp,hr,Oper.upon]
        exact cK rest _ _ _ g2 h ((R2.num (σ.nxt + 1)).put hd' (fun e=>by cases e) (fun _=>rfl)) hQ
       ·exact h.elim
theorem uS {id:Nat} (h:Run P N ops (K .normal) (List.range ops.size) σ):W P N (.region id ops false) K σ :=
 fun _ _ _ _ _ R=>wp_region (cK _ _ _ _ _ h R fun σ' _ _ g' R' hK=>⟨σ',g',R',hK⟩)
theorem ag (h:K .normal σ):W P N .skip K σ:=fun _ _ _ _ g R=>wp_skip ⟨σ,g,R,h⟩
theorem aC {id:Nat} (h:K (.exit id) σ):W P N (.exit id) K σ:=fun _ _ _ _ g R=>wp_exit ⟨σ,g,R,h⟩
theorem ae (h:K .ret σ):W P N .ret K σ:=fun _ _ _ _ g R=>wp_ret ⟨σ,g,R,h⟩
def Then (next:St → Prop) (K:Exit → St → Prop):Exit → St → Prop
 | .normal,σ=>next σ
 | e,σ=>K e σ
theorem re {c:Code} (h:W P N c K σ) (hk:∀ e σ,K e σ → K' e σ):W P N c K' σ :=
 fun w0 Al a w g R=>wp_mono (h w0 Al a w g R) fun _ _ _ ⟨σ',g',R',q⟩=>⟨σ',g',R',hk _ _ q⟩
theorem W_seq {x y:Code} (h:W P N x (Then (W P N y K) K) σ):W P N (.seq x y) K σ :=
 fun w0 Al a w g R=>wp_seq (wp_mono (h w0 Al a w g R) fun e a' w' ⟨σ',g',R',q⟩=>by
  cases e with
  | normal=>exact q w0 Al a' w' g' R'
  | _=>exact ⟨σ',g',R',q⟩)
theorem aa {x y:Code} (h:∀ K':St → Prop,(∀ σ',W P N y K σ' → K' σ') → W P N x (Then K' K) σ):W P N (.seq x y) K σ:=W_seq (h _ fun _ h=>h)
theorem ac {c:Operand} {x y:Code} {b:Bool} (hc:evO σ c = some (true,.l (.t (.bool b)))) (ht:b = true → W P N x K σ) (hf:b = false → W P N y K σ):W P N (.cond c x y) K σ :=
 fun w0 Al a w g R=>wp_cond_split (t:=b) (cu (g:=g) (σ:=σ) (az R.slots hc rfl)) (fun h=>ht h w0 Al a w g R) fun h=>hf h w0 Al a w g R
def InBlock (id:Nat) (K:Exit → St → Prop):Exit → St → Prop
 | .exit id',σ=>if id' = id then K .normal σ else K (.exit id') σ
 | e,σ=>K e σ
theorem ak {id:Nat} {c:Code} (h:W P N c (InBlock id K) σ):W P N (.block id c) K σ :=
 fun w0 Al a w g R=>wp_block (wp_mono (h w0 Al a w g R) fun e a' w' ⟨σ',g',R',q⟩=>by
  cases e with
  | exit id' =>
   simp only[InBlock] at q
   simp only[Exit.inBlock]
   split at q
   ·rename_i e;rw[if_pos e];exact ⟨σ',g',R',q⟩
   ·rename_i e;rw[if_neg e];exact ⟨σ',g',R',q⟩
  | _=>exact ⟨σ',g',R',q⟩)
theorem W_loop {c:Code} (J:Nat → St → Prop) (n:Nat) (h0:J n σ) (round:∀ n σ,J n σ → W P N c (Then (fun σ'=>∃ m,m < n ∧ J m σ') K) σ):W P N (.loop c) K σ:=by
 intro w0 Al a w g R
 have key:∀ n,∀ σ a w g,Rel w0 Al N σ a w g → J n σ → ∀ (b:Frame) (k:List Item) (cs:List Frame),∃ e a' w',Lift w0 Al N K e a' w' ∧ Arrives P (lone (b.at a (.code c :: .inLoop c :: k)) cs w) b k cs e a' w':=by
  intro n;induction n using Nat.strongRecOn with
  | _ n ih =>
   intro σ a w g R hJ b k cs;obtain ⟨e,a1,w1,⟨σ1,g1,R1,q⟩,harr⟩:=round n σ hJ w0 Al a w g R b (.inLoop c :: k) cs;cases e with
   | normal =>
    obtain ⟨m,hm,hJ1⟩:=q;obtain ⟨e2,a2,w2,hq2,harr2⟩:=ih m hm σ1 a1 w1 g1 R1 hJ1 b k cs;exact ⟨e2,a2,w2,hq2,.of_steps (Steps.trans harr (.one step_inLoop)) harr2⟩
   | exit id=>exact ⟨_,a1,w1,⟨σ1,g1,R1,q⟩,.pass (x:=.inLoop c) rfl (fun _ _=>.inl (by simp)) harr⟩
   | goto l=>exact ⟨_,a1,w1,⟨σ1,g1,R1,q⟩,.pass (x:=.inLoop c) rfl (fun _ _=>.inl (by simp)) harr⟩
   | ret=>exact ⟨_,a1,w1,⟨σ1,g1,R1,q⟩,.pass (x:=.inLoop c) rfl (fun _ _=>.inl (by simp)) harr⟩
   | panic ch=>exact ⟨_,a1,w1,⟨σ1,g1,R1,q⟩,.pass (x:=.inLoop c) rfl (fun _ _=>.inl (by simp)) harr⟩
   | outgrown=>exact ⟨_,a1,w1,⟨σ1,g1,R1,q⟩,.pass (x:=.inLoop c) rfl (fun _ _=>.inl (by simp)) harr⟩
 intro b k cs;obtain ⟨e,a',w',hq,harr⟩:=key n σ a w g R h0 b k cs;exact ⟨e,a',w',hq,.of_steps (.one step_loop) harr⟩
theorem iB {c:Code} (hs:Sub σ σ') (h:W P N c K σ'):W P N c K σ:=fun w0 Al a w g R=>by
 obtain ⟨g',R'⟩:=hs w0 Al N a w g R
 exact h w0 Al a w g' R'
theorem Sub.trans {σ1 σ2 σ3:St} (h:Sub σ1 σ2) (h':Sub σ2 σ3):Sub σ1 σ3:=fun w0 Al N a w g R=>by
 obtain ⟨g',R'⟩:=h w0 Al N a w g R
 exact h' w0 Al N a w g' R'
end
def paramsE:Nat → List V → List (Nat × Bool × V)
 | _,[]=>[]
 | k,v :: vs=>(k,true,v) :: paramsE (k + 1) vs
def resV (P:Program) (σ:St):List ResultVar → Option (Prop × List V)
 | []=>some (True,[])
 | .tmp t :: r=>match get σ.env t,resV P σ r with
  | some (c,v),some (c',vs)=>some (c = true ∧ c',v :: vs)
  | _,_=>none
 | .cell ad t :: r=>match get σ.env ad,resV P σ r with
  | some (c,v),some (c',vs)=>match loadV P σ t v with
   | some (c2,u)=>some (c = true ∧ c2 ∧ c',u :: vs)
   | none=>none
  | _,_=>none
def tupV:List V → Option (List (Bool × List L))
 | []=>some []
 | .l x :: r=>(tupV r).map fun q=>(false,[x]) :: q
 | .agg xs :: r=>(tupV r).map fun q=>(true,xs) :: q
 | .tup _ :: _=>none
def oneV:List V → Option V
 | [v]=>some v
 | vs=>(tupV vs).map .tup
def resF (tmps:Array Value):ResultVar → Sem Value
 | .tmp t=>pure (tmps.getD t undef)
 | .cell ad t=>do loadVar t (← asAddr (tmps.getD ad undef))
theorem jN (fn:Func) (tmps:Array Value):results fn tmps = (do
  let vs ← fn.results.mapM (resF tmps)
  pure (if h:vs.size = 1 then vs[0] else .tuple vs)):=by
 unfold results
 congr 2
section
variable {P:Program} {w0 w w':World} {Al:Blks} {N:Nat} {g:Gh} {σ σ':St} {a:Act}
theorem dp:∀ (vs:List V) (k t:Nat) (x:Bool × V),(t,x) ∈ paramsE k vs → k ≤ t
 | v :: vs,k,t,x,h=>by
  simp only[paramsE,List.mem_cons,Prod.mk.injEq] at h
  rcases h with ⟨rfl,_⟩ | h
  ·exact Nat.le_refl _
  ·have:=dp vs (k + 1) t x h;omega
 | [],_,_,_,h=>by simp[paramsE] at h
theorem cE:∀ (vs:List V) (k:Nat),(paramsE k vs).Pairwise fun x y=>x.1 ≠ y.1
 | [],_=>.nil
 | v :: vs,k=>List.pairwise_cons.2 ⟨fun y hy=>by have:=dp vs (k + 1) y.1 y.2 hy;simp only;omega,cE vs (k + 1)⟩
theorem bj:∀ (vs:List V) (k t:Nat) (c:Bool) (v:V),get (paramsE k vs) t = some (c,v) → c = true ∧ k ≤ t ∧ vs[t - k]? = some v
 | [],_,_,_,_,h=>by simp[paramsE,get] at h
 | x :: vs,k,t,c,v,h=>by
  simp only[paramsE,get] at h
  split at h
  ·rename_i e
   subst e
   simp only[Option.some.injEq,Prod.mk.injEq] at h
   obtain ⟨rfl,rfl⟩:=h
   simp
  ·rename_i e
   obtain ⟨h1,h2,h3⟩:=bj vs (k + 1) t c v h
   refine ⟨h1,by omega,?_⟩
   have:t - k = (t - (k + 1)) + 1:=by omega
   rw[this]
   simpa using h3
theorem jO:∀ {vs:List V} {us:List Value} {q:List (Bool × List L)},tupV vs = some q → RepVs w g σ vs us → RepWs w g σ q us
 | [],[],q,h,_=>by simp only[tupV,Option.some.injEq] at h;subst h;trivial
 | .l x :: r,u :: us,q,h,hr=>by
  simp only[tupV,Option.map_eq_some_iff] at h
  obtain ⟨q',h',rfl⟩:=h
  exact ⟨by simp only[RepW,Bool.false_eq_true,if_false];exact ⟨x,rfl,hr.1⟩,jO h' hr.2⟩
 | .agg xs :: r,u :: us,q,h,hr=>by
  simp only[tupV,Option.map_eq_some_iff] at h
  obtain ⟨q',h',rfl⟩:=h
  exact ⟨by simp only[RepW,if_true];exact hr.1,jO h' hr.2⟩
 | .tup _ :: _,_,q,h,_=>by simp[tupV] at h
 | [],_ :: _,_,_,h=>h.elim
 | .l _ :: _,[],_,_,h=>h.elim
 | .agg _ :: _,[],_,_,h=>h.elim
theorem il (m:Mem w g σ) (hs:Slots w g σ a):∀ {rs:List ResultVar} {c:Prop} {vs:List V},resV P σ rs = some (c,vs) → c →
  ∃ us:List Value,RepVs w g σ vs us ∧ (rs.mapM (resF a.tmps):Sem (List Value)).run P w = .ok us w
 | [],c,vs,h,_=>by
  simp only[resV,Option.some.injEq,Prod.mk.injEq] at h
  obtain ⟨_,rfl⟩:=h
  exact ⟨[],trivial,by simp⟩
 | .tmp t :: r,c,vs,h,hc=>by
  simp only[resV] at h
  split at h
  ·rename_i c1 v c2 vs' hg hr
   simp only[Option.some.injEq,Prod.mk.injEq] at h
   obtain ⟨rfl,rfl⟩:=h
   obtain ⟨us,h1,h2⟩:=il m hs hr hc.2
   refine ⟨a.tmps.getD t undef :: us,⟨hs.yes t c1 v hg hc.1,h1⟩,?_⟩
   simp only[List.mapM_cons,Sem.run_bind,resF,Sem.run_pure,Result.andThen_ok,h2]
  ·cases h
 | .cell ad t :: r,c,vs,h,hc=>by
  simp only[resV] at h
  split at h
  ·rename_i c1 v c2 vs' hg hr
   split at h
   ·rename_i c3 u hl
    simp only[Option.some.injEq,Prod.mk.injEq] at h
    obtain ⟨rfl,rfl⟩:=h
    obtain ⟨h0,h00,h000⟩:=hc
    obtain ⟨us,h1,h2⟩:=il m hs hr h000
    have had:=hs.yes ad c1 v hg h0
    obtain ⟨x,hx1',hx2⟩:=nI m had hl h00
    have hx1:=hx1' w (.refl w)
    refine ⟨x :: us,⟨hx2,h1⟩,?_⟩
    have haddr:∃ q,a.tmps.getD ad undef = .pointer (some q):=by
     unfold loadV at hl
     split at hl
     ·exact ⟨_,had.2⟩
     ·obtain ⟨_,_,_,_,_,_,_,_,_,_,_,hq⟩:=had;exact ⟨_,hq⟩
     ·cases hl
    obtain ⟨q,hq⟩:=haddr
    rw[hq] at hx1
    simp only[Instr.loadAt,Instr.sureAddr,Sem.run_bind,Sem.run_pure,Result.andThen_ok] at hx1
    have e:(resF a.tmps (.cell ad t)).run P w = .ok x w:=by simp only[resF,Sem.run_bind,hq,asAddr,Sem.run_pure,Result.andThen_ok,hx1]
    simp only[List.mapM_cons,Sem.run_bind,e,Sem.run_pure,Result.andThen_ok,h2]
   ·cases h
  ·cases h
theorem uT (m:Mem w g σ) (hs:Slots w g σ a) {fn:Func} {c:Prop} {vs:List V} {v:V} (h:resV P σ fn.results.toList = some (c,vs)) (hc:c) (hv:oneV vs = some v) :
  ∃ r,(results fn a.tmps).run P w = .ok r w ∧ RepV w g σ v r:=by
 obtain ⟨us,h1,h2⟩:=il m hs h hc
 have hrun:(results fn a.tmps).run P w = .ok (if h:us.toArray.size = 1 then us.toArray[0] else .tuple us.toArray) w:=by
  have e:fn.results = fn.results.toList.toArray:=by simp
  rw[jN,e,List.mapM_toArray]
  simp only[Sem.run_bind,Sem.run_map,h2,Result.andThen_ok,Sem.run_pure]
 refine ⟨_,hrun,?_⟩
 match vs,us,h1,hv with
 | [],[],_,hv =>
  simp only[oneV,tupV,Option.map_some,Option.some.injEq] at hv
  subst hv
  exact ⟨[],by simp,trivial⟩
 | [x],[u],h1,hv =>
  simp only[oneV,Option.some.injEq] at hv
  subst hv
  simpa using h1.1
 | x :: y :: vs,u1 :: u2 :: us,h1,hv =>
  simp only[oneV,Option.map_eq_some_iff] at hv
  obtain ⟨q,hq,rfl⟩:=hv
  have:=jO hq h1
  refine ⟨u1 :: u2 :: us,by simp,this⟩
def Out (P:Program) (rs:List ResultVar) (K:St → V → Prop):Exit → St → Prop
 | .normal,σ | .ret,σ=>match resV P σ rs with
  | some (c,vs)=>c ∧ match oneV vs with
   | some v=>K σ v
   | none=>False
  | none=>False
 | _,_=>False
theorem ay {f:FuncId} {fn:Func} {c:Code} {args:List V} {K:St → V → Prop} (hf:P.funcs[f]? = some fn) (hb:fn.body = some c) (hn:(fn.name == "runtime.NumGoroutine") = false) {n:Nat} (hnt:fn.ntmps = n) {rs:List ResultVar} (hrs:fn.results.toList = rs) (hl:args.length ≤ n)
  (h:∀ a:Act,W P n c (Out P rs fun σ' v=>∃ env' sav',σ'.sav = (env',a) :: sav' ∧ K { σ' with env:=env',sav:=sav' } v) { σ with env:=paramsE 0 args,sav:=(σ.env,a) :: σ.sav }) :
  CallW P false f args K σ:=by
 subst hnt hrs
 refine ⟨⟨fn,hf,by simp[hb],hn⟩,fun w0 Al N a w g vs R hvs=>calls_of_wp hf hb ?_⟩
 have hlen:=hvs.length
 have R1:Rel w0 Al fn.ntmps { σ with env:=paramsE 0 args,sav:=(σ.env,a) :: σ.sav } { tmps:=vs.toArray ++ Array.replicate (fn.ntmps - vs.toArray.size) undef,defers:=[] } w g:=by
  refine ⟨⟨fun t c v hg hc=>?_,fun t c v hg hc=>?_⟩,cE args 0,R.mem.same rfl rfl,?_,R.frm,R.siz,R.os,R.tape,R.out,rfl,by simp;omega,fun x hx=>?_⟩
  ·obtain ⟨_,_,h3⟩:=bj args 0 t c v hg
   obtain ⟨u,hu,hr⟩:=hvs.nth (j:=t) (by simpa using h3)
   have hlt:t < vs.length:=(List.getElem?_eq_some_iff.1 hu).1
   have:(vs.toArray ++ Array.replicate (fn.ntmps - vs.toArray.size) undef).getD t undef = u:=by
    rw[Array.getD_eq_getD_getElem?,Array.getElem?_append_left (by simpa using hlt)]
    simp[hu]
   rw[this]
   exact hr.same rfl rfl
  ·have:=(bj args 0 t c v hg).1
   rw[hc] at this
   cases this
  ·rw[Owned.same (g:=g) (σ':={ σ with env:=paramsE 0 args,sav:=(σ.env,a) :: σ.sav }) (σ:=σ) rfl rfl];exact R.own
  ·rcases List.mem_cons.1 hx with rfl | hx
   ·exact ⟨fun t c v hg hc=>(R.slots.yes t c v hg hc).same rfl rfl,R.slots.no,R.unq⟩
   ·obtain ⟨q1,q2,q3⟩:=R.sav x hx
    exact ⟨fun t c v hg hc=>(q1 t c v hg hc).same rfl rfl,q2,q3⟩
 refine wp_mono (h a w0 Al _ w g R1) fun e a' w' ⟨σ',g',R',hK⟩=>?_
 have fin:(match resV P σ' fn.results.toList with
   | some (c,vs)=>c ∧ match oneV vs with
    | some v=>∃ env' sav',σ'.sav = (env',a) :: sav' ∧ K { σ' with env:=env',sav:=sav' } v
    | none=>False
   | none=>False) → a'.defers = [] ∧ ∃ v,(results fn a'.tmps).run P w' = .ok v w' ∧ ∃ σ' g' u,Rel w0 Al N σ' a w' g' ∧ RepV w' g' σ' u v ∧ K σ' u ∧ (false = true → Kept w w'):=by
  intro hK
  refine ⟨R'.dfr,?_⟩
  split at hK
  ·rename_i c vs' hres
   obtain ⟨hc,hK⟩:=hK
   split at hK
   ·rename_i v hv
    obtain ⟨r,hr,hrep⟩:=uT R'.mem R'.slots hres hc hv
    obtain ⟨env',sav',hsav,hK⟩:=hK
    obtain ⟨s1,s2,s3⟩:=R'.sav (env',a) (by rw[hsav];simp)
    refine ⟨r,hr,{ σ' with env:=env',sav:=sav' },g',v,⟨⟨fun t c v hg hc=>(s1 t c v hg hc).same rfl rfl,s2⟩,s3,R'.mem.same rfl rfl,?_,R'.frm,R'.siz,R'.os,R'.tape,R'.out,R.dfr,R.tsz,fun x hx=>?_⟩,hrep.same rfl rfl,hK,fun e=>by cases e⟩
    ·rw[Owned.same (g:=g') (σ':={ σ' with env:=env',sav:=sav' }) (σ:=σ') rfl rfl];exact R'.own
    ·obtain ⟨q1,q2,q3⟩:=R'.sav x (by rw[hsav];simp[hx])
     exact ⟨fun t c v hg hc=>(q1 t c v hg hc).same rfl rfl,q2,q3⟩
   ·exact hK.elim
  ·exact hK.elim
 cases e with
 | normal=>exact fin hK
 | ret=>exact fin hK
 | _=>exact hK.elim
end
abbrev A:=Bool × List T
def ShapeV (x:A) (v:Value):Prop:=if x.1 then ∃ cs:List Value,v = .agg cs.toArray ∧ cs.length = x.2.length else x.2.length = 1 ∧ v.oneCell' = true
def Shapes:List A → List Value → Prop
 | [],[]=>True
 | x :: xs,v :: vs=>ShapeV x v ∧ Shapes xs vs
 | _,_=>False
def flatA (xs:List A):List T:=xs.flatMap (·.2)
def flatU (vs:List Value):List Value:=vs.flatMap fun v=>v.cells.toList
def oneU:List Value → Value
 | [v]=>v
 | vs=>.tuple vs.toArray
def PC (P:Program) (f:FuncId) (args res:List A):Prop :=
 Ours P f ∧ ∀ w vs,Shapes args vs → (∀ (j:Nat) t v,(flatA args)[j]? = some t → (flatU vs)[j]? = some v → Rep w false v t fun _=>True) → Calls P f vs.toArray w fun
  | .returned r,w'=>w.heap.size ≤ w'.heap.size ∧ (∀ b,b < w.heap.size → w'.heap[b]? = w.heap[b]?) ∧ w'.os = w.os ∧ w'.tape = w.tape ∧ w'.output = w.output ∧
    ∃ us,r = oneU us ∧ Shapes res us ∧ ∃ F:Nat → Blks,(∀ (j:Nat) t v,(flatA res)[j]? = some t → (flatU us)[j]? = some v → Rep w' true v t (F j)) ∧ (∀ j b,F j b → w.heap.size ≤ b) ∧ ∀ j j' b,F j b → F j' b → j = j'
  | _,_=>False
def leafN (k:Nat):T → L
 | .sl z es=>.ref k [] z 0 es.length
 | .hole=>.undef
 | .int i n=>.t (.int i n)
 | .bool b=>.t (.bool b)
 | .str s=>.t (.str s)
def leavesN:Nat → List T → List L
 | _,[]=>[]
 | k,t :: ts=>leafN k t :: leavesN (k + 1) ts
def rowsN (pm:Pm):Nat → List T → List (Nat × Row)
 | _,[]=>[]
 | k,.sl z es :: ts=>(k,⟨pm,z,es⟩) :: rowsN pm (k + 1) ts
 | k,_ :: ts=>rowsN pm (k + 1) ts
def valsN:Nat → List A → List V
 | _,[]=>[]
 | k,(true,ts) :: r=>.agg (leavesN k ts) :: valsN (k + ts.length) r
 | k,(false,ts) :: r=>(match ts with
  | [t]=>.l (leafN k t)
  | _=>.l .undef) :: valsN (k + ts.length) r
def denL (σ:St):L → T → Prop
 | .t x,t=>x = t
 | .nil,.sl _ es=>es = []
 | .ref r p z off len,.sl z' es'=>match nodeOf σ r p with
  | some (_,es)=>z = z' ∧ es' = (es.drop off).take len
  | none=>False
 | .undef,.hole=>True
 | _,_=>False
def denLs (σ:St):List L → List T → Prop
 | [],[]=>True
 | l :: ls,t :: ts=>denL σ l t ∧ denLs σ ls ts
 | _,_=>False
def denVs (σ:St):List V → List A → Prop
 | [],[]=>True
 | .l x :: vs,(false,ts) :: r=>denLs σ [x] ts ∧ denVs σ vs r
 | .agg xs :: vs,(true,ts) :: r=>denLs σ xs ts ∧ denVs σ vs r
 | _,_=>False
def zOf:T → Nat
 | .sl z _=>z
 | _=>0
def shapeV (x:A):V → Prop
 | .l _=>x.1 = false ∧ x.2.length = 1
 | .agg xs=>x.1 = true ∧ x.2.length = xs.length
 | .tup _=>False
def shapeVs:List A → List V → Prop
 | [],[]=>True
 | x :: xs,v :: vs=>shapeV x v ∧ shapeVs xs vs
 | _,_=>False
def OutN (P:Program) (rs:List ResultVar) (res:List A):Exit → St → Prop
 | .normal,σ | .ret,σ=>match resV P σ rs with
  | some (c,vs)=>c ∧ shapeVs res vs ∧ match takeLs σ ((flatA res).map zOf) (vs.flatMap V.leaves) with
   | some (c',ts,_)=>c' ∧ ts = flatA res
   | none=>False
  | none=>False
 | _,_=>False
section
variable {P:Program} {w0 w w':World} {Al:Blks} {N:Nat} {g:Gh} {σ σ':St} {a:Act}
theorem aV (pm:Pm):∀ (ts:List T) (k n:Nat),get (rowsN pm k ts) n = if k ≤ n then (match ts[n - k]? with
  | some (.sl z es)=>some ⟨pm,z,es⟩
  | _=>none) else none
 | [],k,n=>by simp[rowsN,get]
 | t :: ts,k,n=>by
  have ih:=aV pm ts (k + 1) n
  by_cases e:n = k
  ·subst e
   have h2:¬ n + 1 ≤ n:=by omega
   simp only[h2,if_false] at ih
   cases t <;> simp[rowsN,get,ih]
  ·have:get (rowsN pm k (t :: ts)) n = get (rowsN pm (k + 1) ts) n:=by
    cases t <;> simp[rowsN,get,e]
   rw[this,ih]
   by_cases h1:k ≤ n
   ·have h2:k + 1 ≤ n:=by omega
    have h3:n - k = (n - (k + 1)) + 1:=by omega
    simp[h1,h2,h3]
   ·have h2:¬ k + 1 ≤ n:=by omega
    simp[h1,h2]
theorem lf:∀ (ts:List T) (k j:Nat),(leavesN k ts)[j]? = (ts[j]?).map (leafN (k + j))
 | [],_,_=>by simp[leavesN]
 | t :: ts,k,0=>by simp[leavesN]
 | t :: ts,k,j + 1=>by
  simp only[leavesN,List.getElem?_cons_succ]
  rw[lf ts (k + 1) j]
  have:k + 1 + j = k + (j + 1):=by omega
  rw[this]
theorem gS:∀ (ts:List T) (k:Nat),(leavesN k ts).length = ts.length
 | [],_=>rfl
 | t :: ts,k=>by simp[leavesN,gS ts]
theorem bI {o:Bool} {t:T} {v:Value} {F:Blks} {k:Nat} (h:Rep w o v t F) (hrow:∀ z es,t = .sl z es → ∃ row,get σ.row k = some row ∧ row.z = z ∧ row.es = es ∧ g.rw k = v):RepL w g σ (leafN k t) v:=by
 cases t with
 | int i n=>cases h;exact .int
 | bool b=>cases h;exact .bool
 | str s=>cases h;exact .str
 | hole=>exact h.one
 | sl z es =>
  obtain ⟨⟨pm,z',es'⟩,h1,h2,h3,h4⟩:=hrow z es rfl;simp only at h2 h3;subst h2 h3;refine ⟨_,es',v,h1,rfl,by simp[valAt,h4],by simp,?_⟩;cases h with
  | nils=>exact View.whole _ _ _ _ _
  | bare=>exact View.whole _ _ _ _ _
  | sl=>exact View.whole _ _ _ _ _
theorem Shapes.length:∀ {xs:List A} {vs:List Value},Shapes xs vs → xs.length = vs.length
 | [],[],_=>rfl
 | _ :: _,_ :: _,h=>by simp[h.2.length]
 | [],_ :: _,h=>h.elim
 | _ :: _,[],h=>h.elim
theorem ShapeV.cells {x:A} {v:Value} (h:ShapeV x v):v.cells.toList.length = x.2.length:=by
 unfold ShapeV at h;split at h
 ·obtain ⟨cs,rfl,hl⟩:=h;simpa [Value.cells] using hl
 ·rw[h.1,cells_one h.2];rfl
theorem bV:∀ {xs:List A} {vs:List Value} {k:Nat},Shapes xs vs → (∀ (j:Nat) t v,(flatA xs)[j]? = some t → (flatU vs)[j]? = some v → RepL w g σ (leafN (k + j) t) v) → RepVs w g σ (valsN k xs) vs
 | [],[],_,_,_=>trivial
 | (b,ts) :: xs,v :: vs,k,hs,h=>by
  have hc:v.cells.toList.length = ts.length:=hs.1.cells
  have hls:RepLs w g σ (leavesN k ts) v.cells.toList:=by
   refine .of_nth (by rw[gS,hc]) fun j l u hl hu=>?_
   rw[lf] at hl
   simp only[Option.map_eq_some_iff] at hl
   obtain ⟨t,ht,rfl⟩:=hl
   have hj:j < ts.length:=(List.getElem?_eq_some_iff.1 ht).1
   refine h j t u ?_ ?_
   ·simp only[flatA,List.flatMap_cons]
    rw[List.getElem?_append_left hj];exact ht
   ·simp only[flatU,List.flatMap_cons]
    rw[List.getElem?_append_left (by omega)];exact hu
  have hrest:RepVs w g σ (valsN (k + ts.length) xs) vs:=by
   refine bV hs.2 fun j t u ht hu=>?_
   have:=h (ts.length + j) t u ?_ ?_
   ·rwa [← Nat.add_assoc] at this
   ·simp only[flatA,List.flatMap_cons]
    rw[List.getElem?_append_right (by simp),Nat.add_sub_cancel_left]
    exact ht
   ·simp only[flatU,List.flatMap_cons]
    rw[List.getElem?_append_right (by omega),hc,Nat.add_sub_cancel_left]
    exact hu
  cases b with
  | true =>
   simp only[valsN]
   obtain ⟨cs,rfl,_⟩:=(by simpa [ShapeV] using hs.1:∃ cs:List Value,v = .agg cs.toArray ∧ cs.length = ts.length)
   exact ⟨⟨cs,rfl,by simpa [Value.cells] using hls⟩,hrest⟩
  | false =>
   obtain ⟨h1,h2⟩:=(by simpa [ShapeV] using hs.1:ts.length = 1 ∧ v.oneCell' = true)
   match ts,h1 with
   | [t],_ =>
    simp only[valsN]
    rw[cells_one h2] at hls
    exact ⟨hls.1,hrest⟩
 | [],_ :: _,_,h,_=>h.elim
 | _ :: _,[],_,h,_=>h.elim
theorem uU (m:Mem w g σ) {l:L} {t:T} {v:Value} (h:RepL w g σ l v) (hd:denL σ l t):Rep w false v t fun _=>True:=by
 unfold denL at hd;split at hd
 ·subst hd;exact (show Rep w false v _ _ from h).toTrue
 ·subst hd;obtain ⟨oa,rfl⟩:=h;cases oa with
  | none=>exact .nils
  | some a=>exact .bare
 ·rename_i r p z off len z' es'
  obtain ⟨row,es0,u,e1,e2,e3,e4,e5⟩:=h;(have hn:nodeOf σ r p = some (z,es0):=by simp[nodeOf,e1,e2]);rw[hn] at hd;obtain ⟨rfl,rfl⟩:=hd;obtain ⟨u',hu',hru⟩:=m.at e1 e2;rw[e3] at hu';cases hu'
  exact (hru.view e5 e4).toTrue
 ·exact .hole h
 ·exact hd.elim
end
section
variable {P:Program} {w0 w w':World} {Al:Blks} {N:Nat} {g:Gh} {σ σ':St} {a:Act}
theorem bA:∀ {xs:List A} {vs:List Value},Shapes xs vs → (flatU vs).length = (flatA xs).length
 | [],[],_=>rfl
 | x :: xs,v :: vs,h=>by
  have:=bA h.2
  simp only[flatU,flatA,List.flatMap_cons,List.length_append] at this ⊢
  rw[h.1.cells,this]
 | [],_ :: _,h=>h.elim
 | _ :: _,[],h=>h.elim
def St.start (args:List A):St:={ env:=paramsE 0 (valsN 0 args),box:=[],row:=rowsN .ro 0 (flatA args),nxt:=(flatA args).length,sav:=[] }
theorem rf {x:A} {v:V} {u:Value} (h:shapeV x v) (hr:RepV w g σ v u):ShapeV x u ∧ RepLs w g σ v.leaves u.cells.toList:=by
 cases v with
 | l y =>
  obtain ⟨h1,h2⟩:=h;refine ⟨by simp only[ShapeV,h1,Bool.false_eq_true,if_false];exact ⟨h2,RepL.one hr⟩,?_⟩;exact RepV.cells hr rfl
 | agg ys =>
  obtain ⟨h1,h2⟩:=h;refine ⟨?_,RepV.cells hr rfl⟩;obtain ⟨vs,rfl,hl⟩:=hr;simp only[ShapeV,h1,if_true];exact ⟨vs,rfl,by rw[h2,hl.length]⟩
 | tup=>exact h.elim
theorem dT:∀ {xs:List A} {vs:List V} {us:List Value},shapeVs xs vs → RepVs w g σ vs us → Shapes xs us ∧ RepLs w g σ (vs.flatMap V.leaves) (flatU us)
 | [],[],[],_,_=>⟨trivial,trivial⟩
 | x :: xs,v :: vs,u :: us,h,hr=>by
  obtain ⟨h1,h2⟩:=rf h.1 hr.1
  obtain ⟨h3,h4⟩:=dT h.2 hr.2
  refine ⟨⟨h1,h3⟩,?_⟩
  simp only[List.flatMap_cons,flatU]
  have app:∀ {ls ks:List L} {vs us:List Value},RepLs w g σ ls vs → RepLs w g σ ks us → RepLs w g σ (ls ++ ks) (vs ++ us):=by
   intro ls
   induction ls with
   | nil=>intro ks vs us h h';cases vs with
    | nil=>exact h'
    | cons=>exact h.elim
   | cons l ls ih=>intro ks vs us h h';cases vs with
    | nil=>exact h.elim
    | cons=>exact ⟨h.1,ih h.2 h'⟩
  exact app h2 h4
 | [],[],_ :: _,_,h=>h.elim
 | _ :: _,_ :: _,[],_,h=>h.elim
 | [],_ :: _,_,h,_=>h.elim
 | _ :: _,[],_,h,_=>h.elim
theorem fB {vs:List V} {v:V} {us:List Value} (hv:oneV vs = some v) (h:RepVs w g σ vs us):RepV w g σ v (oneU us):=by
 match vs,us,h,hv with
 | [],[],_,hv =>
  simp only[oneV,tupV,Option.map_some,Option.some.injEq] at hv;subst hv;exact ⟨[],by simp[oneU],trivial⟩
 | [x],[u],h1,hv =>
  simp only[oneV,Option.some.injEq] at hv;subst hv;exact h1.1
 | x :: y :: vs,u1 :: u2 :: us,h1,hv =>
  simp only[oneV,Option.map_eq_some_iff] at hv;obtain ⟨q,hq,rfl⟩:=hv;exact ⟨u1 :: u2 :: us,by simp[oneU],jO hq h1⟩
theorem jP (m:Mem w g σ) (hs:Slots w g σ a) {fn:Func} {c:Prop} {vs:List V} (h:resV P σ fn.results.toList = some (c,vs)) (hc:c) :
  ∃ us,(results fn a.tmps).run P w = .ok (oneU us) w ∧ RepVs w g σ vs us:=by
 obtain ⟨us,h1,h2⟩:=il m hs h hc
 refine ⟨us,?_,h1⟩
 have e:fn.results = fn.results.toList.toArray:=by simp
 rw[jN,e,List.mapM_toArray]
 simp only[Sem.run_bind,Sem.run_map,h2,Result.andThen_ok,Sem.run_pure]
 match us with
 | []=>rfl
 | [u]=>rfl
 | u :: u' :: us=>simp[oneU]
theorem av {f:FuncId} {fn:Func} {c:Code} {args res:List A} (hf:P.funcs[f]? = some fn) (hb:fn.body = some c) (hn:(fn.name == "runtime.NumGoroutine") = false) {n:Nat} (hnt:fn.ntmps = n) {rs:List ResultVar} (hrs:fn.results.toList = rs) (hl:args.length ≤ n)
  (h:W P n c (OutN P rs res) (St.start args)):PC P f args res:=by
 subst hnt hrs
 refine ⟨⟨fn,hf,by simp[hb],hn⟩,fun w vs hsh hrep=>calls_of_wp hf hb ?_⟩
 let g:Gh:=⟨fun _=>0,fun k=>(flatU vs).getD k undef,fun _ _=>False⟩
 have hfl:=bA hsh
 have hrow:∀ r row,get (rowsN .ro 0 (flatA args)) r = some row → row.pm = .ro ∧ (flatA args)[r]? = some (.sl row.z row.es):=by
  intro r row hr
  rw[aV] at hr
  simp only[Nat.zero_le,if_true,Nat.sub_zero] at hr
  split at hr
  ·rename_i z es he
   simp only[Option.some.injEq] at hr
   subst hr
   exact ⟨rfl,he⟩
  ·cases hr
 have hown:∀ b,¬ Owned g (St.start args) b:=by
  rintro b (⟨k,ls,h1,_⟩ | ⟨r,row,h1,h2,_⟩)
  ·simp[St.start,get] at h1
  ·exact h2 (hrow r row h1).1
 have hvals:RepVs w g (St.start args) (valsN 0 args) vs:=by
  refine bV hsh fun j t v ht hv=>?_
  refine bI (hrep j t v ht hv) fun z es e=>?_
  subst e
  refine ⟨⟨.ro,z,es⟩,?_,rfl,rfl,?_⟩
  ·simp only[St.start,aV,Nat.zero_le,if_true,Nat.zero_add,Nat.sub_zero,ht]
  ·simp[g,hv]
 have hlen:=hvals.length
 have hal:args.length = vs.length:=hsh.length
 have R:Rel w (fun _=>False) fn.ntmps (St.start args) { tmps:=vs.toArray ++ Array.replicate (fn.ntmps - vs.toArray.size) undef,defers:=[] } w g:=by
  refine ⟨⟨fun t c v hg hc=>?_,fun t c v hg hc=>?_⟩,cE _ 0,⟨?_,?_,?_,?_,?_,?_,?_,fun b hb=>(hown b hb).elim⟩,fun b hb=>(hown b hb).elim,fun _ _ _=>rfl,Nat.le_refl _,rfl,rfl,rfl,rfl,by simp;omega,fun x hx=>by simp[St.start] at hx⟩
  ·obtain ⟨_,_,h3⟩:=bj _ 0 t c v hg
   obtain ⟨u,hu,hr⟩:=hvals.nth (j:=t) (by simpa using h3)
   have hlt:t < vs.length:=(List.getElem?_eq_some_iff.1 hu).1
   have:(vs.toArray ++ Array.replicate (fn.ntmps - vs.toArray.size) undef).getD t undef = u:=by
    rw[Array.getD_eq_getD_getElem?,Array.getElem?_append_left (by simpa using hlt)]
    simp[hu]
   rw[this]
   exact hr
  ·have:=(bj _ 0 t c v hg).1
   rw[hc] at this
   cases this
  ·intro k ls h;simp[St.start,get] at h
  ·intro r row h hp;rw[(hrow r row h).1] at hp;cases hp
  ·intro r row h hp;rw[(hrow r row h).1] at hp;cases hp
  ·intro r row h hp
   have ht:=(hrow r row h).2
   have hlt:r < (flatU vs).length:=by rw[hfl];exact (List.getElem?_eq_some_iff.1 ht).1
   have hv:(flatU vs)[r]? = some ((flatU vs).getD r undef):=by simp[List.getD_eq_getElem?_getD,List.getElem?_eq_getElem hlt]
   exact (hrep r _ _ ht hv).mono fun b _=>hown b
  ·intro k k' ls ls' h;simp[St.start,get] at h
  ·intro k ls r row h;simp[St.start,get] at h
  ·intro r r' row row' b h _ hp;exact absurd (hrow r row h).1 hp
 refine wp_mono (h w (fun _=>False) _ w g R) fun e a' w' ⟨σ',g',R',hK⟩=>?_
 have fin:(match resV P σ' fn.results.toList with
  | some (c,vs)=>c ∧ shapeVs res vs ∧ match takeLs σ' ((flatA res).map zOf) (vs.flatMap V.leaves) with
   | some (c',ts,_)=>c' ∧ ts = flatA res
   | none=>False
  | none=>False) → a'.defers = [] ∧ ∃ v,(results fn a'.tmps).run P w' = .ok v w' ∧ (w.heap.size ≤ w'.heap.size ∧ (∀ b,b < w.heap.size → w'.heap[b]? = w.heap[b]?) ∧ w'.os = w.os ∧ w'.tape = w.tape ∧ w'.output = w.output ∧
    ∃ us,v = oneU us ∧ Shapes res us ∧ ∃ F:Nat → Blks,(∀ (j:Nat) t v,(flatA res)[j]? = some t → (flatU us)[j]? = some v → Rep w' true v t (F j)) ∧ (∀ j b,F j b → w.heap.size ≤ b) ∧ ∀ j j' b,F j b → F j' b → j = j'):=by
  intro hK
  refine ⟨R'.dfr,?_⟩
  split at hK
  ·rename_i c vs' hres
   obtain ⟨hc,hsv,hK⟩:=hK
   split at hK
   ·rename_i c' ts rs hts
    obtain ⟨hc',rfl⟩:=hK
    obtain ⟨us,hr,hus⟩:=jP R'.mem R'.slots hres hc
    obtain ⟨hS,hL⟩:=dT hsv hus
    obtain ⟨_,_,F,q1,q2,q3⟩:=bM R'.mem hts hc' hL
    refine ⟨_,hr,R'.siz,fun b hb=>R'.frm b hb (fun h=>h),R'.os,R'.tape,R'.out,us,rfl,hS,F,q1,fun j b hb=>?_,q3⟩
    obtain ⟨r,row,_,h1,h2,h3⟩:=q2 j b hb
    rcases R'.own b (Or.inr ⟨r,row,h1,h2,h3⟩) with h | h
    ·exact h
    ·exact h.elim
   ·exact hK.elim
  ·exact hK.elim
 cases e with
 | normal=>exact fin hK
 | ret=>exact fin hK
 | _=>exact hK.elim
end
def St.answer (σ:St) (res:List A):St:={ σ with row:=rowsN .own σ.nxt (flatA res) ++ σ.row,nxt:=σ.nxt + (flatA res).length }
section
variable {P:Program} {w0 w w':World} {Al:Blks} {N:Nat} {g:Gh} {σ σ':St} {a:Act}
theorem fC (m:Mem w g σ):∀ {ls:List L} {ts:List T} {vs:List Value},RepLs w g σ ls vs → denLs σ ls ts → ts.length = vs.length ∧ ∀ (j:Nat) t v,ts[j]? = some t → vs[j]? = some v → Rep w false v t fun _=>True
 | [],[],[],_,_=>⟨rfl,by simp⟩
 | l :: ls,t :: ts,v :: vs,h,hd=>by
  obtain ⟨h1,h2⟩:=fC m h.2 hd.2
  refine ⟨by simp[h1],fun j t' v' ht hv=>?_⟩
  cases j with
  | zero=>simp at ht hv;subst ht hv;exact uU m h.1 hd.1
  | succ j=>exact h2 j t' v' (by simpa using ht) (by simpa using hv)
 | [],_ :: _,_,_,h=>h.elim
 | _ :: _,[],_,_,h=>h.elim
 | [],[],_ :: _,h,_=>h.elim
 | _ :: _,_ :: _,[],h,_=>h.elim
theorem fD (m:Mem w g σ):∀ {vs:List V} {xs:List A} {us:List Value},RepVs w g σ vs us → denVs σ vs xs →
  Shapes xs us ∧ ∀ (j:Nat) t v,(flatA xs)[j]? = some t → (flatU us)[j]? = some v → Rep w false v t fun _=>True
 | [],[],[],_,_=>⟨trivial,by simp[flatA]⟩
 | x :: vs,(b,ts) :: xs,u :: us,h,hd=>by
  have key:∀ ls,RepLs w g σ ls u.cells.toList → denLs σ ls ts → ShapeV (b,ts) u → denVs σ vs xs →
    Shapes ((b,ts) :: xs) (u :: us) ∧ ∀ (j:Nat) t v,(flatA ((b,ts) :: xs))[j]? = some t → (flatU (u :: us))[j]? = some v → Rep w false v t fun _=>True:=by
   intro ls h1 h2 h3 h4
   obtain ⟨q1,q2⟩:=fC m h1 h2
   obtain ⟨q3,q4⟩:=fD m h.2 h4
   refine ⟨⟨h3,q3⟩,fun j t v ht hv=>?_⟩
   simp only[flatA,flatU,List.flatMap_cons] at ht hv
   by_cases hj:j < ts.length
   ·rw[List.getElem?_append_left hj] at ht
    rw[List.getElem?_append_left (by omega)] at hv
    exact q2 j t v ht hv
   ·rw[List.getElem?_append_right (by omega)] at ht
    rw[List.getElem?_append_right (by omega)] at hv
    rw[← q1] at hv
    exact q4 _ t v ht hv
  cases x with
  | l y =>
   cases b with
   | true=>exact hd.elim
   | false =>
    obtain ⟨d1,d2⟩:=hd
    have hone:u.oneCell' = true:=RepL.one h.1
    have hl:ts.length = 1:=by
     match ts,d1 with
     | [_],_=>rfl
     | [],d1=>exact d1.elim
     | _ :: _ :: _,d1=>exact d1.2.elim
    exact key [y] (RepV.cells h.1 rfl) d1 (by simp only[ShapeV,Bool.false_eq_true,if_false];exact ⟨hl,hone⟩) d2
  | agg ys =>
   cases b with
   | false=>exact hd.elim
   | true =>
    obtain ⟨d1,d2⟩:=hd
    obtain ⟨cs,rfl,hr⟩:=h.1
    have hl:=(fC m hr d1).1
    exact key ys (by simpa [Value.cells] using hr) d1 (by simp only[ShapeV,if_true];exact ⟨cs,rfl,hl.symm⟩) d2
  | tup=>cases b <;> exact hd.elim
 | [],_ :: _,_,_,h=>h.elim
 | .l _ :: _,[],_,_,h=>h.elim
 | .agg _ :: _,[],_,_,h=>h.elim
 | .tup _ :: _,[],_,_,h=>h.elim
 | [],[],_ :: _,h,_=>h.elim
 | _ :: _,_ :: _,[],h,_=>h.elim
theorem kR (m:Mem w g σ) {res:List A} (hfr:∀ j,j < (flatA res).length → get σ.row (σ.nxt + j) = none) {us:List Value} (hsh:Shapes res us) {F:Nat → Blks}
  (hF:∀ (j:Nat) t v,(flatA res)[j]? = some t → (flatU us)[j]? = some v → Rep w' true v t (F j)) (hlo:∀ j b,F j b → w.heap.size ≤ b) (hdis:∀ j j' b,F j b → F j' b → j = j')
  (hsiz:w.heap.size ≤ w'.heap.size) (hold:∀ b,b < w.heap.size → w'.heap[b]? = w.heap[b]?) :
  ∃ g',NewIn w w' g g' σ (σ.answer res) [] [] (rowsN .own σ.nxt (flatA res)) [] (fun _=>false) ∧ ∀ j v,j < (flatA res).length → (flatU us)[j]? = some v → g'.rw (σ.nxt + j) = v:=by
 let G:Nat → Blks:=fun j b=>F j b ∧ b < w'.heap.size
 let g':Gh:=⟨g.bx,fun k=>if σ.nxt ≤ k ∧ k < σ.nxt + (flatA res).length then (flatU us).getD (k - σ.nxt) undef else g.rw k,fun k=>if σ.nxt ≤ k ∧ k < σ.nxt + (flatA res).length then G (k - σ.nxt) else g.fp k⟩
 have hfl:=bA hsh
 have hrow:∀ r row,get (rowsN .own σ.nxt (flatA res)) r = some row → row.pm = .own ∧ σ.nxt ≤ r ∧ r < σ.nxt + (flatA res).length ∧ (flatA res)[r - σ.nxt]? = some (.sl row.z row.es):=by
  intro r row hr
  rw[aV] at hr
  split at hr
  ·rename_i hle
   split at hr
   ·rename_i z es he
    simp only[Option.some.injEq] at hr
    subst hr
    have:=(List.getElem?_eq_some_iff.1 he).1
    exact ⟨rfl,hle,by omega,he⟩
   ·cases hr
  ·cases hr
 have hnew:∀ k row,get (rowsN .own σ.nxt (flatA res)) k = some row → get σ.row k = none:=by
  intro k row hk
  obtain ⟨_,h1,h2,_⟩:=hrow k row hk
  have:=hfr (k - σ.nxt) (by omega)
  rwa [Nat.add_sub_cancel' h1] at this
 have hnot:∀ r,(get σ.row r).isSome → ¬ (σ.nxt ≤ r ∧ r < σ.nxt + (flatA res).length):=by
  rintro r hr ⟨h1,h2⟩
  have:=hfr (r - σ.nxt) (by omega)
  rw[Nat.add_sub_cancel' h1] at this
  rw[this] at hr
  cases hr
 refine ⟨g',⟨by simp[St.answer,bw],by simp[St.answer,bw,cD],fun b hb _=>hold b hb,hsiz,fun r _ hr=>?_,fun _ _ _=>rfl,fun k row hk=>Or.inr (hnew k row hk),fun k ls hk=>by simp[get] at hk,?_,?_,?_,?_,fun k ls hk=>by simp[get] at hk,?_,fun k ls r row hk=>by simp[get] at hk,fun k k' ls ls' hk=>by simp[get] at hk,fun k ls hk=>by simp[get] at hk,fun _ _ r p _ _ h=>by simp at h,fun _ _ b _ _ h=>by simp at h⟩,?_⟩
 ·have:=hnot r hr
  simp only[g',this,if_false,and_self]
 ·intro k row hk _
  obtain ⟨_,h1,h2,h3⟩:=hrow k row hk
  have hc:σ.nxt ≤ k ∧ k < σ.nxt + (flatA res).length:=⟨h1,h2⟩
  have hlt:k - σ.nxt < (flatU us).length:=by omega
  have hv:(flatU us)[k - σ.nxt]? = some ((flatU us).getD (k - σ.nxt) undef):=by simp[List.getD_eq_getElem?_getD,List.getElem?_eq_getElem hlt]
  simp only[g',hc,and_self,if_true]
  obtain ⟨H,hH,hs,hlt'⟩:=(hF _ _ _ h3 hv).lt
  exact hH.mono fun b hb=>⟨hs b hb,hlt' b hb⟩
 ·intro k row hk hp;rw[(hrow k row hk).1] at hp;cases hp
 ·intro k row hk hp;rw[(hrow k row hk).1] at hp;cases hp
 ·intro k row b hk _ hb
  obtain ⟨_,h1,h2,h3⟩:=hrow k row hk
  have hc:σ.nxt ≤ k ∧ k < σ.nxt + (flatA res).length:=⟨h1,h2⟩
  simp only[g',hc,and_self,if_true] at hb
  exact ⟨Or.inr (hlo _ b hb.1),hb.2⟩
 ·intro r r' row row' b hr hr' _ _ hb hb'
  obtain ⟨_,h1,h2,_⟩:=hrow r row hr
  obtain ⟨_,h3,h4,_⟩:=hrow r' row' hr'
  have hc:σ.nxt ≤ r ∧ r < σ.nxt + (flatA res).length:=⟨h1,h2⟩
  have hc':σ.nxt ≤ r' ∧ r' < σ.nxt + (flatA res).length:=⟨h3,h4⟩
  simp only[g',hc,hc',and_self,if_true] at hb hb'
  have:=hdis _ _ b hb.1 hb'.1
  omega
 ·intro j v hj hv
  have hc:σ.nxt ≤ σ.nxt + j ∧ σ.nxt + j < σ.nxt + (flatA res).length:=⟨by omega,by omega⟩
  simp only[g',hc,and_self,if_true,Nat.add_sub_cancel_left,List.getD_eq_getElem?_getD,hv,Option.getD_some]
theorem rg {f:FuncId} {args res:List A} {vs:List V} {v:V} {K:St → V → Prop} (hpc:PC P f args res) (hden:denVs σ vs args) (hv:oneV (valsN σ.nxt res) = some v)
  (hfr:∀ j,j < (flatA res).length → get σ.row (σ.nxt + j) = none) (hK:K (σ.answer res) v) {k:Bool}:CallW P k f vs K σ:=by
 refine ⟨hpc.1,fun w0 Al N a w g us R hus=>?_⟩
 obtain ⟨h1,h2⟩:=fD R.mem hus hden
 refine Calls.mono (hpc.2 w us h1 h2) fun e w' he=>?_
 cases e with
 | panicked=>exact he
 | outgrown=>exact he
 | returned r =>
  obtain ⟨hsiz,hold,hos,htape,hout,us',rfl,hsh,F,hF,hlo,hdis⟩:=he
  obtain ⟨g',hin,hrw⟩:=kR R.mem hfr hsh hF hlo hdis hsiz hold
  have R':=R.turn hin ⟨by rw[bD];rfl,(bK _).symm⟩ hos htape hout
  refine ⟨σ.answer res,g',v,R',?_,hK,fun _=>hold⟩
  refine fB hv (bV hsh fun j t u ht hu=>bI (hF j t u ht hu) fun z es e=>?_)
  subst e
  have hj:j < (flatA res).length:=(List.getElem?_eq_some_iff.1 ht).1
  refine ⟨⟨.own,z,es⟩,?_,rfl,rfl,hrw j u hj hu⟩
  simp only[St.answer,get_append,aV,Nat.le_add_right,if_true,Nat.add_sub_cancel_left,ht]
end
def St.only (σ:St) (ts:List Nat):St:={ σ with env:=ts.filterMap fun t=>(get σ.env t).map fun x=>(t,x) }
def L.of (DR DB:List Nat) (l:L):Bool:=(match l.rowOf with
 | some (r,_)=>DR.contains r
 | none=>false) || l.boxOf.any DB.contains
def St.drop (σ:St) (DR DB:List Nat):St:={ σ with env:=killE (L.of DR DB) σ.env,sav:=killS (L.of DR DB) σ.sav,box:=killB (L.of DR DB) (del DB σ.box),row:=del DR σ.row }
def renL (f h:Nat → Nat):L → L
 | .ref r p z off len=>.ref (f r) p z off len
 | .ept r p i j e=>.ept (f r) p i j e
 | .ptr b j=>.ptr (h b) j
 | .fn g caps=>.fn g (caps.map h)
 | l=>l
def renV (f h:Nat → Nat):V → V
 | .l x=>.l (renL f h x)
 | .agg xs=>.agg (xs.map (renL f h))
 | .tup vs=>.tup (vs.map fun x=>(x.1,x.2.map (renL f h)))
def renE (f h:Nat → Nat) (env:List (Nat × Bool × V)):List (Nat × Bool × V):=env.map fun x=>(x.1,x.2.1,renV f h x.2.2)
def St.ren (σ:St) (f h:Nat → Nat):St :=
 { env:=renE f h σ.env,box:=σ.box.map fun x=>(h x.1,x.2.map (renL f h)),row:=σ.row.map fun x=>(f x.1,x.2),nxt:=σ.nxt,sav:=σ.sav.map fun x=>(renE f h x.1,x.2) }
def swp (a b n:Nat):Nat:=if n = a then b else if n = b then a else n
section
variable {P:Program} {w0 w w':World} {Al:Blks} {N:Nat} {g:Gh} {σ σ':St} {a:Act}
theorem sL (a b n:Nat):swp a b (swp a b n) = n:=by
 unfold swp;split <;> split <;> simp_all
theorem jQ (σ:St) (ts:List Nat) (t:Nat) (x:Bool × V) (h:get (σ.only ts).env t = some x):t ∈ ts ∧ get σ.env t = some x:=by
 unfold St.only at h;simp only at h;induction ts with
 | nil=>simp[get] at h
 | cons s ts ih =>
  simp only[List.filterMap_cons] at h;cases hs:get σ.env s with
  | none =>
   rw[hs] at h;obtain ⟨h1,h2⟩:=ih h;exact ⟨by simp[h1],h2⟩
  | some y =>
   rw[hs] at h;simp only[Option.map_some,get] at h;split at h
   ·rename_i e
    subst e;simp only[Option.some.injEq] at h;subst h;exact ⟨by simp,hs⟩
   ·obtain ⟨h1,h2⟩:=ih h;exact ⟨by simp[h1],h2⟩
theorem mL (σ:St):∀ (ts:List Nat),ts.Nodup → (σ.only ts).env.Pairwise fun x y=>x.1 ≠ y.1
 | [],_=>.nil
 | s :: ts,hn=>by
  obtain ⟨h1,h2⟩:=List.nodup_cons.1 hn
  have ih:=mL σ ts h2
  unfold St.only at ih ⊢
  simp only[List.filterMap_cons]
  cases hs:get σ.env s with
  | none=>exact ih
  | some y =>
   simp only[Option.map_some]
   refine List.pairwise_cons.2 ⟨fun x hx=>?_,ih⟩
   simp only[List.mem_filterMap,Option.map_eq_some_iff] at hx
   obtain ⟨t,ht,y',_,rfl⟩:=hx
   simp only
   intro e
   exact h1 (e ▸ ht)
theorem Sub.only (ts:List Nat) (hn:ts.Nodup):Sub σ (σ.only ts):=fun w0 Al N a w g R =>
 ⟨g,⟨fun t c v hg hc=>(R.slots.yes t c v (jQ σ ts t _ hg).2 hc).same rfl rfl,fun t c v hg hc=>R.slots.no t c v (jQ σ ts t _ hg).2 hc⟩,mL σ ts hn,R.mem.same rfl rfl,by rw[Owned.same (g:=g) (σ':=σ.only ts) (σ:=σ) rfl rfl];exact R.own,R.frm,R.siz,R.os,R.tape,R.out,R.dfr,R.tsz,fun x hx=>let ⟨q1,q2,q3⟩:=R.sav x hx;⟨fun t c v h hc=>(q1 t c v h hc).same rfl rfl,q2,q3⟩⟩
theorem Sub.num (n:Nat):Sub σ { σ with nxt:=n }:=fun _ _ _ _ _ g R=>⟨g,R.num n⟩
theorem drop_in (m:Mem w g σ) (DR DB:List Nat):NewIn w w g g σ (σ.drop DR DB) DR DB [] [] (L.of DR DB):=by
 refine ⟨rfl,rfl,fun _ _ _=>rfl,Nat.le_refl _,fun _ _ _=>⟨rfl,rfl⟩,fun _ _ _=>rfl,?_,?_,?_,?_,?_,?_,?_,?_,?_,?_,?_,?_,?_⟩
 ·intro k row h;simp[get] at h
 ·intro k row h;simp[get] at h
 ·intro k row h;simp[get] at h
 ·intro k row h;simp[get] at h
 ·intro k row h;simp[get] at h
 ·intro k row b h;simp[get] at h
 ·intro k ls h;simp[get] at h
 ·intro k k' row row' b h;simp[get] at h
 ·intro k ls r row h;simp[get] at h
 ·intro k k' ls ls' h;simp[get] at h
 ·intro k ls h;simp[get] at h
 ·intro l hl r p hr _ hd;simp[L.of,hr,hd] at hl
 ·intro l hl b hb _ hd;simp only[L.of,Bool.or_eq_false_iff,List.any_eq_false] at hl;exact absurd (by simpa using hd) (hl.2 b hb)
theorem Sub.drop (DR DB:List Nat):Sub σ (σ.drop DR DB):=fun _ _ _ _ _ g R=>⟨g,R.turn (drop_in R.mem DR DB) ⟨rfl,rfl⟩ rfl rfl rfl⟩
theorem gT {α β:Type} {f:Nat → Nat} (hf:∀ n,f (f n) = n) (u:α → β):∀ (xs:List (Nat × α)) (n:Nat),get (xs.map fun x=>(f x.1,u x.2)) n = (get xs (f n)).map u
 | [],_=>rfl
 | (k,x) :: xs,n=>by
  simp only[List.map_cons,get]
  by_cases e:n = f k
  ·subst e;simp[hf]
  ·have:f n ≠ k:=fun h=>e (by rw[← h,hf])
   simp only[e,this,if_false]
   exact gT hf u xs n
theorem gU (f h:Nat → Nat):∀ (env:List (Nat × Bool × V)) (t:Nat),get (renE f h env) t = (get env t).map fun x=>(x.1,renV f h x.2)
 | [],_=>rfl
 | (k,x) :: env,t=>by
  have ih:=gU f h env t
  unfold renE at ih ⊢
  simp only[List.map_cons,get]
  split
  ·rfl
  ·exact ih
theorem pq {f h:Nat → Nat} {env:List (Nat × Bool × V)} (hp:env.Pairwise fun x y=>x.1 ≠ y.1):(renE f h env).Pairwise fun x y=>x.1 ≠ y.1:=by
 unfold renE;rw[List.pairwise_map];exact hp
theorem Sub.ren {f h:Nat → Nat} (hf:∀ n,f (f n) = n) (hh:∀ n,h (h n) = n):Sub σ (σ.ren f h):=by
 intro w0 Al N a w g R;let g':Gh:=⟨fun k=>g.bx (h k),fun r=>g.rw (f r),fun r=>g.fp (f r)⟩
 have rowE:∀ r,get (σ.ren f h).row r = get σ.row (f r):=fun r=>by
  have:=gT hf (fun x:Row=>x) σ.row r;simpa [St.ren] using this
 have boxE:∀ k,get (σ.ren f h).box k = (get σ.box (h k)).map (List.map (renL f h)):=fun k=>gT hh (List.map (renL f h)) σ.box k
 have repL:∀ l v,RepL w g σ l v → RepL w g' (σ.ren f h) (renL f h l) v:=by
  intro l v hr;cases l with
  | t x=>exact hr
  | ref r p z off len =>
   obtain ⟨row,es,u,e1,e2,e3,e4⟩:=hr;exact ⟨row,es,u,by rw[rowE,hf];exact e1,e2,by simp only[g',hf];exact e3,e4⟩
  | nil=>exact hr
  | ptr b j =>
   obtain ⟨e1,e2⟩:=hr;refine ⟨by rw[boxE,hh];simpa using e1,?_⟩;simp only[g',hh];exact e2
  | ept r p i j d =>
   obtain ⟨row,z,es,ad,n,cap,e1,e2,e3,e4⟩:=hr;exact ⟨row,z,es,ad,n,cap,by rw[rowE,hf];exact e1,e2,by simp only[g',hf];exact e3,e4⟩
  | npt=>exact hr
  | fn q caps =>
   obtain ⟨e1,e2⟩:=hr;refine ⟨fun b hb=>?_,?_⟩
   ·obtain ⟨b0,hb0,rfl⟩:=List.mem_map.1 hb;rw[boxE,hh];simpa using e1 b0 hb0
   ·rw[e2];simp only[List.map_map,g'];congr 2;exact List.map_congr_left fun b _=>by simp[hh]
  | undef=>exact hr
 have repLs:∀ ls vs,RepLs w g σ ls vs → RepLs w g' (σ.ren f h) (ls.map (renL f h)) vs:=by
  intro ls;induction ls with
  | nil=>intro vs hr;cases vs with
   | nil=>trivial
   | cons=>exact hr.elim
  | cons l ls ih=>intro vs hr;cases vs with
   | nil=>exact hr.elim
   | cons v vs=>exact ⟨repL l v hr.1,ih vs hr.2⟩
 have repV:∀ x v,RepV w g σ x v → RepV w g' (σ.ren f h) (renV f h x) v:=by
  intro x v hr;cases x with
  | l y=>exact repL y v hr
  | agg ys=>obtain ⟨vs,e,hr⟩:=hr;exact ⟨vs,e,repLs ys vs hr⟩
  | tup ys =>
   obtain ⟨vs,e,hr⟩:=hr;refine ⟨vs,e,?_⟩;clear e;induction ys generalizing vs with
   | nil=>cases vs with
    | nil=>trivial
    | cons=>exact hr.elim
   | cons y ys ih=>cases vs with
    | nil=>exact hr.elim
    | cons v vs =>
     refine ⟨?_,ih vs hr.2⟩;have:=hr.1;unfold RepW at this ⊢;cases hy:y.1 with
     | true =>
      simp only[hy,if_true] at this ⊢;obtain ⟨us,e,hr⟩:=this;exact ⟨us,e,repLs _ _ hr⟩
     | false =>
      simp only[hy,Bool.false_eq_true,if_false] at this ⊢;obtain ⟨l,e,hr⟩:=this;exact ⟨renL f h l,by simp[e],repL l _ hr⟩
 have own:∀ b,Owned g' (σ.ren f h) b ↔ Owned g σ b:=by
  intro b;constructor
  ·rintro (⟨k,ls,h1,h2⟩ | ⟨r,row,h1,h2,h3⟩)
   ·rw[boxE] at h1;simp only[Option.map_eq_some_iff] at h1;obtain ⟨ls0,h1,_⟩:=h1;exact Or.inl ⟨h k,ls0,h1,h2⟩
   ·rw[rowE] at h1;exact Or.inr ⟨f r,row,h1,h2,h3⟩
  ·rintro (⟨k,ls,h1,h2⟩ | ⟨r,row,h1,h2,h3⟩)
   ·exact Or.inl ⟨h k,ls.map (renL f h),by rw[boxE,hh,h1];rfl,by simp only[g',hh];exact h2⟩
   ·exact Or.inr ⟨f r,row,by rw[rowE,hf];exact h1,h2,by simp only[g',hf];exact h3⟩
 (have ownE:(fun b=>¬ Owned g' (σ.ren f h) b) = fun b=>¬ Owned g σ b:=by funext b;rw[own]);have m:=R.mem
 have m':Mem w g' (σ.ren f h):=by
  refine ⟨?_,?_,?_,?_,?_,?_,?_,fun b hb=>m.lt b ((own b).1 hb)⟩
  ·intro k ls hk;rw[boxE] at hk;simp only[Option.map_eq_some_iff] at hk;obtain ⟨ls0,hk,rfl⟩:=hk;obtain ⟨cs,e,hc,hr⟩:=m.box _ ls0 hk;exact ⟨cs,e,hc,repLs _ _ hr⟩
  ·intro r row hr hp;rw[rowE] at hr;exact m.own _ row hr hp
  ·intro r row hr hp;rw[rowE] at hr;rw[ownE];exact m.top _ row hr hp
  ·intro r row hr hp;rw[rowE] at hr;rw[ownE];exact m.ro _ row hr hp
  ·intro k k' ls ls' hk hk' e;rw[boxE] at hk hk';simp only[Option.map_eq_some_iff] at hk hk';obtain ⟨l1,hk,_⟩:=hk;obtain ⟨l2,hk',_⟩:=hk';have:=m.bb _ _ l1 l2 hk hk' e;rw[← hh k,this,hh]
  ·intro k ls r row hk hr hp;rw[boxE] at hk;simp only[Option.map_eq_some_iff] at hk;obtain ⟨l1,hk,_⟩:=hk;rw[rowE] at hr;exact m.br _ l1 _ row hk hr hp
  ·intro r r' row row' b hr hr' hp hp' hb hb';rw[rowE] at hr hr';have:=m.rr _ _ row row' b hr hr' hp hp' hb hb';rw[← hf r,this,hf]
 refine ⟨g',⟨fun t c v hg hc=>?_,fun t c v hg hc=>?_⟩,pq R.unq,m',fun b hb=>R.own b ((own b).1 hb),R.frm,R.siz,R.os,R.tape,R.out,R.dfr,R.tsz,fun x hx=>?_⟩
 ·simp only[St.ren] at hg;rw[gU] at hg;simp only[Option.map_eq_some_iff,Prod.mk.injEq] at hg;obtain ⟨⟨c',v'⟩,hg,rfl,rfl⟩:=hg;exact repV _ _ (R.slots.yes t c' v' hg hc)
 ·simp only[St.ren] at hg;rw[gU] at hg;simp only[Option.map_eq_some_iff,Prod.mk.injEq] at hg;obtain ⟨⟨c',v'⟩,hg,rfl,rfl⟩:=hg;exact R.slots.no t c' v' hg hc
 ·simp only[St.ren,List.mem_map] at hx;obtain ⟨y,hy,rfl⟩:=hx;obtain ⟨q1,q2,q3⟩:=R.sav y hy;refine ⟨fun t c v hg hc=>?_,fun t c v hg hc=>?_,pq q3⟩
  ·rw[gU] at hg;simp only[Option.map_eq_some_iff,Prod.mk.injEq] at hg;obtain ⟨⟨c',v'⟩,hg,rfl,rfl⟩:=hg;exact repV _ _ (q1 t c' v' hg hc)
  ·rw[gU] at hg;simp only[Option.map_eq_some_iff,Prod.mk.injEq] at hg;obtain ⟨⟨c',v'⟩,hg,rfl,rfl⟩:=hg;exact q2 t c' v' hg hc
theorem Sub.nilRow {t nm z:Nat} (hg:get σ.env t = some (true,.l .nil)) (hnm:get σ.row nm = none) :
  Sub σ { σ with env:=(t,true,.l (.ref nm [] z 0 0)) :: del [t] σ.env,row:=(nm,⟨.own,z,[]⟩) :: σ.row }:=by
 intro w0 Al N a w g R
 obtain ⟨oa,hv⟩:=R.slots.yes t true _ hg rfl
 have hrep:Rep w true (.slice oa 0 0) (.sl z []) fun _=>False:=by
  cases oa with
  | none=>exact .nils
  | some ad=>exact .bare
 let g':Gh:=⟨g.bx,fun k=>if k = nm then .slice oa 0 0 else g.rw k,fun k=>if k = nm then fun _=>False else g.fp k⟩
 let σ1:St:={ σ with row:=(nm,⟨.own,z,[]⟩) :: σ.row }
 have hin:NewIn w w g g' σ σ1 [] [] [(nm,⟨.own,z,[]⟩)] [] (fun _=>false):=by
  have hk:∀ k row,get [(nm,(⟨.own,z,[]⟩:Row))] k = some row → k = nm ∧ row = ⟨.own,z,[]⟩:=by
   intro k row h
   simp only[get] at h
   split at h
   ·rename_i e
    simp only[Option.some.injEq] at h
    exact ⟨e,h.symm⟩
   ·cases h
  refine ⟨by simp[σ1,bw],by simp[σ1,bw,cD],fun _ _ _=>rfl,Nat.le_refl _,fun r _ hr=>?_,fun _ _ _=>rfl,fun k row h=>?_,fun k ls h=>by simp[get] at h,?_,?_,?_,?_,fun k ls h=>by simp[get] at h,?_,fun k ls r row h=>by simp[get] at h,fun k k' ls ls' h=>by simp[get] at h,fun k ls h=>by simp[get] at h,fun _ _ r p _ _ h=>by simp at h,fun _ _ b _ _ h=>by simp at h⟩
  ·have:r ≠ nm:=fun e=>by subst e;rw[hnm] at hr;cases hr
   simp[g',this]
  ·obtain ⟨rfl,_⟩:=hk k row h;exact Or.inr hnm
  ·intro k row h _;obtain ⟨rfl,rfl⟩:=hk k row h;simp only[g',if_true];exact hrep
  ·intro k row h hp;obtain ⟨_,rfl⟩:=hk k row h;cases hp
  ·intro k row h hp;obtain ⟨_,rfl⟩:=hk k row h;cases hp
  ·intro k row b h _ hb;obtain ⟨rfl,_⟩:=hk k row h;simp[g'] at hb
  ·intro r r' row row' b h h' _ _ hb;obtain ⟨rfl,_⟩:=hk r row h;simp[g'] at hb
 have R1:=R.turn hin (σ1:=σ1) ⟨by rw[bD],(bK _).symm⟩ rfl rfl rfl
 have hlt:t < N:=by
  rw[← R.tsz]
  apply Nat.lt_of_not_le
  intro h
  have:a.tmps.getD t undef = undef:=by rw[Array.getD_eq_getD_getElem?,Array.getElem?_eq_none h];rfl
  rw[this] at hv
  simp[undef] at hv
 have hput:=R1.put (d:=some t) (fun s hs=>by cases hs;exact hlt) (c:=true) (v:=.l (.ref nm [] z 0 0)) (x:=.slice oa 0 0) (fun _=>⟨⟨.own,z,[]⟩,[],.slice oa 0 0,by simp[σ1,get],rfl,by simp[valAt,g'],by simp,View.whole _ _ _ _ _⟩) (fun e=>by cases e)
 refine ⟨g',?_⟩
 have ha:a.put (some t) (.slice oa 0 0) = a:=by
  have hlt':t < a.tmps.size:=by rw[R.tsz];exact hlt
  obtain ⟨tm,df⟩:=a
  simp only[Act.put] at hv hlt' ⊢
  congr 1
  apply Array.ext
  ·simp
  ·intro i h1 h2
   rw[Array.getElem_setIfInBounds]
   split
   ·rename_i e
    subst e
    rw[Array.getD_eq_getD_getElem?,Array.getElem?_eq_getElem h2] at hv
    simpa using hv.symm
   ·rfl
 rw[ha] at hput
 exact hput
end
def Step (P:Program) (N:Nat) (k:Bool) (ops:List Oper) (o:Oper) (σ:St) (next:St → Prop):Prop :=
 dstOk N o.dst ∧ match guardOf σ ops.toArray o.guard with
  | none=>False
  | some G=>match Op.isPv o.op with
   | true=>match pv P σ o.op with
    | some (c,v)=>(G = true → c) ∧ next (σ.set o.dst G v)
    | none=>False
   | false=>match calleeOf σ o.op with
    | some (c,f,vs)=>CallG P k f vs c G o.dst (fun σ'=>next σ') σ
    | none=>(G = false → next (σ.set o.dst false (.l .undef))) ∧ (G = true → match eff P σ σ.nxt o.op with
     | some (c,σ',some v)=>c ∧ next ({ σ' with nxt:=σ.nxt + 1 }.set o.dst true v)
     | some (c,σ',none)=>c ∧ next ({ σ' with nxt:=σ.nxt + 1 }.set o.dst false (.l .undef))
     | none=>False)
def RunL (P:Program) (N:Nat) (k:Bool) (ops:List Oper) (K:St → Prop):List Oper → St → Prop
 | [],σ=>K σ
 | o :: rest,σ=>Step P N k ops o σ (RunL P N k ops K rest)
section
variable {P:Program} {N:Nat} {σ:St} {K:Exit → St → Prop}
theorem bW {k:Bool} {ops:List Oper} {o:Oper} {next next':St → Prop} (hn:∀ σ,next σ → next' σ) (h:Step P N k ops o σ next):Step P N k ops o σ next':=by
 unfold Step at *;obtain ⟨h1,h2⟩:=h;refine ⟨h1,?_⟩;cases hg:guardOf σ ops.toArray o.guard with
 | none=>rw[hg] at h2;exact h2.elim
 | some G =>
  simp only[hg] at h2 ⊢;cases hp:Op.isPv o.op with
  | true =>
   simp only[hp] at h2 ⊢;cases hv:pv P σ o.op with
   | none=>rw[hv] at h2;exact h2.elim
   | some q=>simp only[hv] at h2 ⊢;exact ⟨h2.1,hn _ h2.2⟩
  | false =>
   simp only[hp] at h2 ⊢;cases hc:calleeOf σ o.op with
   | some q =>
    simp only[hc] at h2 ⊢;obtain ⟨σ1,v1,hsub,h3,h4⟩:=h2;refine ⟨σ1,v1,hsub,fun e=>hn _ (h3 e),fun e=>?_⟩;have h5:=h4 e;refine ⟨h5.1,h5.2.1,fun w0 Al N a w g vs R hv=>?_⟩;refine Calls.mono (h5.2.2 w0 Al N a w g vs R hv) fun e w' he=>?_;cases e with
    | returned r=>obtain ⟨σ',g',v,q1,q2,q3,q4⟩:=he;exact ⟨σ',g',v,q1,q2,hn _ q3,q4⟩
    | panicked=>exact he
    | outgrown=>exact he
   | none =>
    simp only[hc] at h2 ⊢;refine ⟨fun e=>hn _ (h2.1 e),fun e=>?_⟩;have h5:=h2.2 e;cases he:eff P σ σ.nxt o.op with
    | none=>rw[he] at h5;exact h5.elim
    | some q =>
     obtain ⟨c,σ',rv⟩:=q;cases rv with
     | none=>simp only[he] at h5 ⊢;exact ⟨h5.1,hn _ h5.2⟩
     | some v=>simp only[he] at h5 ⊢;exact ⟨h5.1,hn _ h5.2⟩
theorem lg {K:St → Prop} (ops:List Oper):∀ (pre rest:List Oper) (σ:St),ops = pre ++ rest → RunL P N false ops K rest σ → Run P N ops.toArray K ((List.range rest.length).map (· + pre.length)) σ
 | pre,[],σ,_,h=>h
 | pre,o :: rest,σ,e,h=>by
  have hget:ops.toArray[pre.length]? = some o:=by simp[e]
  have ih:=fun σ=>lg (K:=K) ops (pre ++ [o]) rest σ (by simp[e])
  have hl:(List.range (o :: rest).length).map (· + pre.length) = pre.length :: (List.range rest.length).map (· + (pre ++ [o]).length):=by
   rw[List.length_cons,List.range_succ_eq_map]
   simp only[List.map_cons,List.map_map,List.length_append,List.length_singleton,Nat.zero_add]
   congr 1
   apply List.map_congr_left
   intro x _
   simp only[Function.comp]
   omega
  rw[hl]
  simp only[Run,hget]
  exact bW (fun σ=>ih σ) h
theorem ab {id:Nat} {l:List Oper} (h:RunL P N false l (K .normal) l σ):W P N (.region id l.toArray false) K σ :=
 uS (by
  have:=lg (P:=P) (N:=N) (K:=K .normal) l [] l σ rfl h
  simpa using this)
end
def growOp (kc:Bool):Op → Bool
 | .call { callee:=.value _,.. }=>kc
 | o=>Op.isPv o || Op.grows o
def growAt (kc:Bool) (ops:Array Oper) (i:Nat):Bool:=((ops[i]?).map fun o=>growOp kc o.op).getD true
def wpAnyK (kc:Bool) (P:Program) (ops:Array Oper) (Q:Exit → Act → World → Prop):Nat → Array Bool → Act → World → Prop
 | 0,listed,a,w=>Region.ready .any ops listed = [] ∧ Q .normal a w
 | fuel + 1,listed,a,w =>
  (Region.ready .any ops listed = [] → Q .normal a w) ∧
  ∀ i ∈ Region.ready .any ops listed,wpOp P ops Q i (fun a' w'=>(growAt kc ops i = true → Kept w w') ∧ wpAnyK kc P ops Q fuel (listed.setIfInBounds i true) a' w') a w
def aheadF (ops:Array Oper) (i:Nat):Nat → Nat → Bool
 | 0,_=>false
 | n + 1,j=>match ops[j]? with
  | some oj=>oj.after.any fun e=>Region.binds .any e && (e.on == i || aheadF ops i n e.on)
  | none=>false
theorem lh {ops:Array Oper} {i:Nat}:∀ (n j:Nat),aheadF ops i n j = true → aheadF ops i (n + 1) j = true
 | 0,_,h=>by cases h
 | n + 1,j,h=>by
  unfold aheadF at h ⊢
  split at h
  ·rename_i oj hoj
   obtain ⟨e,he,hb⟩:=Array.any_eq_true'.1 h
   simp only[Bool.and_eq_true,Bool.or_eq_true] at hb
   refine Array.any_eq_true'.2 ⟨e,he,?_⟩
   simp only[Bool.and_eq_true,Bool.or_eq_true]
   exact ⟨hb.1,hb.2.imp id (lh n e.on)⟩
  ·cases h
def freeK (kc:Bool) (ops:Array Oper) (listed:Array Bool) (i:Nat):Bool :=
 match ops[i]? with
 | none=>false
 | some oi=>(Op.isPv oi.op && (List.range ops.size).all fun j=>j == i || listed.getD j true || match ops[j]? with
   | some oj=>oj.after.any (fun e=>Region.binds .any e && e.on == i) || (oi.apart ops oj && (stillOp oi.op || growOp kc oj.op)) || aheadF ops i 8 j
   | none=>true) && (List.range ops.size).all fun k=>k == i || !(listed.getD k false) || !(aheadF ops i 8 k)
def checkK (kc:Bool) (ops:Array Oper):List Nat → Array Bool → Bool
 | [],listed=>(Region.ready .any ops listed).isEmpty
 | i :: rest,listed=>(Region.ready .any ops listed).contains i && (freeK kc ops listed i || Region.ready .any ops listed == [i]) && checkK kc ops rest (listed.setIfInBounds i true)
section
variable {kc:Bool} {P:Program} {w0 w w':World} {Al:Blks} {N:Nat} {g:Gh} {σ:St} {a:Act} {ops:Array Oper} {Q:Exit → Act → World → Prop}
theorem jb:∀ (fuel:Nat) (listed:Array Bool) (a:Act) (w:World),wpAnyK kc P ops Q fuel listed a w → wpAny P .any ops Q fuel listed a w
 | 0,_,_,_,h=>h
 | fuel + 1,_,_,_,h=>⟨h.1,fun i hi=>wpOp_mono (fun a' w' h'=>jb fuel _ a' w' h'.2) (h.2 i hi)⟩
theorem eg {b:Bool} {i:Nat} {oi:Oper} {v:Value} (hi:ops[i]? = some oi) (hsel:∀ (j:Nat) (o:Oper) cs b,ops[j]? = some o → o.op ≠ .select cs b)
  (hQ:∀ c a w,Q (.panic c) (a.put oi.dst v) w → Q (.panic c) a w) :
  ∀ (fuel:Nat) (listed:Array Bool) (a:Act) (w:World),((∀ j oj,ops[j]? = some oj → j ≠ i → listed.getD j true = false → (∀ e ∈ oj.after,Region.binds .any e = true → e.on ≠ i) → aheadF ops i 8 j = false → oi.apart ops oj = true ∧ (b = true ∨ growAt kc ops j = true)) ∧
    ∀ k,k ≠ i → listed.getD k false = true → aheadF ops i 8 k = false) →
   i ∈ Region.ready .any ops listed → YieldsIf P ops (fun w1=>b = true ∨ Kept w w1) oi v a →
   wpAnyK kc P ops Q fuel (listed.setIfInBounds i true) (a.put oi.dst v) w → wpAnyK kc P ops Q (fuel + 1) listed a w:=by
 intro fuel
 induction fuel with
 | zero =>
  intro listed a w _ hr hy H
  refine ⟨fun h=>(by rw[h] at hr;cases hr),fun j hj=>?_⟩
  by_cases hji:j = i
  ·subst hji;exact hy.wpOp hi (.inr (.refl w)) ⟨fun _=>.refl w,H⟩
  ·have:=ready_mono hj hji
   rw[H.1] at this
   cases this
 | succ fuel ih =>
  rintro listed a w ⟨hfree,hinv⟩ hr hy H
  refine ⟨fun h=>(by rw[h] at hr;cases hr),fun j hj=>?_⟩
  by_cases hji:j = i
  ·subst hji;exact hy.wpOp hi (.inr (.refl w)) ⟨fun _=>.refl w,H⟩
  ·have h1:=H.2 j (ready_mono hj hji)
   obtain ⟨hjun,oj,hoj,hall⟩:=mem_ready.1 hj
   have hnot:∀ e ∈ oj.after,Region.binds .any e = true → e.on ≠ i:=fun e he hb heq=>by
    have h1:=hall e he hb
    have h0:=(mem_ready.1 hr).1
    rw[heq] at h1
    rcases Nat.lt_or_ge i listed.size with h' | h'
    ·simp[h'] at h0 h1;rw[h0] at h1;cases h1
    ·simp[Array.getElem?_eq_none h'] at h1
   have hna:aheadF ops i 8 j = false:=by
    cases hA:aheadF ops i 8 j with
    | false=>rfl
    | true =>
     unfold aheadF at hA
     rw[hoj] at hA
     obtain ⟨e,he,hb⟩:=Array.any_eq_true'.1 hA
     simp only[Bool.and_eq_true,Bool.or_eq_true,beq_iff_eq] at hb
     rcases hb.2 with hb2 | hb2
     ·exact absurd hb2 (hnot e he hb.1)
     ·have h3:=hinv e.on (hnot e he hb.1) (hall e he hb.1)
      rw[lh 7 e.on hb2] at h3
      cases h3
   obtain ⟨hap,hgr⟩:=hfree j oj hoj hji hjun hnot hna
   have h2:=wpOp_putIf hoj hap (fun cs b=>hsel i oi cs b hi) (fun cs b=>hsel j oj cs b hoj) hQ hy h1
   have hinv':∀ k,k ≠ i → (listed.setIfInBounds j true).getD k false = true → aheadF ops i 8 k = false:=fun k hki hk=>by
    by_cases hjk:j = k
    ·subst hjk;exact hna
    ·rw[getD_set_ne false hjk] at hk;exact hinv k hki hk
   have hfree':∀ k ok,ops[k]? = some ok → k ≠ i → (listed.setIfInBounds j true).getD k true = false →
     (∀ e ∈ ok.after,Region.binds .any e = true → e.on ≠ i) → aheadF ops i 8 k = false → oi.apart ops ok = true ∧ (b = true ∨ growAt kc ops k = true):=fun k ok hk hki hun hno hA=>by
    refine hfree k ok hk hki ?_ hno hA
    by_cases hjk:j = k
    ·subst hjk;exact hjun
    ·rw[getD_set_ne true hjk] at hun;exact hun
   refine wpOp_mono (fun a' w' h3=>?_) h2
   obtain ⟨h3,h4,h5⟩:=h3
   have hk:∀ w2,(b = true ∨ Kept w' w2) → b = true ∨ Kept w w2:=fun w2 h2=>by
    rcases hgr with hgr | hgr
    ·exact .inl hgr
    ·exact h2.imp id (h4 hgr).trans
   have hy':YieldsIf P ops (fun w1=>b = true ∨ Kept w' w1) oi v a':=h3.imp (fun ⟨q1,q2⟩=>⟨q1,fun w2 hw2=>q2 w2 (hk w2 hw2)⟩) id
   refine ⟨h4,ih (listed.setIfInBounds j true) a' w' ⟨hfree',hinv'⟩ (ready_mono hr (Ne.symm hji)) hy' ?_⟩
   rw[Array.setIfInBounds_comm _ _ hji]
   exact h5
theorem mM {i:Nat} {oi:Oper} {listed:Array Bool} (hi:ops[i]? = some oi) (h:freeK kc ops listed i = true):Op.isPv oi.op = true ∧ ((∀ (j:Nat) (oj:Oper),ops[j]? = some oj → j ≠ i → listed.getD j true = false → (∀ e ∈ oj.after,Region.binds .any e = true → e.on ≠ i) → aheadF ops i 8 j = false → oi.apart ops oj = true ∧ (stillOp oi.op = true ∨ growAt kc ops j = true)) ∧
  ∀ k,k ≠ i → listed.getD k false = true → aheadF ops i 8 k = false):=by
 simp only[freeK,hi,Bool.and_eq_true,List.all_eq_true,List.mem_range] at h
 refine ⟨h.1.1,fun j oj hj hne hun hno hA=>?_,fun k hki hk=>?_⟩
 ·have h1:=h.1.2 j (Array.getElem?_eq_some_iff.1 hj).1
  simp only[hj,Bool.or_eq_true,beq_iff_eq,hne,false_or,hun,Bool.false_eq_true,Bool.and_eq_true,hA,or_false] at h1
  rcases h1 with h1 | h1
  ·obtain ⟨e,he,hb⟩:=Array.any_eq_true'.1 h1
   simp only[Bool.and_eq_true,beq_iff_eq] at hb
   exact absurd hb.2 (hno e he hb.1)
  ·exact ⟨h1.1,h1.2.imp id fun h=>by simp[growAt,hj,h]⟩
 ·cases hA:aheadF ops i 8 k with
  | false=>rfl
  | true =>
   have hlt:k < ops.size:=by
    unfold aheadF at hA
    split at hA
    ·rename_i oj hoj
     exact (Array.getElem?_eq_some_iff.1 hoj).1
    ·cases hA
   have h1:=h.2 k hlt
   simp[hki,hk,hA] at h1
theorem bX {k:Bool} (hkk:kc = true → k = true) {l:List Oper} {i:Nat} {o:Oper} {next:St → Prop} (ho:l.toArray[i]? = some o) (R:Rel w0 Al N σ a w g) (h:Step P N k l o σ next) {M:Act → World → Prop}
  (hM:∀ σ' a' w' g',Rel w0 Al N σ' a' w' g' → next σ' → (growAt kc l.toArray i = true → Kept w w') → M a' w'):wpOp P l.toArray Q i M a w:=by
 unfold wpOp
 simp only[ho]
 obtain ⟨hd,h⟩:=h
 have hd':∀ t,o.dst = some t → t < N:=by
  intro t ht
  rw[ht] at hd
  exact hd
 have hgr:growAt kc l.toArray i = growOp kc o.op:=by simp only[growAt,ho,Option.map_some,Option.getD_some]
 split at h
 ·exact h.elim
 ·rename_i G hG
  rw[fe R hG]
  split at h
  ·split at h
   ·rename_i c v hp
    obtain ⟨hc,h⟩:=h
    cases G with
    | true =>
     obtain ⟨r,hr,hv⟩:=uM R.mem R.slots hp (hc rfl)
     simp only[if_true]
     refine .inl ?_
     simp only[Oper.wp,hr,Oper.upon]
     exact hM _ _ _ g (R.put hd' (fun _=>hv) (fun e=>by cases e)) h fun _=>.refl w
    | false =>
     simp only[Bool.false_eq_true,if_false]
     exact hM _ _ _ g (R.put hd' (fun e=>by cases e) (fun _=>rfl)) h fun _=>.refl w
   ·exact h.elim
  ·rename_i hpv
   split at h
   ·rename_i c f vs hcal
    have hcg:growAt kc l.toArray i = true → kc = true:=by
     intro hg
     rw[hgr] at hg
     unfold growOp at hg
     split at hg
     ·exact hg
     ·rename_i hne
      exfalso
      unfold calleeOf at hcal
      split at hcal
      ·rename_i f0 args ats hop
       exact hne _ _ _ hop
      ·cases hcal
    obtain ⟨σ1,v1,hsub,h0,h1⟩:=h
    cases G with
    | false =>
     simp only[Bool.false_eq_true,if_false]
     obtain ⟨g1,R1⟩:=hsub _ _ _ _ _ _ R
     exact hM _ _ _ g1 (R1.put hd' (fun e=>by cases e) (fun _=>rfl)) (h0 rfl) fun _=>.refl w
    | true =>
     obtain ⟨hc,hours,hcall⟩:=h1 rfl
     simp only[if_true]
     refine .inl ?_
     obtain ⟨us,hus,hrun⟩:=mK R hcal hc hours
     simp only[Oper.wp,hrun,Oper.upon]
     refine Calls.mono (hcall w0 Al N a w g us R hus) fun e w2 he=>?_
     cases e with
     | returned r =>
      obtain ⟨σ2,g2,v,R2,hv,hK,hk⟩:=he
      exact hM _ _ _ g2 (R2.put hd' (fun _=>hv) (fun e=>by cases e)) hK fun hg=>hk (hkk (hcg hg))
     | panicked=>exact he.elim
     | outgrown=>exact he.elim
   ·rename_i hcal
    obtain ⟨h0,h1⟩:=h
    cases G with
    | false =>
     simp only[Bool.false_eq_true,if_false]
     exact hM _ _ _ g (R.put hd' (fun e=>by cases e) (fun _=>rfl)) (h0 rfl) fun _=>.refl w
    | true =>
     have h:=h1 rfl
     simp only[if_true]
     refine .inl ?_
     have hgo:growOp kc o.op = true → Op.grows o.op = true:=by
      intro hg
      unfold growOp at hg
      split at hg
      ·rename_i f args ats hop
       rw[hop] at h
       simp[eff] at h
      ·rw[hpv] at hg
       simpa using hg
     split at h
     ·rename_i c σ2 v he
      obtain ⟨hc,h⟩:=h
      obtain ⟨n,w2,g2,hr,hk,R2,x,rfl,hv⟩:=md R he hc
      simp only[Oper.wp,hr,Oper.upon]
      exact hM _ _ _ g2 ((R2.num (σ.nxt + 1)).put hd' (fun _=>hv.same rfl rfl) (fun e=>by cases e)) h fun hg=>hk (hgo (hgr ▸ hg))
     ·rename_i c σ2 he
      obtain ⟨hc,h⟩:=h
      obtain ⟨n,w2,g2,hr,hk,R2,rfl⟩:=md R he hc
      simp only[Oper.wp,hr,Oper.upon]
      exact hM _ _ _ g2 ((R2.num (σ.nxt + 1)).put hd' (fun e=>by cases e) (fun _=>rfl)) h fun hg=>hk (hgo (hgr ▸ hg))
     ·exact h.elim
theorem fT {l:List Oper} {K:St → Prop} (hsel:Region.noSelect l.toArray = true) (hQ:∀ c a w,¬ Q (.panic c) a w) (hK:∀ σ' a' w' g',Rel w0 Al N σ' a' w' g' → K σ' → Q .normal a' w') :
  ∀ (ord:List Nat) (os:List Oper) (listed:Array Bool) (σ:St) (a:Act) (w:World) (g:Gh),checkK kc l.toArray ord listed = true → os.map some = ord.map (l.toArray[·]?) → RunL P N kc l K os σ → Rel w0 Al N σ a w g →
   wpAnyK kc P l.toArray Q ord.length listed a w
 | [],os,listed,σ,a,w,g,hc,ho,h,R=>by
  cases os with
  | cons=>simp at ho
  | nil =>
   simp only[checkK,List.isEmpty_iff] at hc
   exact ⟨hc,hK σ a w g R h⟩
 | i :: rest,os,listed,σ,a,w,g,hc,ho,h,R=>by
  cases os with
  | nil=>simp at ho
  | cons o os =>
   simp only[List.map_cons,List.cons.injEq] at ho
   obtain ⟨ho,hos⟩:=ho
   have ho:=ho.symm
   simp only[checkK,Bool.and_eq_true,Bool.or_eq_true] at hc
   obtain ⟨⟨hrd,hone⟩,hrest⟩:=hc
   have hrd:i ∈ Region.ready .any l.toArray listed:=by simpa using hrd
   simp only[RunL] at h
   rcases hone with hfr | hone
   ·obtain ⟨hpv,hfree⟩:=mM ho hfr
    have h0:=h
    obtain ⟨hd,h⟩:=h
    have hd':∀ t,o.dst = some t → t < N:=by
     intro t ht
     rw[ht] at hd
     exact hd
    split at h
    ·exact h.elim
    ·rename_i G hG
     have hw:=fe R hG
     simp only[hpv] at h
     split at h
     ·rename_i c v hp
      obtain ⟨hc,h⟩:=h
      cases G with
      | true =>
       obtain ⟨r,hr,hv⟩:∃ r,(∀ w1,(stillOp o.op = true ∨ Kept w w1) → (execOp a.eval o).run P w1 = .ok (.value r) w1) ∧ RepV w g σ v r:=by
        cases hst:stillOp o.op with
        | true =>
         obtain ⟨r,hr,hv⟩:=pe R.mem R.slots hp (hc rfl) hst
         exact ⟨r,fun w1 _=>hr w1,hv⟩
        | false =>
         obtain ⟨r,hr,hv⟩:=ov R.mem R.slots hp (hc rfl)
         exact ⟨r,fun w1 h=>hr w1 (h.resolve_left (by simp)),hv⟩
       refine eg ho (Region.noSelect_spec hsel) (fun c a w h=>(hQ c _ w h).elim) rest.length listed a w hfree hrd (v:=r) (Or.inl ⟨hw,hr⟩) ?_
       exact fT hsel hQ hK rest os _ _ _ w g hrest hos h (R.put hd' (fun _=>hv) (fun e=>by cases e))
      | false =>
       refine eg ho (Region.noSelect_spec hsel) (fun c a w h=>(hQ c _ w h).elim) rest.length listed a w hfree hrd (v:=undef) (Or.inr ⟨hw,rfl⟩) ?_
       exact fT hsel hQ hK rest os _ _ _ w g hrest hos h (R.put hd' (fun e=>by cases e) (fun _=>rfl))
     ·exact h.elim
   ·have hone:Region.ready .any l.toArray listed = [i]:=by simpa using hone
    refine ⟨fun h=>(by rw[h] at hone;cases hone),fun j hj=>?_⟩
    rw[hone] at hj
    obtain rfl:j = i:=by simpa using hj
    exact bX (fun h=>h) ho R h fun σ' a' w' g' R' hn hk=>⟨fun hg=>hk hg,fT hsel hQ hK rest os _ _ _ w' g' hrest hos hn R'⟩
theorem uV {id:Nat} {l:List Oper} {K:Exit → St → Prop} (ord:List Nat) (os:List Oper) (hm:P.follows .mixedOrders = true) (hl:ord.length = l.length) (hsel:Region.noSelect l.toArray = true) (hc:checkK kc l.toArray ord (Array.replicate l.length false) = true)
  (ho:os.map some = ord.map (l.toArray[·]?)) (h:RunL P N kc l (K .normal) os σ):W P N (.region id l.toArray true) K σ:=by
 intro w0 Al a w g R
 let Q:Exit → Act → World → Prop:=fun e a w=>e = .normal ∧ Lift w0 Al N K .normal a w
 have key:(Code.region id l.toArray true).wp P Q a w:=by
  refine wp_region_any hm (jb (kc:=kc) _ _ _ _ ?_)
  have hQ1:∀ c a w,¬ Q (.panic c) a w:=by
   intro c a w h
   have:=h.1
   cases this
  have hQ2:∀ σ' a' w' g',Rel w0 Al N σ' a' w' g' → K .normal σ' → Q .normal a' w':=by
   intro σ' a' w' g' R' hK
   exact ⟨rfl,σ',g',R',hK⟩
  have:=fT (kc:=kc) (P:=P) (N:=N) (Q:=Q) (K:=K .normal) hsel hQ1 hQ2 ord os (Array.replicate l.length false) σ a { w with drawn:=w.drawn + 1 } g hc ho h R.drew
  rw[hl] at this
  simpa using this
 refine wp_mono key fun e a' w' hq=>?_
 obtain ⟨rfl,hq⟩:=hq
 exact hq
theorem eL {α:Type} (l:List α):∀ (ord:List Nat),ord.all (· < l.length) = true → (ord.filterMap (l[·]?)).map some = ord.map (l[·]?)
 | [],_=>rfl
 | i :: ord,h=>by
  simp only[List.all_cons,Bool.and_eq_true,decide_eq_true_eq] at h
  have e:l[i]? = some l[i]:=List.getElem?_eq_getElem h.1
  simp only[List.filterMap_cons,List.map_cons,e]
  rw[eL l ord h.2]
theorem ff (kc:Bool) {id:Nat} {l:List Oper} {K:Exit → St → Prop} (ord:List Nat) (hm:P.follows .mixedOrders = true)
  (hc:(ord.length == l.length && Region.noSelect l.toArray && ord.all (· < l.length) && checkK kc l.toArray ord (Array.replicate l.length false)) = true) (h:RunL P N kc l (K .normal) (ord.filterMap (l[·]?)) σ):W P N (.region id l.toArray true) K σ:=by
 simp only[Bool.and_eq_true,beq_iff_eq] at hc
 obtain ⟨⟨⟨h1,h2⟩,h3⟩,h4⟩:=hc
 exact uV ord _ hm h1 h2 h4 (by simpa using eL l ord h3) h
theorem ao (kc:Bool) {id:Nat} {l:List Oper} {K:Exit → St → Prop} (hm:P.follows .mixedOrders = true)
  (hc:(Region.noSelect l.toArray && checkK kc l.toArray (List.range l.length) (Array.replicate l.length false)) = true) (h:RunL P N kc l (K .normal) l σ):W P N (.region id l.toArray true) K σ:=by
 simp only[Bool.and_eq_true] at hc
 refine uV (List.range l.length) l hm (by simp) hc.1 hc.2 ?_ h
 apply List.ext_getElem?
 intro i
 simp only[List.getElem?_map,List.getElem?_toArray]
 by_cases hi:i < l.length
 ·simp[List.getElem?_range hi,List.getElem?_eq_getElem hi]
 ·simp[List.getElem?_eq_none (Nat.le_of_not_lt hi),hi]
end
theorem ap {n:Int} (h1:-9223372036854775808 ≤ n) (h2:n ≤ 9223372036854775807):IntKind.wrap .i64 n = n:=by
 rw[IntKind.wrap_i64];omega
theorem al {i:Nat} (h:i < 9223372036854775807):IntKind.wrap .i64 ((i:Int) + 1) = (i:Int) + 1:=ap (by omega) (by omega)
def St.to (σ:St) (ts:List Nat) (n:Nat):St:={ (σ.only ts) with nxt:=n }
theorem Sub.to {σ:St} (ts:List Nat) (n:Nat) (hn:ts.Nodup):Sub σ (σ.to ts n):=(Sub.only ts hn).trans (Sub.num n)
theorem kS {α:Type} {n:Nat}:∀ {xs:List (Nat × α)},xs.all (fun x=>decide (x.1 < n)) = true → ∀ k,n ≤ k → get xs k = none
 | [],_,_,_=>rfl
 | (i,x) :: xs,h,k,hk=>by
  simp only[List.all_cons,Bool.and_eq_true,decide_eq_true_eq] at h
  simp only[get]
  rw[if_neg (by omega)]
  exact kS h.2 k hk
theorem call_pc {P:Program} {k:Bool} {f:FuncId} {args res:List A} {vs:List V} {v:V} {K:St → V → Prop} {σ:St} (hpc:PC P f args res) (hden:denVs σ vs args) (hv:oneV (valsN σ.nxt res) = some v)
  (hfr:σ.row.all (fun x=>decide (x.1 < σ.nxt)) = true) (hK:K (σ.answer res) v):CallW P k f vs K σ :=
 rg hpc hden hv (fun _ _=>kS hfr _ (by omega)) hK
@[congr] theorem CallW_congr {P:Program} {k:Bool} {f:FuncId} {vs vs':List V} {K:St → V → Prop} {σ σ':St} (h:vs = vs') (hs:σ = σ'):CallW P k f vs K σ = CallW P k f vs' K σ':=by rw[h,hs]
@[congr] theorem CallG_congr {P:Program} {k:Bool} {f:FuncId} {vs vs':List V} {c c':Prop} {G G':Bool} {d:Option Nat} {next:St → Prop} {σ σ':St} (h:vs = vs') (hc:c = c') (hG:G = G') (hs:σ = σ') :
  CallG P k f vs c G d next σ = CallG P k f vs' c' G' d next σ':=by rw[h,hc,hG,hs]
theorem aj {P:Program} {k:Bool} {f:FuncId} {vs:List V} {c:Prop} {d:Option Nat} {next:St → Prop} {σ:St} (hc:c) (h:CallW P k f vs (fun σ' v=>next (σ'.set d true v)) σ):CallG P k f vs c true d next σ :=
 ⟨σ,.l .undef,fun _ _ _ _ _ g R=>⟨g,R⟩,(fun e=>by cases e),fun _=>⟨hc,h⟩⟩
theorem jc (pm:Pm):∀ (ts:List T) (k:Nat),ts.all (fun t=>match t with | .sl ..=>false | _=>true) = true → rowsN pm k ts = []
 | [],_,_=>rfl
 | t :: ts,k,h=>by
  simp only[List.all_cons,Bool.and_eq_true] at h
  have ih:=jc pm ts (k + 1) h.2
  cases t <;> simp_all [rowsN]
theorem uW {P:Program} {k:Bool} {f:FuncId} {args res:List A} {vs:List V} {v:V} {c:Prop} {G:Bool} {d:Option Nat} {next:St → Prop} {σ:St} (hpc:G = true → PC P f args res) (hc:G = true → c)
  (hden:G = true → denVs σ vs args) (hv:oneV (valsN σ.nxt res) = some v) (hfr:σ.row.all (fun x=>decide (x.1 < σ.nxt)) = true) (hfl:G = true ∨ (flatA res).all (fun t=>match t with | .sl ..=>false | _=>true) = true)
  (hK:next ((σ.answer res).set d G v)):CallG P k f vs c G d next σ:=by
 cases G with
 | true=>exact aj (hc rfl) (call_pc (hpc rfl) (hden rfl) hv hfr hK)
 | false =>
  refine ⟨σ.answer res,v,fun w0 Al N a w g R=>⟨g,?_⟩,fun _=>hK,(fun e=>by cases e)⟩
  have hf:=hfl.resolve_left (by simp)
  unfold St.answer
  rw[jc _ _ _ hf]
  exact R.num _
def Again (J:Nat → St → Prop) (n:Nat) (σ:St):Prop:=∃ m σ',m < n ∧ Sub σ σ' ∧ J m σ'
theorem W_loopS {P:Program} {N:Nat} {K:Exit → St → Prop} {c:Code} {σ:St} (J:Nat → St → Prop) {n:Nat} {σ0:St} (hs:Sub σ σ0) (h0:J n σ0)
  (round:∀ n σ,J n σ → W P N c (Then (Again J n) K) σ):W P N (.loop c) K σ :=
 W_loop (fun n σ=>∃ σ',Sub σ σ' ∧ J n σ') n ⟨σ0,hs,h0⟩ fun n σ ⟨σ1,h1,h2⟩=>iB h1 (re (round n σ1 h2) fun e σ' h=>by
  cases e with
  | normal=>obtain ⟨m,σ'',q1,q2,q3⟩:=h;exact ⟨m,q1,σ'',q2,q3⟩
  | _=>exact h)
theorem pt (next:St → Prop) (K:Exit → St → Prop):Then next K .normal = next:=rfl
theorem tA (next:St → Prop) (K:Exit → St → Prop) (id:Nat):Then next K (.exit id) = K (.exit id):=rfl
theorem uX (next:St → Prop) (K:Exit → St → Prop):Then next K .ret = K .ret:=rfl
theorem mN (id:Nat) (K:Exit → St → Prop):InBlock id K .normal = K .normal:=rfl
theorem oA (id:Nat) (K:Exit → St → Prop):InBlock id K (.exit id) = K .normal:=by funext σ;simp[InBlock]
theorem mc (id id':Nat) (K:Exit → St → Prop) (h:id' ≠ id):InBlock id K (.exit id') = K (.exit id'):=by funext σ;simp[InBlock,h]
theorem pu (id:Nat) (K:Exit → St → Prop):InBlock id K .ret = K .ret:=rfl
theorem tB (kill:L → Bool):killE kill [] = []:=rfl
theorem rh (kill:L → Bool) (t:Nat) (c:Bool) (v:V) (env:List (Nat × Bool × V)):killE kill ((t,c,v) :: env) = if v.leaves.any kill = true then killE kill env else (t,c,v) :: killE kill env:=by
 unfold killE;rw[List.filter_cons];cases v.leaves.any kill <;> simp
theorem uY {α:Type} (ns:List Nat):del ns ([]:List (Nat × α)) = []:=rfl
theorem uZ {α:Type} (ns:List Nat) (k:Nat) (x:α) (xs:List (Nat × α)):del ns ((k,x) :: xs) = if ns.contains k = true then del ns xs else (k,x) :: del ns xs:=by
 unfold del;rw[List.filter_cons];cases ns.contains k <;> simp
def enc {α:Type} (f:α → List T) (xs:List α):Els:=xs.map f
theorem aL {α:Type} (f:α → List T) (xs:List α):(enc f xs).length = xs.length:=by simp[enc]
theorem sM {α:Type} (f:α → List T) (xs:List α) (i:Nat):(enc f xs)[i]? = xs[i]?.map f:=by simp[enc]
theorem pw {α:Type} (f:α → List T) (xs:List α) (i:Nat) (h:i < (enc f xs).length):(enc f xs)[i] = f (xs[i]'(by simpa [enc] using h)):=by simp[enc]
theorem ri {α:Type} (f:α → List T) (xs ys:List α):enc f xs ++ enc f ys = enc f (xs ++ ys):=by simp[enc]
theorem bB {α:Type} (f:α → List T) (xs:List α) (i:Nat) (y:α):(enc f xs).set i (f y) = enc f (xs.set i y):=by simp[enc]
theorem bm {α:Type} (f:α → List T) (xs:List α) (y:α):enc f xs ++ [f y] = enc f (xs ++ [y]):=by simp[enc]
theorem jR {α:Type} (f:α → List T) (n:Nat) (y:α):List.replicate n (f y) = enc f (List.replicate n y):=by simp[enc]
theorem va {α:Type} (f:α → List T) (xs:List α) (n:Nat):(enc f xs).take n = enc f (xs.take n):=by simp[enc]
theorem vb {α:Type} (f:α → List T) (xs:List α) (n:Nat):(enc f xs).drop n = enc f (xs.drop n):=by simp[enc]
theorem aK {α:Type} (f:α → List T):enc f [] = []:=rfl
theorem rj {α:Type} (f:α → List T) (xs:List α):enc f xs = [] ↔ xs = []:=by simp[enc]
def eI (n:Int):List T:=[.int .i64 n]
theorem getD_eI (o:Option Int):(Option.map eI o).getD [T.int .i64 0] = eI (o.getD 0):=by cases o <;> rfl
theorem rep_eI (n:Nat):List.replicate n [T.int .i64 0] = enc eI (List.replicate n 0):=jR eI n 0
theorem set_eI (xs:List Int) (i:Nat) (y:Int):(enc eI xs).set i [T.int .i64 y] = enc eI (xs.set i y):=bB eI xs i y
theorem snoc_eI (xs:List Int) (y:Int):enc eI xs ++ [[T.int .i64 y]] = enc eI (xs ++ [y]):=bm eI xs y
theorem eI_def (n:Int):eI n = [.int .i64 n]:=rfl
attribute [go_sem] List.take_of_length_le eqLs RunL Step guardOf Op.isPv pv evO constV constL paramsE valsN leavesN leafN flatA rowsN dstOk St.set get tB rh uY uZ St.start pt tA uX mN oA mc pu numV boundV ofLeaves aggU loadV nodeOf T.at? leavesOf leafOf ptrAdd binT notT convT U.ok resV oneV tupV takeLs takeL zOf shapeVs shapeV V.leaves OutN Out calleeOf eff effSame argsV St.swap St.swap2 hits2 killB killS killLs Row.store patchT killSt hits thru L.rowOf L.boxOf V.cells T.put T.els denVs denLs denL St.only St.to St.answer fillL patch capsV aL sM pw ri va vb rj getD_eI rep_eI set_eI snoc_eI eI_def
inductive TD where
 | int (k:IntKind)
 | bool
 | str
 | sl (z:Nat) (fs:List TD)
def tdFields (P:Program) (r:TypeId → Option (List TD)):Nat → List Field → Option (List TD)
 | _,[]=>some []
 | off,f :: fs=>if f.offset = off then (r f.type).bind fun l=>if l.length = P.cellsOf f.type then (tdFields P r (off + l.length) fs).map (l ++ ·) else none else none
def tdOf (P:Program):Nat → TypeId → Option (List TD)
 | 0,_=>none
 | n + 1,t=>match P.underlying t with
  | some (.int k)=>some [.int k]
  | some .bool=>some [.bool]
  | some .string=>some [.str]
  | some (.slice e)=>(tdOf P n e).bind fun l=>if l.length = P.cellsOf e ∧ 0 < l.length then some [.sl l.length l] else none
  | some (.struct fs)=>(tdFields P (tdOf P n) 0 fs.toList).bind fun l=>if l.length = P.cellsOf t then some l else none
  | _=>none
inductive Fits:TD → T → Prop where
 | int {k:IntKind} {n:Int} (h1:k.min ≤ n) (h2:n ≤ k.max):Fits (.int k) (.int k n)
 | bool {b:Bool}:Fits .bool (.bool b)
 | str {s:ByteArray} (h:s.size ≤ 9223372036854775807):Fits .str (.str s)
 | sl {z:Nat} {fs:List TD} {es:Els} (hl:es.length ≤ 9223372036854775807) (hz:∀ x ∈ es,x.length = fs.length)
   (he:∀ x ∈ es,∀ (j:Nat) d t,fs[j]? = some d → x[j]? = some t → Fits d t):Fits (.sl z fs) (.sl z es)
structure FitsL (ds:List TD) (ts:List T):Prop where
 len:ts.length = ds.length
 each:∀ (j:Nat) d t,ds[j]? = some d → ts[j]? = some t → Fits d t
structure Reads (w:World) (ds:List TD) (cs:List Value) (ts:List T):Prop where
 fits:FitsL ds ts
 len:cs.length = ds.length
 rep:∀ (j:Nat) t v,ts[j]? = some t → cs[j]? = some v → Rep w false v t fun _=>True
section
variable {H:Type} {enc:TypeId × Value → H} {P:Program} {w:World}
theorem Reads.one {d:TD} {v:Value} {t:T} (hf:Fits d t) (hr:Rep w false v t fun _=>True):Reads w [d] [v] [t] :=
 ⟨⟨rfl,fun j d' t' h1 h2=>by
  cases j with
  | zero=>simp at h1 h2;subst h1 h2;exact hf
  | succ j=>simp at h1⟩,rfl,fun j t' v' h1 h2=>by
  cases j with
  | zero=>simp at h1 h2;subst h1 h2;exact hr
  | succ j=>simp at h1⟩
theorem Reads.nil:Reads w [] [] []:=⟨⟨rfl,fun _ _ _ h=>by simp at h⟩,rfl,fun _ _ _ h=>by simp at h⟩
theorem Reads.append {d1 d2:List TD} {c1 c2:List Value} {t1 t2:List T} (h1:Reads w d1 c1 t1) (h2:Reads w d2 c2 t2):Reads w (d1 ++ d2) (c1 ++ c2) (t1 ++ t2):=by
 have l1:=h1.fits.len;have l2:=h1.len;refine ⟨⟨by simp[l1,h2.fits.len],fun j d t hd ht=>?_⟩,by simp[l2,h2.len],fun j t v ht hv=>?_⟩
 ·by_cases hj:j < d1.length
  ·rw[List.getElem?_append_left hj] at hd;rw[List.getElem?_append_left (by omega)] at ht;exact h1.fits.each j d t hd ht
  ·rw[List.getElem?_append_right (by omega)] at hd;rw[List.getElem?_append_right (by omega),l1] at ht;exact h2.fits.each _ d t hd ht
 ·by_cases hj:j < t1.length
  ·rw[List.getElem?_append_left hj] at ht;rw[List.getElem?_append_left (by omega)] at hv;exact h1.rep j t v ht hv
  ·rw[List.getElem?_append_right (by omega)] at ht;rw[List.getElem?_append_right (by omega),show j - c1.length = j - t1.length from by omega] at hv;exact h2.rep _ t v ht hv
theorem li {α:Type} {Q:Nat → α → Prop}:∀ (n:Nat),(∀ i,i < n → ∃ x,Q i x) → ∃ xs:List α,xs.length = n ∧ ∀ i x,xs[i]? = some x → Q i x
 | 0,_=>⟨[],rfl,fun i x h=>by simp at h⟩
 | n + 1,h=>by
  obtain ⟨xs,hl,hx⟩:=li n fun i hi=>h i (by omega)
  obtain ⟨y,hy⟩:=h n (by omega)
  refine ⟨xs ++ [y],by simp[hl],fun i x hi=>?_⟩
  by_cases hlt:i < n
  ·rw[List.getElem?_append_left (by omega)] at hi
   exact hx i x hi
  ·rw[List.getElem?_append_right (by omega)] at hi
   cases he:i - xs.length with
   | zero =>
    rw[he] at hi
    simp at hi
    subst hi
    obtain rfl:i = n:=by omega
    exact hy
   | succ k=>rw[he] at hi;simp at hi
theorem kT {base:Nat} {a:Addr} {n:Nat} {cs:List Value} (h:w.cells? base a n = some cs):cs.length = n ∧ ∀ i,i < n → w.cell? (a.add i) = cs[i]?:=by
 unfold World.cells? at h;split at h
 ·refine ⟨by simpa using mapM_some_length h,fun i hi=>?_⟩;exact mapM_some_get h i i (by simp[hi])
 ·cases h
theorem oB {x:Addr} {v:Value} (h:w.cell? x = some v):x.spot = none:=by
 unfold World.cell? at h;split at h
 ·split at h
  ·cases h
  ·rename_i hs;simpa using hs
 ·cases h
theorem fl {x:Addr} {v:Value} (h:w.cell? x = some v):∃ cs e fr,w.heap[x.block]? = some (.cells cs e fr) ∧ cs[x.off]? = some v:=by
 unfold World.cell? at h;split at h
 ·split at h
  ·cases h
  ·rename_i cs e fr hb _
   exact ⟨cs,e,fr,hb,h⟩
 ·cases h
theorem jS {r:TypeId → Option (List TD)} {rd:TypeId → List Value → Option (DataW H × List MemPlace)}
  (ih:∀ t ds cs x,r t = some ds → rd t cs = some x → ∃ ts,Reads w ds cs ts) :
  ∀ (fs:List Field) (off:Nat) (ds:List TD) (cs:List Value) (xs:List (DataW H × List MemPlace)),tdFields P r off fs = some ds → xs.length = fs.length →
   (∀ (i:Nat) (f:Field),fs[i]? = some f → rd f.type ((cs.drop f.offset).take (P.cellsOf f.type)) = xs[i]?) → off + ds.length ≤ cs.length →
   ∃ ts,Reads w ds ((cs.drop off).take ds.length) ts
 | [],off,ds,cs,xs,h,_,_,_=>by
  simp only[tdFields,Option.some.injEq] at h
  subst h
  exact ⟨[],by simpa using Reads.nil⟩
 | f :: fs,off,ds,cs,xs,h,hl,hx,hc=>by
  simp only[tdFields] at h
  split at h
  ·rename_i hoff
   simp only[Option.bind_eq_some_iff] at h
   obtain ⟨l,hr,h⟩:=h
   split at h
   ·rename_i hlen
    simp only[Option.map_eq_some_iff] at h
    obtain ⟨ds',hd,rfl⟩:=h
    match xs,hl with
    | x :: xs,hl =>
     have h0:=hx 0 f rfl
     simp only[List.getElem?_cons_zero] at h0
     obtain ⟨ts1,R1⟩:=ih f.type l _ x hr h0
     simp only[List.length_append] at hc
     obtain ⟨ts2,R2⟩:=jS ih fs (off + l.length) ds' cs xs hd (by simpa using hl) (fun i g hg=>hx (i + 1) g (by simpa using hg)) (by omega)
     refine ⟨ts1 ++ ts2,?_⟩
     have e:(cs.drop off).take (l ++ ds').length = (cs.drop f.offset).take (P.cellsOf f.type) ++ (cs.drop (off + l.length)).take ds'.length:=by
      rw[List.length_append,List.take_add,hoff,hlen,List.drop_drop]
     rw[e]
     exact R1.append R2
    | [],hl=>simp at hl
   ·cases h
  ·cases h
theorem oC:∀ (n:Nat) (t:TypeId) (ds:List TD),tdOf P n t = some ds → ∀ (fuel:Nat) (cs:List Value) (x:DataW H × List MemPlace),DataW.trod enc P w 0 (fun _=>true) true fuel t cs = some x →
  ∃ ts,Reads w ds cs ts
 | 0,_,_,h,_,_,_,_=>by cases h
 | n + 1,t,ds,h,fuel,cs,x,hx=>by
  simp only[tdOf] at h
  split at h
  ·rename_i k hu
   simp only[Option.some.injEq] at h
   subst h
   obtain ⟨m,rfl,_,hw⟩:=DataW.trod_int hu hx
   simp[Lit.wf] at hw
   exact ⟨[.int k m],Reads.one (.int hw.1 hw.2) .int⟩
  ·rename_i hu
   simp only[Option.some.injEq] at h
   subst h
   obtain ⟨b,rfl,_⟩:=DataW.trod_bool hu hx
   exact ⟨[.bool b],Reads.one .bool .bool⟩
  ·rename_i hu
   simp only[Option.some.injEq] at h
   subst h
   obtain ⟨s,rfl,_,hs⟩:=DataW.trod_string hu hx
   exact ⟨[.str s],Reads.one (.str (by simpa [maxLen] using hs)) .str⟩
  ·rename_i e hu
   simp only[Option.bind_eq_some_iff] at h
   obtain ⟨l,he,h⟩:=h
   split at h
   ·rename_i hz
    obtain ⟨hz,hpos⟩:=hz
    simp only[Option.some.injEq] at h
    subst h
    rcases DataW.trod_slice hu hx with ⟨rfl,_⟩ | ⟨a,len,cap,elems,rest,m,rfl,rfl,_,_,hlc,hcap,hel,hes,hrest,_⟩
    ·exact ⟨[.sl l.length []],Reads.one (.sl (by simp) (by simp) (by simp)) .nils⟩
    ·obtain ⟨hrl,hrs⟩:=hrest rfl
     have hcap':cap ≤ 9223372036854775807:=by simpa [maxLen] using hcap
     have one:∀ i,i < len → ∃ ts,∃ cs,w.cells? 0 (a.add (i * P.cellsOf e)) (P.cellsOf e) = some cs ∧ Reads w l cs ts:=by
      intro i hi
      have h1:=hes i hi
      rw[List.getElem?_eq_getElem (by omega)] at h1
      simp only[Option.bind_eq_some_iff] at h1
      obtain ⟨cs,h2,h3⟩:=h1
      obtain ⟨ts,R⟩:=oC n e l he _ _ _ h3
      exact ⟨ts,cs,h2,R⟩
     obtain ⟨es,hle,hall⟩:=li len one
     have hfit:Fits (.sl l.length l) (.sl l.length es):=by
      refine .sl (by omega) (fun x hx=>?_) fun x hx=>?_
      ·obtain ⟨i,hi⟩:=List.mem_iff_getElem?.1 hx
       obtain ⟨cs,_,R⟩:=hall i x hi
       exact R.fits.len
      ·obtain ⟨i,hi⟩:=List.mem_iff_getElem?.1 hx
       obtain ⟨cs,_,R⟩:=hall i x hi
       exact R.fits.each
     refine ⟨[.sl l.length es],Reads.one hfit ?_⟩
     by_cases h0:cap = 0
     ·subst h0
      obtain rfl:len = 0:=by omega
      obtain rfl:es = []:=List.length_eq_zero_iff.1 hle
      exact .bare
     ·have any:∀ i,i < cap → ∃ cs,w.cells? 0 (a.add (i * P.cellsOf e)) (P.cellsOf e) = some cs:=by
       intro i hi
       by_cases hil:i < len
       ·obtain ⟨_,cs,h2,_⟩:=one i hil
        exact ⟨cs,h2⟩
       ·have h1:=hrs (i - len) (by omega)
        rw[List.getElem?_eq_getElem (by omega),show len + (i - len) = i from by omega] at h1
        simp only[Option.bind_eq_some_iff] at h1
        obtain ⟨cs,h2,_⟩:=h1
        exact ⟨cs,h2⟩
      have hspot:a.spot = none:=by
       obtain ⟨cs,h2⟩:=any 0 (by omega)
       obtain ⟨h3,h4⟩:=kT h2
       have h5:=h4 0 (by omega)
       rw[List.getElem?_eq_getElem (by omega)] at h5
       have:=oB h5
       rw[show (a.add (0 * P.cellsOf e)).add 0 = a from by simp[Addr.add]] at this
       exact this
      have plain:∀ i,i < cap → ∀ j,j < l.length → ∃ v,w.cell? ⟨a.block,a.off + i * l.length + j,none⟩ = some v:=by
       intro i hi j hj
       obtain ⟨cs,h2⟩:=any i hi
       obtain ⟨h3,h4⟩:=kT h2
       have h5:=h4 j (by omega)
       rw[List.getElem?_eq_getElem (by omega),Addr.add_plain hspot,Addr.add_plain rfl,← hz] at h5
       exact ⟨_,h5⟩
      obtain ⟨v0,hv0⟩:=plain 0 (by omega) 0 hpos
      obtain ⟨bs,be,bf,hb,_⟩:=fl hv0
      have hb:w.heap[a.block]? = some (.cells bs be bf):=hb
      have hroom:a.off + cap * l.length ≤ bs.size:=by
       obtain ⟨v1,hv1⟩:=plain (cap - 1) (by omega) (l.length - 1) (by omega)
       obtain ⟨bs',be',bf',hb',hv1⟩:=fl hv1
       rw[show (Addr.mk a.block (a.off + (cap - 1) * l.length + (l.length - 1)) none).block = a.block from rfl,hb] at hb'
       cases hb'
       have h6:=(Array.getElem?_eq_some_iff.1 hv1).1
       have h7:(cap - 1) * l.length + l.length = cap * l.length:=by
        rw[← Nat.succ_mul]
        congr 1
        omega
       simp only at h6
       omega
      have key:=Rep.sl (w:=w) (o:=false) (a:=a) (cap:=cap) (z:=l.length) (es:=es) (F:=fun _=>True) (cs:=bs) (fun _ _ _=>True)
       ⟨⟨be,bf,hb,fun h=>by cases h⟩,hspot,by omega,hroom,by cases hfit with | sl _ h _=>exact h⟩ trivial (fun _ _ _ _=>trivial) (fun h=>by cases h) (fun h=>by cases h) (fun i j y c hy hc=>?_)
      ·rw[hle] at key
       exact key
      ·obtain ⟨cs,h2,R⟩:=hall i y hy
       obtain ⟨h3,h4⟩:=kT h2
       have hi:i < len:=by have:=(List.getElem?_eq_some_iff.1 hy).1;omega
       have hj:j < l.length:=by have:=(List.getElem?_eq_some_iff.1 hc).1;rw[R.fits.len] at this;exact this
       have h5:=h4 j (by omega)
       have hcj:cs[j]? = some (cs[j]'(by omega)):=List.getElem?_eq_getElem _
       rw[hcj,Addr.add_plain hspot,Addr.add_plain rfl,← hz] at h5
       have h6:=R.rep j c _ hc hcj
       obtain ⟨bs',be',bf',hb',h7⟩:=fl h5
       rw[show (Addr.mk a.block (a.off + i * l.length + j) none).block = a.block from rfl,hb] at hb'
       cases hb'
       simp only at h7
       rw[Array.getD_eq_getD_getElem?,h7]
       exact h6
   ·cases h
  ·rename_i fs hu
   obtain ⟨xs,m,rfl,rfl,hl,hxl,hf⟩:=DataW.trod_struct hu hx
   simp only[Option.bind_eq_some_iff] at h
   obtain ⟨l,h,hq⟩:=h
   split at hq
   ·rename_i hll
    simp only[Option.some.injEq] at hq
    subst hq
    obtain ⟨ts,R⟩:=jS (P:=P) (w:=w) (rd:=fun t cs=>DataW.trod enc P w 0 (fun _=>true) true m t cs) (fun t ds cs x h1 h2=>oC n t ds h1 m cs x h2) fs.toList 0 l cs xs h (by simpa using hxl)
     (fun i f hi=>hf i f (by simpa using hi)) (by omega)
    rw[List.drop_zero,List.take_of_length_le (by omega)] at R
    exact ⟨ts,R⟩
   ·cases hq
  ·cases h
end
open Go.ChangeShapes Go.WideShapes Go.RowKit
def tdArg (P:Program) (t:TypeId):Option (Bool × List TD):=(tdOf P 12 t).map fun l=>(isAggD (P.underlying t),l)
def FitsA:List (Bool × List TD) → List A → Prop
 | [],[]=>True
 | d :: ds,x :: xs=>(x.1 = d.1 ∧ FitsL d.2 x.2) ∧ FitsA ds xs
 | _,_=>False
def rowOk (P:Program) (t:TypeId):Bool:=P.readableRec t && decide (t < P.types.size)
section
variable {H:Type} {enc:TypeId × Value → H} {P:Program} {w:World}
theorem vc {n:Nat} {t:TypeId} {l:List TD} (h:tdOf P n t = some l) (ha:isAggD (P.underlying t) = false):l.length = 1:=by
 cases n with
 | zero=>cases h
 | succ n =>
  simp only[tdOf] at h;split at h
  ·cases h;rfl
  ·cases h;rfl
  ·cases h;rfl
  ·simp only[Option.bind_eq_some_iff] at h;obtain ⟨_,_,h⟩:=h;split at h
   ·cases h;rfl
   ·cases h
  ·rename_i hu
   rw[hu] at ha;cases ha
  ·cases h
theorem tC {t:TypeId} {v:Value} {d:DataW H} {ps:List MemPlace} {td:Bool × List TD} (ht:tdArg P t = some td) (h:DataW.Trod enc P w 0 (fun _=>true) true t v d ps)
  {base:Nat} (hok:Value.okWide P w .any base t v):∃ ts,FitsL td.2 ts ∧ ShapeV (td.1,ts) v ∧ ts.length = v.cells.toList.length ∧ ∀ (j:Nat) t u,ts[j]? = some t → v.cells.toList[j]? = some u → Rep w false u t fun _=>True:=by
 simp only[tdArg,Option.map_eq_some_iff] at ht
 obtain ⟨l,hl,rfl⟩:=ht
 obtain ⟨fuel,hf⟩:=h
 obtain ⟨ts,R⟩:=oC 12 t l hl fuel _ _ hf
 refine ⟨ts,R.fits,?_,by rw[R.fits.len,R.len],R.rep⟩
 unfold ShapeV
 cases ha:isAggD (P.underlying t) with
 | true =>
  simp only[if_true]
  unfold Value.okWide at hok
  unfold isAggD at ha
  split at ha
  ·rename_i hu
   rw[hu] at hok
   obtain ⟨cs,rfl,h1,_⟩:=hok
   refine ⟨cs.toList,rfl,?_⟩
   have:=R.len
   simp[Value.cells] at this
   simp[R.fits.len,this]
  ·rename_i hu
   rw[hu] at hok
   obtain ⟨cs,rfl,h1,_⟩:=hok
   refine ⟨cs.toList,rfl,?_⟩
   have:=R.len
   simp[Value.cells] at this
   simp[R.fits.len,this]
  ·cases ha
 | false =>
  simp only[Bool.false_eq_true,if_false]
  have h1:=vc hl ha
  have h2:=R.len
  rw[h1] at h2
  have h3:=R.fits.len
  rw[h1] at h3
  refine ⟨h3,?_⟩
  match hc:v.cells.toList,h2 with
  | [u],_ =>
   have h4:=R.rep 0 (ts[0]'(by omega)) u (by simp) (by rw[hc];rfl)
   have h5:=h4.one
   cases v with
   | agg cs =>
    unfold Value.okWide at hok
    unfold isAggD at ha
    split at ha
    ·cases ha
    ·cases ha
    ·rename_i n1 n2
     split at hok
     ·rename_i fs hu
      exact absurd hu (n1 fs)
     ·rename_i k e hu
      exact absurd hu (n2 k e)
     ·unfold Cell.okWide at hok
      split at hok <;> simp_all [Cell.ok]
   | _=>simp[Value.cells] at hc;subst hc;exact h5
theorem mO {base:Nat}:∀ (ts:List TypeId) (tds:List (Bool × List TD)),ts.mapM (tdArg P) = some tds → ∀ (vs:List Value) (ds:List (DataW H)) (ps:List MemPlace),DataW.TrodAll enc P w 0 (fun _=>true) true ts vs ds ps →
  (∀ (j:Nat) t v,ts[j]? = some t → vs[j]? = some v → Value.okWide P w .any base t v) →
  ∃ args:List A,FitsA tds args ∧ Shapes args vs ∧ (flatA args).length = (flatU vs).length ∧ ∀ (j:Nat) t u,(flatA args)[j]? = some t → (flatU vs)[j]? = some u → Rep w false u t fun _=>True
 | [],tds,h,vs,ds,ps,hT,_=>by
  simp at h
  subst h
  obtain ⟨rfl,rfl,rfl⟩:=trodAll_nil hT
  exact ⟨[],trivial,trivial,rfl,fun j t u h=>by simp[flatA] at h⟩
 | t :: ts,tds,h,vs,ds,ps,hT,hok=>by
  obtain ⟨v,vs',d,ds',p,q,rfl,rfl,rfl,h1,h2⟩:=trodAll_cons hT
  rw[List.mapM_cons] at h
  simp only[Option.bind_eq_bind,Option.bind_eq_some_iff,Option.pure_def,Option.some.injEq] at h
  obtain ⟨td,ht,tds',hts,rfl⟩:=h
  obtain ⟨xs,f1,f2,f3,f4⟩:=tC ht h1 (hok 0 t v rfl rfl)
  obtain ⟨args,g1,g2,g3,g4⟩:=mO ts tds' hts vs' ds' q h2 fun j t v e1 e2=>hok (j + 1) t v (by simpa using e1) (by simpa using e2)
  refine ⟨(td.1,xs) :: args,⟨⟨rfl,f1⟩,g1⟩,⟨f2,g2⟩,?_,fun j t u e1 e2=>?_⟩
  ·simp only[flatA,flatU,List.flatMap_cons,List.length_append] at g3 ⊢
   omega
  ·simp only[flatA,flatU,List.flatMap_cons] at e1 e2
   by_cases hj:j < xs.length
   ·rw[List.getElem?_append_left hj] at e1
    rw[List.getElem?_append_left (by omega)] at e2
    exact f4 j t u e1 e2
   ·rw[List.getElem?_append_right (by omega)] at e1
    rw[List.getElem?_append_right (by omega),← f3] at e2
    exact g4 _ t u e1 e2
theorem lj:∀ {ts:List TypeId} {vs:List Value} {ds:List (DataW H)} {ps:List MemPlace},DataW.TrodAll enc P w 0 (fun _=>true) true ts vs ds ps → ds.length = ts.length
 | [],vs,ds,ps,h=>by
  obtain ⟨rfl,rfl,rfl⟩:=trodAll_nil h
  rfl
 | t :: ts,vs,ds,ps,h=>by
  obtain ⟨v,vs',d,ds',p,q,rfl,rfl,rfl,_,h2⟩:=trodAll_cons h
  simp[lj h2]
theorem mP:∀ {ts:List TypeId} {vs:List Value} {ds:List (DataW H)} {ps:List MemPlace},DataW.TrodAll enc P w 0 (fun _=>true) true ts vs ds ps → ∀ x ∈ ps,x.block < w.heap.size
 | [],vs,ds,ps,h=>by
  obtain ⟨rfl,rfl,rfl⟩:=trodAll_nil h
  simp
 | t :: ts,vs,ds,ps,h=>by
  obtain ⟨v,vs',d,ds',p,q,rfl,rfl,rfl,⟨m,hm⟩,h2⟩:=trodAll_cons h
  intro x hx
  rcases List.mem_append.1 hx with hx | hx
  ·exact DataW.trod_lt m _ _ _ hm x hx
  ·exact mP h2 x hx
theorem iC (hl:laidOutB P = true) {w':World}:∀ {ts:List TypeId},ts.all (rowOk P) = true → ∀ {vs:List Value} {ds:List (DataW H)} {ps:List MemPlace},DataW.TrodAll enc P w 0 (fun _=>true) true ts vs ds ps → Below w.heap.size w w' →
  (∀ x ∈ ps,x.block < w.heap.size) → DataW.TrodAll enc P w' 0 (fun b=>decide (b < w.heap.size)) true ts vs ds ps
 | [],_,vs,ds,ps,h,_,_=>by
  obtain ⟨rfl,rfl,rfl⟩:=trodAll_nil h
  exact rfl
 | t :: ts,hr,vs,ds,ps,h,hb,hlt=>by
  obtain ⟨v,vs',d,ds',p,q,rfl,rfl,rfl,h1,h2⟩:=trodAll_cons h
  simp only[List.all_cons,Bool.and_eq_true,rowOk,decide_eq_true_eq] at hr
  exact ⟨p,q,Below.trod hl hr.1.1 hr.1.2 h1 hb fun x hx=>hlt x (by simp[hx]),iC hl hr.2 h2 hb fun x hx=>hlt x (by simp[hx]),rfl⟩
theorem law_lift {C:Checked} {os:Os} {f:FuncId} {fn:Func} {s:ChangeSpec} {tds:List (Bool × List TD)} {tb:TypeId} (own:ownKnob C.prog.godebug = none) (laid:laidOutB C.prog = true) (started:os.Started)
  (noInit:C.prog.inits.idxOf? f = none) (hfn:C.prog.funcs[f]? = some fn)
  (witness:∃ (w:World) (tape:Tape) (i:Input),w.os = os ∧ (w.forCall tape i).Shaped C.prog ∧ i.vars = [] ∧ Input.okWide C.prog (w.forCall tape i) .any w.heap.size f i ∧
   s.pre6 enc C.prog fn [] false (w.forCall tape i).memory i.args ∧ ({}:Assume).holds C.prog (lone (Frame.enter C.prog f i.args .normal) [] (w.forCall tape i)))
  (hvars:s.vars = []) (hs:∀ ds:List (DataW H),ds.length = fn.params.toList.length → (s.fn H ds).results = [.lit (.bool true)] ∧ (s.fn H ds).args = ds ∧ (s.fn H ds).vars = [])
  (htd:fn.params.toList.mapM (tdArg C.prog) = some tds) (hrow:fn.params.toList.all (rowOk C.prog) = true) (hres:fn.resultTypes = #[tb]) (hbool:C.prog.underlying tb = some .bool)
  (hpc:∀ args:List A,FitsA tds args → PC C.prog f args [(false,[.bool true])]) :
  ReturnsInHanded {} C os f .any (s.pre6 enc C.prog fn [] false) (s.post enc C.prog fn false true false false):=by
 refine returnsInHanded_of_change_sized own started noInit hfn witness ?_
 intro W base args ds gs before hval hW _ _ _
 have hW':=hW
 obtain ⟨p,q,hA,hV,rfl,_,_⟩:=hW
 rw[hvars] at hV
 obtain ⟨rfl,rfl⟩:=trodVars_none hV
 have hval':∀ (j:Nat) t v,fn.params.toList[j]? = some t → args.toList[j]? = some v → Value.okWide C.prog W .any base t v:=fun j t v h1 h2=>hval j t v (by simpa using h1) (by simpa using h2)
 obtain ⟨as,h1,h2,h3,h4⟩:=mO _ _ htd _ _ _ hA hval'
 have hlt:=mP hA
 have hlen:ds.length = fn.params.toList.length:=by
  exact (lj hA)
 obtain ⟨e1,e2,e3⟩:=hs ds hlen
 have hcall:=(hpc as h1).2 W args.toList h2 h4
 rw[Array.toArray_toList] at hcall
 refine hcall.mono fun e W' he=>?_
 cases e with
 | panicked=>exact he.elim
 | outgrown=>exact he.elim
 | returned r =>
  obtain ⟨s1,s2,s3,s4,s5,us,rfl,hsh,F,hF,_⟩:=he
  have bel:Below W.heap.size W W':=⟨s3,s4,s5,s1,s2⟩
  have hr:oneU us = .bool true:=by
   match us,hsh with
   | [u],hsh =>
    have h1:=hsh.1
    simp[ShapeV] at h1
    have hu:=cells_one h1
    have:=hF 0 (.bool true) u rfl (by simp[flatU,hu])
    cases this
    rfl
  rw[hr]
  refine ⟨_,rfl,ds,[],p ++ [],[],p,[],hW',?_,?_,?_,bel.frame _,fun h=>by cases h⟩
  ·rw[List.append_nil,e1,hres]
   exact trodAll_mk1 (shut_bool hbool _)
  ·rw[List.append_nil,e2]
   exact iC laid hrow hA bel hlt
  ·rw[List.append_nil,e3,hvars]
   rfl
end
theorem Sub.of_to {σ σ':St} (ts:List Nat) (n:Nat) (hn:ts.Nodup) (h:σ.to ts n = σ'):Sub σ σ':=h ▸ Sub.to ts n hn
def St.tidy (σ:St) (ts rs bs:List Nat) (n:Nat):St :=
 { ((σ.only ts).drop ((σ.row.map (·.1)).filter fun k=>!rs.contains k) ((σ.box.map (·.1)).filter fun k=>!bs.contains k)) with nxt:=n }
theorem Sub.of_tidy {σ σ':St} (ts rs bs:List Nat) (n:Nat) (hn:ts.Nodup) (h:σ.tidy ts rs bs n = σ'):Sub σ σ':=by
 subst h;exact (Sub.only ts hn).trans ((Sub.drop _ _).trans (Sub.num n))
theorem ofL_def (DR DB:List Nat) (l:L):L.of DR DB l = ((match l.rowOf with
 | some (r,_)=>DR.contains r
 | none=>false) || l.boxOf.any DB.contains):=by rfl
theorem Sub.swp_row (a b:Nat) {σ σ':St} (h:σ.ren (swp a b) (fun n=>n) = σ'):Sub σ σ':=by
 subst h;exact Sub.ren (sL a b) fun _=>rfl
attribute [go_sem] St.tidy St.drop ofL_def St.ren renE renV renL swp killS
theorem aA {P:Program} {N:Nat} {K:Exit → St → Prop} {c:Code} {σ:St} {α:Type} (I:α → St) (φ:α → Prop) (μ:α → Nat) (x:α) (hs:Sub σ (I x)) (h0:φ x)
  (round:∀ x,φ x → W P N c (Then (fun σ'=>∃ y,Sub σ' (I y) ∧ φ y ∧ μ y < μ x) K) (I x)):W P N (.loop c) K σ :=
 W_loopS (fun n σ=>∃ x,φ x ∧ n = μ x ∧ σ = I x) hs ⟨x,h0,rfl,rfl⟩ fun n σ ⟨x,h1,h2,h3⟩=>by
  subst h2 h3
  refine re (round x h1) fun e σ' h=>?_
  cases e with
  | normal =>
   obtain ⟨y,q1,q2,q3⟩:=h
   exact ⟨μ y,I y,q3,q1,y,q2,rfl,rfl⟩
  | _=>exact h
theorem px {ts:List T} (h:FitsL [] ts):ts = []:=List.length_eq_zero_iff.1 h.len
theorem nO {d:TD} {ds:List TD} {ts:List T} (h:FitsL (d :: ds) ts):∃ t ts',ts = t :: ts' ∧ Fits d t ∧ FitsL ds ts':=by
 match ts,h with
 | t :: ts,h=>exact ⟨t,ts,rfl,h.each 0 d t rfl rfl,by simpa using h.len,fun j d t h1 h2=>h.each (j + 1) d t (by simpa using h1) (by simpa using h2)⟩
 | [],h=>simpa using h.len
theorem fits_int {k:IntKind} {t:T} (h:Fits (.int k) t):∃ n,t = .int k n ∧ k.min ≤ n ∧ n ≤ k.max:=by cases h with | int h1 h2=>exact ⟨_,rfl,h1,h2⟩
theorem vd {α:Type} {e:α → List T} {Q:α → Prop}:∀ {es:Els},(∀ x ∈ es,∃ a,x = e a ∧ Q a) → ∃ xs,es = enc e xs ∧ ∀ a ∈ xs,Q a
 | [],_=>⟨[],rfl,by simp⟩
 | x :: es,h=>by
  obtain ⟨a,rfl,ha⟩:=h x (by simp)
  obtain ⟨xs,rfl,hx⟩:=vd (es:=es) fun y hy=>h y (by simp[hy])
  exact ⟨a :: xs,rfl,by simp;exact ⟨ha,hx⟩⟩
theorem fits_sl {α:Type} {e:α → List T} {Q:α → Prop} {z:Nat} {fs:List TD} {t:T} (h:Fits (.sl z fs) t) (he:∀ ts,FitsL fs ts → ∃ a,ts = e a ∧ Q a) :
  ∃ xs:List α,t = .sl z (enc e xs) ∧ xs.length ≤ 9223372036854775807 ∧ ∀ a ∈ xs,Q a:=by
 cases h with
 | sl hl hz hx =>
  obtain ⟨xs,rfl,hq⟩:=vd fun x hx'=>he x ⟨hz x hx',hx x hx'⟩
  exact ⟨xs,rfl,by simpa [aL] using hl,hq⟩
theorem tD {as:List A} (h:FitsA [] as):as = []:=by
 cases as with
 | nil=>rfl
 | cons=>exact h.elim
theorem rk {d:Bool × List TD} {ds:List (Bool × List TD)} {as:List A} (h:FitsA (d :: ds) as):∃ ts as',as = (d.1,ts) :: as' ∧ FitsL d.2 ts ∧ FitsA ds as':=by
 match as,h with
 | x :: as,h=>exact ⟨x.2,as,by rw[← h.1.1],h.1.2,h.2⟩
 | [],h=>exact h.elim
@[ext] structure GMsg where
 kind:Int
 page:Int
 own:Bool
 list:List Int
 deriving DecidableEq
@[ext] structure GSender where
 base:Int
 queue:List GMsg
 deriving DecidableEq
@[ext] structure GReceiver where
 got:Int
 deriving DecidableEq
@[ext] structure GPacket where
 from_:Int
 to:Int
 ack:Bool
 n:Int
 msg:GMsg
 deriving DecidableEq
@[ext] structure GFrame where
 state:Int
 list:List Int
 asked:Bool
 deriving DecidableEq
@[ext] structure GWait where
 who:Int
 own:Bool
 deriving DecidableEq
@[ext] structure GHome where
 list:List Int
 owner:Int
 readers:List Bool
 busy:Bool
 now:GWait
 acks:Int
 queue:List GWait
 deriving DecidableEq
@[ext] structure GTold where
 to:Int
 msg:GMsg
 deriving DecidableEq
@[ext] structure GNode where
 id:Int
 frames:List GFrame
 homes:List GHome
 out:List GSender
 in_:List GReceiver
 deriving DecidableEq
@[ext] structure GWorld where
 size:Int
 nodes:List GNode
 net:List GPacket
 deriving DecidableEq
@[ext] structure GDeed where
 kind:Int
 a:Int
 b:Int
 c:Int
 deriving DecidableEq
@[ext] structure GIns where
 op:Int
 r:Int
 a:Int
 b:Int
 n:Int
 deriving DecidableEq
@[ext] structure GHart where
 regs:List Int
 pc:Int
 state:Int
 deriving DecidableEq
@[ext] structure GBlock where
 start:Int
 list:List GIns
 deriving DecidableEq
@[ext] structure GCore where
 hart:GHart
 cache:List GBlock
 deriving DecidableEq
@[ext] structure GFlock where
 world:GWorld
 cores:List GCore
 deriving DecidableEq
def eB (x:Bool):List T:=[.bool x]
theorem eB_def (x:Bool):eB x = [.bool x]:=rfl
theorem getD_eB (o:Option Bool):(Option.map eB o).getD [.bool false] = eB (o.getD false):=by cases o <;> rfl
theorem kU (n:Nat):List.replicate n [.bool false] = enc eB (List.replicate n false):=jR eB n false
theorem set_eB (xs:List Bool) (i:Nat) (x:Bool):(enc eB xs).set i [.bool x] = enc eB (xs.set i x):=bB eB xs i x
theorem snoc_eB (xs:List Bool) (x:Bool):enc eB xs ++ [[.bool x]] = enc eB (xs ++ [x]):=bm eB xs x
def eU (x:Int):List T:=[.int .u8 x]
theorem eU_def (x:Int):eU x = [.int .u8 x]:=rfl
theorem getD_eU (o:Option Int):(Option.map eU o).getD [.int .u8 0] = eU (o.getD 0):=by cases o <;> rfl
theorem set_eU (xs:List Int) (i:Nat) (x:Int):(enc eU xs).set i [.int .u8 x] = enc eU (xs.set i x):=bB eU xs i x
theorem snoc_eU (xs:List Int) (x:Int):enc eU xs ++ [[.int .u8 x]] = enc eU (xs ++ [x]):=bm eU xs x
theorem fits_U {ts:List T} (h:FitsL [.int .u8] ts):∃ n,ts = eU n ∧ 0 ≤ n ∧ n ≤ 255:=by
 obtain ⟨t,ts',rfl,h1,h2⟩:=nO h;obtain rfl:=px h2;obtain ⟨n,rfl,h3,h4⟩:=fits_int h1;exact ⟨n,rfl,h3,h4⟩
def eMsg (x:GMsg):List T:=[.int .i64 x.kind,.int .i64 x.page,.bool x.own,.sl 1 (enc eI x.list)]
theorem ve (x:GMsg):eMsg x = [.int .i64 x.kind,.int .i64 x.page,.bool x.own,.sl 1 (enc eI x.list)]:=rfl
theorem tE (o:Option GMsg):(Option.map eMsg o).getD [.int .i64 0,.int .i64 0,.bool false,.sl 1 []] = eMsg (o.getD ⟨0,0,false,[]⟩):=by cases o <;> rfl
theorem vf (xs:List GMsg) (i:Nat) (kind0:Int) (page0:Int) (own0:Bool) (list0:List Int):(enc eMsg xs).set i [.int .i64 kind0,.int .i64 page0,.bool own0,.sl 1 (enc eI list0)] = enc eMsg (xs.set i (⟨kind0,page0,own0,list0⟩:GMsg)):=bB eMsg xs i (⟨kind0,page0,own0,list0⟩:GMsg)
theorem tF (xs:List GMsg) (kind0:Int) (page0:Int) (own0:Bool) (list0:List Int):enc eMsg xs ++ [[.int .i64 kind0,.int .i64 page0,.bool own0,.sl 1 (enc eI list0)]] = enc eMsg (xs ++ [(⟨kind0,page0,own0,list0⟩:GMsg)]):=bm eMsg xs (⟨kind0,page0,own0,list0⟩:GMsg)
theorem eta_Msg (x:GMsg):(⟨x.kind,x.page,x.own,x.list⟩:GMsg) = x:=rfl
def eSender (x:GSender):List T:=[.int .i64 x.base,.sl 4 (enc eMsg x.queue)]
theorem py (x:GSender):eSender x = [.int .i64 x.base,.sl 4 (enc eMsg x.queue)]:=rfl
theorem oD (o:Option GSender):(Option.map eSender o).getD [.int .i64 0,.sl 4 []] = eSender (o.getD ⟨0,[]⟩):=by cases o <;> rfl
theorem ar (n:Nat):List.replicate n [.int .i64 0,.sl 4 []] = enc eSender (List.replicate n ⟨0,[]⟩):=jR eSender n ⟨0,[]⟩
theorem pz (xs:List GSender) (i:Nat) (base0:Int) (queue0:List GMsg):(enc eSender xs).set i [.int .i64 base0,.sl 4 (enc eMsg queue0)] = enc eSender (xs.set i (⟨base0,queue0⟩:GSender)):=bB eSender xs i (⟨base0,queue0⟩:GSender)
theorem oE (xs:List GSender) (base0:Int) (queue0:List GMsg):enc eSender xs ++ [[.int .i64 base0,.sl 4 (enc eMsg queue0)]] = enc eSender (xs ++ [(⟨base0,queue0⟩:GSender)]):=bm eSender xs (⟨base0,queue0⟩:GSender)
theorem rl (x:GSender):(⟨x.base,x.queue⟩:GSender) = x:=rfl
def eReceiver (x:GReceiver):List T:=[.int .i64 x.got]
theorem nA (x:GReceiver):eReceiver x = [.int .i64 x.got]:=rfl
theorem mQ (o:Option GReceiver):(Option.map eReceiver o).getD [.int .i64 0] = eReceiver (o.getD ⟨0⟩):=by cases o <;> rfl
theorem an (n:Nat):List.replicate n [.int .i64 0] = enc eReceiver (List.replicate n ⟨0⟩):=jR eReceiver n ⟨0⟩
theorem nB (xs:List GReceiver) (i:Nat) (got0:Int):(enc eReceiver xs).set i [.int .i64 got0] = enc eReceiver (xs.set i (⟨got0⟩:GReceiver)):=bB eReceiver xs i (⟨got0⟩:GReceiver)
theorem mR (xs:List GReceiver) (got0:Int):enc eReceiver xs ++ [[.int .i64 got0]] = enc eReceiver (xs ++ [(⟨got0⟩:GReceiver)]):=bm eReceiver xs (⟨got0⟩:GReceiver)
theorem oF (x:GReceiver):(⟨x.got⟩:GReceiver) = x:=rfl
def ePacket (x:GPacket):List T:=[.int .i64 x.from_,.int .i64 x.to,.bool x.ack,.int .i64 x.n,.int .i64 x.msg.kind,.int .i64 x.msg.page,.bool x.msg.own,.sl 1 (enc eI x.msg.list)]
theorem pA (x:GPacket):ePacket x = [.int .i64 x.from_,.int .i64 x.to,.bool x.ack,.int .i64 x.n,.int .i64 x.msg.kind,.int .i64 x.msg.page,.bool x.msg.own,.sl 1 (enc eI x.msg.list)]:=rfl
theorem oG (o:Option GPacket):(Option.map ePacket o).getD [.int .i64 0,.int .i64 0,.bool false,.int .i64 0,.int .i64 0,.int .i64 0,.bool false,.sl 1 []] = ePacket (o.getD ⟨0,0,false,0,⟨0,0,false,[]⟩⟩):=by cases o <;> rfl
theorem pB (xs:List GPacket) (i:Nat) (from_0:Int) (to0:Int) (ack0:Bool) (n0:Int) (msg_kind0:Int) (msg_page0:Int) (msg_own0:Bool) (msg_list0:List Int):(enc ePacket xs).set i [.int .i64 from_0,.int .i64 to0,.bool ack0,.int .i64 n0,.int .i64 msg_kind0,.int .i64 msg_page0,.bool msg_own0,.sl 1 (enc eI msg_list0)] = enc ePacket (xs.set i (⟨from_0,to0,ack0,n0,⟨msg_kind0,msg_page0,msg_own0,msg_list0⟩⟩:GPacket)):=bB ePacket xs i (⟨from_0,to0,ack0,n0,⟨msg_kind0,msg_page0,msg_own0,msg_list0⟩⟩:GPacket)
theorem jT (xs:List GPacket) (from_0:Int) (to0:Int) (ack0:Bool) (n0:Int) (msg_kind0:Int) (msg_page0:Int) (msg_own0:Bool) (msg_list0:List Int):enc ePacket xs ++ [[.int .i64 from_0,.int .i64 to0,.bool ack0,.int .i64 n0,.int .i64 msg_kind0,.int .i64 msg_page0,.bool msg_own0,.sl 1 (enc eI msg_list0)]] = enc ePacket (xs ++ [(⟨from_0,to0,ack0,n0,⟨msg_kind0,msg_page0,msg_own0,msg_list0⟩⟩:GPacket)]):=bm ePacket xs (⟨from_0,to0,ack0,n0,⟨msg_kind0,msg_page0,msg_own0,msg_list0⟩⟩:GPacket)
theorem rm (x:GPacket):(⟨x.from_,x.to,x.ack,x.n,⟨x.msg.kind,x.msg.page,x.msg.own,x.msg.list⟩⟩:GPacket) = x:=rfl
def eFrame (x:GFrame):List T:=[.int .i64 x.state,.sl 1 (enc eI x.list),.bool x.asked]
theorem rp (x:GFrame):eFrame x = [.int .i64 x.state,.sl 1 (enc eI x.list),.bool x.asked]:=rfl
theorem pC (o:Option GFrame):(Option.map eFrame o).getD [.int .i64 0,.sl 1 [],.bool false] = eFrame (o.getD ⟨0,[],false⟩):=by cases o <;> rfl
theorem aw (n:Nat):List.replicate n [.int .i64 0,.sl 1 [],.bool false] = enc eFrame (List.replicate n ⟨0,[],false⟩):=jR eFrame n ⟨0,[],false⟩
theorem rq (xs:List GFrame) (i:Nat) (state0:Int) (list0:List Int) (asked0:Bool):(enc eFrame xs).set i [.int .i64 state0,.sl 1 (enc eI list0),.bool asked0] = enc eFrame (xs.set i (⟨state0,list0,asked0⟩:GFrame)):=bB eFrame xs i (⟨state0,list0,asked0⟩:GFrame)
theorem pD (xs:List GFrame) (state0:Int) (list0:List Int) (asked0:Bool):enc eFrame xs ++ [[.int .i64 state0,.sl 1 (enc eI list0),.bool asked0]] = enc eFrame (xs ++ [(⟨state0,list0,asked0⟩:GFrame)]):=bm eFrame xs (⟨state0,list0,asked0⟩:GFrame)
theorem tG (x:GFrame):(⟨x.state,x.list,x.asked⟩:GFrame) = x:=rfl
def eWait (x:GWait):List T:=[.int .i64 x.who,.bool x.own]
theorem tH (x:GWait):eWait x = [.int .i64 x.who,.bool x.own]:=rfl
theorem rt (o:Option GWait):(Option.map eWait o).getD [.int .i64 0,.bool false] = eWait (o.getD ⟨0,false⟩):=by cases o <;> rfl
theorem tI (xs:List GWait) (i:Nat) (who0:Int) (own0:Bool):(enc eWait xs).set i [.int .i64 who0,.bool own0] = enc eWait (xs.set i (⟨who0,own0⟩:GWait)):=bB eWait xs i (⟨who0,own0⟩:GWait)
theorem ru (xs:List GWait) (who0:Int) (own0:Bool):enc eWait xs ++ [[.int .i64 who0,.bool own0]] = enc eWait (xs ++ [(⟨who0,own0⟩:GWait)]):=bm eWait xs (⟨who0,own0⟩:GWait)
theorem vg (x:GWait):(⟨x.who,x.own⟩:GWait) = x:=rfl
def eHome (x:GHome):List T:=[.sl 1 (enc eI x.list),.int .i64 x.owner,.sl 1 (enc eB x.readers),.bool x.busy,.int .i64 x.now.who,.bool x.now.own,.int .i64 x.acks,.sl 2 (enc eWait x.queue)]
theorem tJ (x:GHome):eHome x = [.sl 1 (enc eI x.list),.int .i64 x.owner,.sl 1 (enc eB x.readers),.bool x.busy,.int .i64 x.now.who,.bool x.now.own,.int .i64 x.acks,.sl 2 (enc eWait x.queue)]:=rfl
theorem rx (o:Option GHome):(Option.map eHome o).getD [.sl 1 [],.int .i64 0,.sl 1 [],.bool false,.int .i64 0,.bool false,.int .i64 0,.sl 2 []] = eHome (o.getD ⟨[],0,[],false,⟨0,false⟩,0,[]⟩):=by cases o <;> rfl
theorem tK (xs:List GHome) (i:Nat) (list0:List Int) (owner0:Int) (readers0:List Bool) (busy0:Bool) (now_who0:Int) (now_own0:Bool) (acks0:Int) (queue0:List GWait):(enc eHome xs).set i [.sl 1 (enc eI list0),.int .i64 owner0,.sl 1 (enc eB readers0),.bool busy0,.int .i64 now_who0,.bool now_own0,.int .i64 acks0,.sl 2 (enc eWait queue0)] = enc eHome (xs.set i (⟨list0,owner0,readers0,busy0,⟨now_who0,now_own0⟩,acks0,queue0⟩:GHome)):=bB eHome xs i (⟨list0,owner0,readers0,busy0,⟨now_who0,now_own0⟩,acks0,queue0⟩:GHome)
theorem ry (xs:List GHome) (list0:List Int) (owner0:Int) (readers0:List Bool) (busy0:Bool) (now_who0:Int) (now_own0:Bool) (acks0:Int) (queue0:List GWait):enc eHome xs ++ [[.sl 1 (enc eI list0),.int .i64 owner0,.sl 1 (enc eB readers0),.bool busy0,.int .i64 now_who0,.bool now_own0,.int .i64 acks0,.sl 2 (enc eWait queue0)]] = enc eHome (xs ++ [(⟨list0,owner0,readers0,busy0,⟨now_who0,now_own0⟩,acks0,queue0⟩:GHome)]):=bm eHome xs (⟨list0,owner0,readers0,busy0,⟨now_who0,now_own0⟩,acks0,queue0⟩:GHome)
theorem vh (x:GHome):(⟨x.list,x.owner,x.readers,x.busy,⟨x.now.who,x.now.own⟩,x.acks,x.queue⟩:GHome) = x:=rfl
def eTold (x:GTold):List T:=[.int .i64 x.to,.int .i64 x.msg.kind,.int .i64 x.msg.page,.bool x.msg.own,.sl 1 (enc eI x.msg.list)]
theorem tL (x:GTold):eTold x = [.int .i64 x.to,.int .i64 x.msg.kind,.int .i64 x.msg.page,.bool x.msg.own,.sl 1 (enc eI x.msg.list)]:=rfl
theorem rz (o:Option GTold):(Option.map eTold o).getD [.int .i64 0,.int .i64 0,.int .i64 0,.bool false,.sl 1 []] = eTold (o.getD ⟨0,⟨0,0,false,[]⟩⟩):=by cases o <;> rfl
theorem tM (xs:List GTold) (i:Nat) (to0:Int) (msg_kind0:Int) (msg_page0:Int) (msg_own0:Bool) (msg_list0:List Int):(enc eTold xs).set i [.int .i64 to0,.int .i64 msg_kind0,.int .i64 msg_page0,.bool msg_own0,.sl 1 (enc eI msg_list0)] = enc eTold (xs.set i (⟨to0,⟨msg_kind0,msg_page0,msg_own0,msg_list0⟩⟩:GTold)):=bB eTold xs i (⟨to0,⟨msg_kind0,msg_page0,msg_own0,msg_list0⟩⟩:GTold)
theorem mS (xs:List GTold) (to0:Int) (msg_kind0:Int) (msg_page0:Int) (msg_own0:Bool) (msg_list0:List Int):enc eTold xs ++ [[.int .i64 to0,.int .i64 msg_kind0,.int .i64 msg_page0,.bool msg_own0,.sl 1 (enc eI msg_list0)]] = enc eTold (xs ++ [(⟨to0,⟨msg_kind0,msg_page0,msg_own0,msg_list0⟩⟩:GTold)]):=bm eTold xs (⟨to0,⟨msg_kind0,msg_page0,msg_own0,msg_list0⟩⟩:GTold)
theorem vi (x:GTold):(⟨x.to,⟨x.msg.kind,x.msg.page,x.msg.own,x.msg.list⟩⟩:GTold) = x:=rfl
def eNode (x:GNode):List T:=[.int .i64 x.id,.sl 3 (enc eFrame x.frames),.sl 8 (enc eHome x.homes),.sl 2 (enc eSender x.out),.sl 1 (enc eReceiver x.in_)]
theorem tN (x:GNode):eNode x = [.int .i64 x.id,.sl 3 (enc eFrame x.frames),.sl 8 (enc eHome x.homes),.sl 2 (enc eSender x.out),.sl 1 (enc eReceiver x.in_)]:=rfl
theorem rA (o:Option GNode):(Option.map eNode o).getD [.int .i64 0,.sl 3 [],.sl 8 [],.sl 2 [],.sl 1 []] = eNode (o.getD ⟨0,[],[],[],[]⟩):=by cases o <;> rfl
theorem tO (xs:List GNode) (i:Nat) (id0:Int) (frames0:List GFrame) (homes0:List GHome) (out0:List GSender) (in_0:List GReceiver):(enc eNode xs).set i [.int .i64 id0,.sl 3 (enc eFrame frames0),.sl 8 (enc eHome homes0),.sl 2 (enc eSender out0),.sl 1 (enc eReceiver in_0)] = enc eNode (xs.set i (⟨id0,frames0,homes0,out0,in_0⟩:GNode)):=bB eNode xs i (⟨id0,frames0,homes0,out0,in_0⟩:GNode)
theorem rB (xs:List GNode) (id0:Int) (frames0:List GFrame) (homes0:List GHome) (out0:List GSender) (in_0:List GReceiver):enc eNode xs ++ [[.int .i64 id0,.sl 3 (enc eFrame frames0),.sl 8 (enc eHome homes0),.sl 2 (enc eSender out0),.sl 1 (enc eReceiver in_0)]] = enc eNode (xs ++ [(⟨id0,frames0,homes0,out0,in_0⟩:GNode)]):=bm eNode xs (⟨id0,frames0,homes0,out0,in_0⟩:GNode)
theorem vj (x:GNode):(⟨x.id,x.frames,x.homes,x.out,x.in_⟩:GNode) = x:=rfl
def eWorld (x:GWorld):List T:=[.int .i64 x.size,.sl 5 (enc eNode x.nodes),.sl 8 (enc ePacket x.net)]
theorem rC (x:GWorld):eWorld x = [.int .i64 x.size,.sl 5 (enc eNode x.nodes),.sl 8 (enc ePacket x.net)]:=rfl
theorem pE (o:Option GWorld):(Option.map eWorld o).getD [.int .i64 0,.sl 5 [],.sl 8 []] = eWorld (o.getD ⟨0,[],[]⟩):=by cases o <;> rfl
theorem rD (xs:List GWorld) (i:Nat) (size0:Int) (nodes0:List GNode) (net0:List GPacket):(enc eWorld xs).set i [.int .i64 size0,.sl 5 (enc eNode nodes0),.sl 8 (enc ePacket net0)] = enc eWorld (xs.set i (⟨size0,nodes0,net0⟩:GWorld)):=bB eWorld xs i (⟨size0,nodes0,net0⟩:GWorld)
theorem pF (xs:List GWorld) (size0:Int) (nodes0:List GNode) (net0:List GPacket):enc eWorld xs ++ [[.int .i64 size0,.sl 5 (enc eNode nodes0),.sl 8 (enc ePacket net0)]] = enc eWorld (xs ++ [(⟨size0,nodes0,net0⟩:GWorld)]):=bm eWorld xs (⟨size0,nodes0,net0⟩:GWorld)
theorem tP (x:GWorld):(⟨x.size,x.nodes,x.net⟩:GWorld) = x:=rfl
def eDeed (x:GDeed):List T:=[.int .i64 x.kind,.int .i64 x.a,.int .i64 x.b,.int .i64 x.c]
theorem tQ (x:GDeed):eDeed x = [.int .i64 x.kind,.int .i64 x.a,.int .i64 x.b,.int .i64 x.c]:=rfl
theorem rE (o:Option GDeed):(Option.map eDeed o).getD [.int .i64 0,.int .i64 0,.int .i64 0,.int .i64 0] = eDeed (o.getD ⟨0,0,0,0⟩):=by cases o <;> rfl
theorem tR (xs:List GDeed) (i:Nat) (kind0:Int) (a0:Int) (b0:Int) (c0:Int):(enc eDeed xs).set i [.int .i64 kind0,.int .i64 a0,.int .i64 b0,.int .i64 c0] = enc eDeed (xs.set i (⟨kind0,a0,b0,c0⟩:GDeed)):=bB eDeed xs i (⟨kind0,a0,b0,c0⟩:GDeed)
theorem rF (xs:List GDeed) (kind0:Int) (a0:Int) (b0:Int) (c0:Int):enc eDeed xs ++ [[.int .i64 kind0,.int .i64 a0,.int .i64 b0,.int .i64 c0]] = enc eDeed (xs ++ [(⟨kind0,a0,b0,c0⟩:GDeed)]):=bm eDeed xs (⟨kind0,a0,b0,c0⟩:GDeed)
theorem vk (x:GDeed):(⟨x.kind,x.a,x.b,x.c⟩:GDeed) = x:=rfl
def eIns (x:GIns):List T:=[.int .i64 x.op,.int .i64 x.r,.int .i64 x.a,.int .i64 x.b,.int .i64 x.n]
theorem vl (x:GIns):eIns x = [.int .i64 x.op,.int .i64 x.r,.int .i64 x.a,.int .i64 x.b,.int .i64 x.n]:=rfl
theorem tS (o:Option GIns):(Option.map eIns o).getD [.int .i64 0,.int .i64 0,.int .i64 0,.int .i64 0,.int .i64 0] = eIns (o.getD ⟨0,0,0,0,0⟩):=by cases o <;> rfl
theorem vm (xs:List GIns) (i:Nat) (op0:Int) (r0:Int) (a0:Int) (b0:Int) (n0:Int):(enc eIns xs).set i [.int .i64 op0,.int .i64 r0,.int .i64 a0,.int .i64 b0,.int .i64 n0] = enc eIns (xs.set i (⟨op0,r0,a0,b0,n0⟩:GIns)):=bB eIns xs i (⟨op0,r0,a0,b0,n0⟩:GIns)
theorem tT (xs:List GIns) (op0:Int) (r0:Int) (a0:Int) (b0:Int) (n0:Int):enc eIns xs ++ [[.int .i64 op0,.int .i64 r0,.int .i64 a0,.int .i64 b0,.int .i64 n0]] = enc eIns (xs ++ [(⟨op0,r0,a0,b0,n0⟩:GIns)]):=bm eIns xs (⟨op0,r0,a0,b0,n0⟩:GIns)
theorem eta_Ins (x:GIns):(⟨x.op,x.r,x.a,x.b,x.n⟩:GIns) = x:=rfl
def eHart (x:GHart):List T:=[.sl 1 (enc eI x.regs),.int .i64 x.pc,.int .i64 x.state]
theorem tU (x:GHart):eHart x = [.sl 1 (enc eI x.regs),.int .i64 x.pc,.int .i64 x.state]:=rfl
theorem rG (o:Option GHart):(Option.map eHart o).getD [.sl 1 [],.int .i64 0,.int .i64 0] = eHart (o.getD ⟨[],0,0⟩):=by cases o <;> rfl
theorem tV (xs:List GHart) (i:Nat) (regs0:List Int) (pc0:Int) (state0:Int):(enc eHart xs).set i [.sl 1 (enc eI regs0),.int .i64 pc0,.int .i64 state0] = enc eHart (xs.set i (⟨regs0,pc0,state0⟩:GHart)):=bB eHart xs i (⟨regs0,pc0,state0⟩:GHart)
theorem rH (xs:List GHart) (regs0:List Int) (pc0:Int) (state0:Int):enc eHart xs ++ [[.sl 1 (enc eI regs0),.int .i64 pc0,.int .i64 state0]] = enc eHart (xs ++ [(⟨regs0,pc0,state0⟩:GHart)]):=bm eHart xs (⟨regs0,pc0,state0⟩:GHart)
theorem vn (x:GHart):(⟨x.regs,x.pc,x.state⟩:GHart) = x:=rfl
def eBlock (x:GBlock):List T:=[.int .i64 x.start,.sl 5 (enc eIns x.list)]
theorem rI (x:GBlock):eBlock x = [.int .i64 x.start,.sl 5 (enc eIns x.list)]:=rfl
theorem pG (o:Option GBlock):(Option.map eBlock o).getD [.int .i64 0,.sl 5 []] = eBlock (o.getD ⟨0,[]⟩):=by cases o <;> rfl
theorem rJ (xs:List GBlock) (i:Nat) (start0:Int) (list0:List GIns):(enc eBlock xs).set i [.int .i64 start0,.sl 5 (enc eIns list0)] = enc eBlock (xs.set i (⟨start0,list0⟩:GBlock)):=bB eBlock xs i (⟨start0,list0⟩:GBlock)
theorem pH (xs:List GBlock) (start0:Int) (list0:List GIns):enc eBlock xs ++ [[.int .i64 start0,.sl 5 (enc eIns list0)]] = enc eBlock (xs ++ [(⟨start0,list0⟩:GBlock)]):=bm eBlock xs (⟨start0,list0⟩:GBlock)
theorem tW (x:GBlock):(⟨x.start,x.list⟩:GBlock) = x:=rfl
def eCore (x:GCore):List T:=[.sl 1 (enc eI x.hart.regs),.int .i64 x.hart.pc,.int .i64 x.hart.state,.sl 2 (enc eBlock x.cache)]
theorem tX (x:GCore):eCore x = [.sl 1 (enc eI x.hart.regs),.int .i64 x.hart.pc,.int .i64 x.hart.state,.sl 2 (enc eBlock x.cache)]:=rfl
theorem rK (o:Option GCore):(Option.map eCore o).getD [.sl 1 [],.int .i64 0,.int .i64 0,.sl 2 []] = eCore (o.getD ⟨⟨[],0,0⟩,[]⟩):=by cases o <;> rfl
theorem tY (xs:List GCore) (i:Nat) (hart_regs0:List Int) (hart_pc0:Int) (hart_state0:Int) (cache0:List GBlock):(enc eCore xs).set i [.sl 1 (enc eI hart_regs0),.int .i64 hart_pc0,.int .i64 hart_state0,.sl 2 (enc eBlock cache0)] = enc eCore (xs.set i (⟨⟨hart_regs0,hart_pc0,hart_state0⟩,cache0⟩:GCore)):=bB eCore xs i (⟨⟨hart_regs0,hart_pc0,hart_state0⟩,cache0⟩:GCore)
theorem jd (xs:List GCore) (hart_regs0:List Int) (hart_pc0:Int) (hart_state0:Int) (cache0:List GBlock):enc eCore xs ++ [[.sl 1 (enc eI hart_regs0),.int .i64 hart_pc0,.int .i64 hart_state0,.sl 2 (enc eBlock cache0)]] = enc eCore (xs ++ [(⟨⟨hart_regs0,hart_pc0,hart_state0⟩,cache0⟩:GCore)]):=bm eCore xs (⟨⟨hart_regs0,hart_pc0,hart_state0⟩,cache0⟩:GCore)
theorem vo (x:GCore):(⟨⟨x.hart.regs,x.hart.pc,x.hart.state⟩,x.cache⟩:GCore) = x:=rfl
def eFlock (x:GFlock):List T:=[.int .i64 x.world.size,.sl 5 (enc eNode x.world.nodes),.sl 8 (enc ePacket x.world.net),.sl 4 (enc eCore x.cores)]
theorem rL (x:GFlock):eFlock x = [.int .i64 x.world.size,.sl 5 (enc eNode x.world.nodes),.sl 8 (enc ePacket x.world.net),.sl 4 (enc eCore x.cores)]:=rfl
theorem pI (o:Option GFlock):(Option.map eFlock o).getD [.int .i64 0,.sl 5 [],.sl 8 [],.sl 4 []] = eFlock (o.getD ⟨⟨0,[],[]⟩,[]⟩):=by cases o <;> rfl
theorem rM (xs:List GFlock) (i:Nat) (world_size0:Int) (world_nodes0:List GNode) (world_net0:List GPacket) (cores0:List GCore):(enc eFlock xs).set i [.int .i64 world_size0,.sl 5 (enc eNode world_nodes0),.sl 8 (enc ePacket world_net0),.sl 4 (enc eCore cores0)] = enc eFlock (xs.set i (⟨⟨world_size0,world_nodes0,world_net0⟩,cores0⟩:GFlock)):=bB eFlock xs i (⟨⟨world_size0,world_nodes0,world_net0⟩,cores0⟩:GFlock)
theorem pJ (xs:List GFlock) (world_size0:Int) (world_nodes0:List GNode) (world_net0:List GPacket) (cores0:List GCore):enc eFlock xs ++ [[.int .i64 world_size0,.sl 5 (enc eNode world_nodes0),.sl 8 (enc ePacket world_net0),.sl 4 (enc eCore cores0)]] = enc eFlock (xs ++ [(⟨⟨world_size0,world_nodes0,world_net0⟩,cores0⟩:GFlock)]):=bm eFlock xs (⟨⟨world_size0,world_nodes0,world_net0⟩,cores0⟩:GFlock)
theorem tZ (x:GFlock):(⟨⟨x.world.size,x.world.nodes,x.world.net⟩,x.cores⟩:GFlock) = x:=rfl
theorem vp {ts:List T} (h:FitsL [.sl 1 [.int .u8]] ts):∃ xs:List Int,ts = [.sl 1 (enc eU xs)] ∧ xs.length ≤ 9223372036854775807 ∧ ∀ a ∈ xs,0 ≤ a ∧ a ≤ 255:=by
 obtain ⟨t,ts',rfl,h1,h2⟩:=nO h;obtain rfl:=px h2;obtain ⟨xs,rfl,h3,h4⟩:=fits_sl (e:=eU) (Q:=fun a:Int=>0 ≤ a ∧ a ≤ 255) h1 fun ts h=>fits_U h;exact ⟨xs,rfl,h3,h4⟩
attribute [go_sem] getD_eB set_eB snoc_eB eB_def getD_eU set_eU snoc_eU eU_def tE vf tF ve oD pz oE py mQ nB mR nA oG pB jT pA pC rq pD rp rt tI ru tH rx tK ry tJ rz tM mS tL rA tO rB tN pE rD pF rC rE tR rF tQ tS vm tT vl rG tV rH tU pG rJ pH rI rK tY jd tX pI rM pJ rL eta_Msg rl oF rm tG vg vh vi vj tP vk eta_Ins vn tW vo tZ
def lenOf:L → Option Nat
 | .ref _ _ _ _ len=>some len
 | .nil=>some 0
 | _=>none
section
variable {P:Program} {w0 w w':World} {Al:Blks} {N:Nat} {g:Gh} {σ:St} {a:Act} {K:Exit → St → Prop}
theorem nil_len (m:Mem w g σ) {l:L} {n:Nat} {v:Value} (hl:lenOf l = some n) (h:RepL w g σ l v):∃ oa cap,v = .slice oa n cap ∧ (oa = none → n = 0):=by
 cases l with
 | ref r p z off len =>
  simp only[lenOf,Option.some.injEq] at hl;subst hl;obtain ⟨row,es,u,h1,h2,h3,h4,h5⟩:=h;obtain ⟨oa,k,cap,oa',rfl,rfl,h6⟩:=h5;refine ⟨oa',_,rfl,fun e=>?_⟩;subst e;obtain ⟨u',hu',hr⟩:=m.at h1 h2;rw[h3] at hu';cases hu'
  obtain ⟨hcap,hk⟩:=hr.cap_ge;rcases h6 with h6 | h6
  ·omega
  ·cases oa with
   | some x=>simp at h6
   | none=>cases hr with | nils=>simp at h4;omega
 | nil =>
  simp only[lenOf,Option.some.injEq] at hl;subst hl;obtain ⟨oa,rfl⟩:=h;exact ⟨oa,0,rfl,fun _=>rfl⟩
 | _=>simp[lenOf] at hl
theorem gV {id x d1 d2 t te ty1 ty2 e:Nat} {ps1 ps2:String} {af:Array Edge} {l:L} {n:Nat} (hu:(tyOf P t).u = .sl e) (hx:get σ.env x = some (true,.l l)) (hl:lenOf l = some n) (h1:d1 < N) (h2:d2 < N)
  (h:∀ b:Bool,(b = true → n = 0) → K .normal ((σ.set (some d1) true (.l l)).set (some d2) true (.l (.t (.bool b))))) :
  W P N (.region id #[{ dst:=some d1,op:=.move (.tmp x),type:=ty1,pos:=ps1,after:=#[],guard:=none },{ dst:=some d2,op:=.binOp .eql t (.tmp d1) (.const (.slice none 0 0)) te,type:=ty2,pos:=ps2,after:=af,guard:=none }] false) K σ:=by
 intro w0 Al a w g R
 refine wp_region ?_
 have hu':∃ e',P.underlying t = some (.slice e'):=by
  simp only[tyOf,uOf] at hu
  split at hu <;> simp_all
 obtain ⟨e',hu'⟩:=hu'
 have hxr:=R.slots.yes x true _ hx rfl
 obtain ⟨oa,cap,hv,hnil⟩:=nil_len R.mem hl hxr
 have R1:=Rel.put (x:=a.tmps.getD x undef) (d:=some d1) (v:=.l l) (c:=true) R (fun t e=>by cases e;exact h1) (fun _=>hxr) (fun e=>by cases e)
 have ev:(a.put (some d1) (a.tmps.getD x undef)).eval (.tmp d1) = .slice oa n cap:=by
  have hs:d1 < a.tmps.size:=R.tsz ▸ h1
  rw[← hv]
  simp[Act.eval,Act.put,hs,Array.getD]
 have heq:∀ w1:World,(Go.binOp .eql t (.slice oa n cap) (.slice none 0 0)).run P w1 = .ok (.bool oa.isNone) w1:=by
  intro w1
  have hq:(Op.equal t (.slice oa n cap) (.slice none 0 0)).run P w1 = .ok oa.isNone w1:=by
   show (Op.equalIn (9999 + 1) t (.slice oa n cap) (.slice none 0 0)).run P w1 = _
   generalize 9999 = d
   simp only[Op.equalIn,Sem.run_bind,run_underlying hu',Result.andThen_ok]
   cases oa <;> simp[Sem.run_pure]
  show ((do pure (.bool (← Op.equal t (.slice oa n cap) (.slice none 0 0))):Sem Value)).run P w1 = _
  simp only[Sem.run_bind,hq,Result.andThen_ok,Sem.run_pure]
 have R2:=Rel.put (x:=.bool oa.isNone) (d:=some d2) (v:=.l (.t (.bool oa.isNone))) (c:=true) R1 (fun t e=>by cases e;exact h2) (fun _=>.bool) (fun e=>by cases e)
 have hK:=h oa.isNone (fun e=>hnil (by simpa using e))
 have e0:List.range (2:Nat) = [0,1]:=rfl
 simp only[List.size_toArray,List.length_cons,List.length_nil,Nat.zero_add,Nat.reduceAdd,e0,wpOps,List.getElem?_toArray,List.getElem?_cons_zero,List.getElem?_cons_succ,Region.wanted,if_true]
 refine .inl ?_
 have q1:(execOp a.eval { dst:=some d1,op:=.move (.tmp x),type:=ty1,pos:=ps1,after:=#[],guard:=none }).run P w = .ok (.value (a.tmps.getD x undef)) w:=by simp[execOp,Act.eval]
 simp only[Oper.wp,q1,Oper.upon]
 refine .inl ?_
 have q2:(execOp (a.put (some d1) (a.tmps.getD x undef)).eval { dst:=some d2,op:=.binOp .eql t (.tmp d1) (.const (.slice none 0 0)) te,type:=ty2,pos:=ps2,after:=af,guard:=none }).run P w = .ok (.value (.bool oa.isNone)) w:=by
  have hg:(eqGuard .eql t (.tmp d1) (.const (.slice none 0 0)) (.slice oa n cap) (.slice none 0 0)).run P w = .ok () w:=by simp[eqGuard]
  have e2:(a.put (some d1) (a.tmps.getD x undef)).eval (.const (.slice none 0 0)) = .slice none 0 0:=rfl
  simp only[execOp,ev,e2,Sem.run_bind,hg,heq,Result.andThen_ok,Sem.run_pure]
 simp only[q2]
 exact ⟨_,_,R2,hK⟩
end
theorem vq:Flat []:=by simp[Flat]
theorem ua (x:List T) (xs:Els):Flat (x :: xs) ↔ (∀ c ∈ x,c.flat = true) ∧ Flat xs:=by simp[Flat]
theorem vr (xs ys:Els):Flat (xs ++ ys) ↔ Flat xs ∧ Flat ys:=by
 simp only[Flat,List.mem_append];exact ⟨fun h=>⟨fun x hx=>h x (Or.inl hx),fun x hx=>h x (Or.inr hx)⟩,fun h x hx=>hx.elim (h.1 x) (h.2 x)⟩
theorem eM {α:Type} {f:α → List T} (xs:List α) (h:∀ x,(f x).all T.flat = true):Flat (enc f xs):=by
 intro x hx c hc;simp only[enc,List.mem_map] at hx;obtain ⟨y,_,rfl⟩:=hx;exact List.all_eq_true.1 (h y) c hc
theorem flat_eI (xs:List Int):Flat (enc eI xs):=eM xs fun _=>rfl
theorem flat_eB (xs:List Bool):Flat (enc eB xs):=eM xs fun _=>rfl
theorem flat_eU (xs:List Int):Flat (enc eU xs):=eM xs fun _=>rfl
theorem ub (xs:List GIns):Flat (enc eIns xs):=eM xs fun _=>rfl
theorem rN (xs:List GWait):Flat (enc eWait xs):=eM xs fun _=>rfl
theorem mT (xs:List GReceiver):Flat (enc eReceiver xs):=eM xs fun _=>rfl
theorem rO (xs:List GDeed):Flat (enc eDeed xs):=eM xs fun _=>rfl
attribute [go_sem] appT appS partsL takeLss shareL shareLs shareLss vq ua vr flat_eI flat_eB flat_eU ub rN mT rO T.flat lenOf
def BoxReads (w:World) (b:Nat) (ts:List T):Prop:=∃ cs e fr,w.heap[b]? = some (.cells cs e fr) ∧ cs.size = ts.length ∧ ∀ (i:Nat) t,ts[i]? = some t → Rep w false (cs.getD i undef) t fun _=>True
def BoxesRead (w:World):List Nat → List (List T) → Prop
 | [],[]=>True
 | b :: bs,ts :: tss=>BoxReads w b ts ∧ BoxesRead w bs tss
 | _,_=>False
def ptrU (b:Nat):Value:=.pointer (some ⟨b,0,none⟩)
def PCb (P:Program) (f:FuncId) (args:List A) (caps:List (List T)) (res:List A):Prop :=
 Ours P f ∧ ∀ w vs bs,Shapes args vs → (∀ (j:Nat) t v,(flatA args)[j]? = some t → (flatU vs)[j]? = some v → Rep w false v t fun _=>True) → BoxesRead w bs caps → Calls P f (vs ++ bs.map ptrU).toArray w fun
  | .returned r,w'=>w.heap.size ≤ w'.heap.size ∧ (∀ b,b < w.heap.size → w'.heap[b]? = w.heap[b]?) ∧ w'.os = w.os ∧ w'.tape = w.tape ∧ w'.output = w.output ∧
    ∃ us,r = oneU us ∧ Shapes res us ∧ ∃ F:Nat → Blks,(∀ (j:Nat) t v,(flatA res)[j]? = some t → (flatU us)[j]? = some v → Rep w' true v t (F j)) ∧ (∀ j b,F j b → w.heap.size ≤ b) ∧ ∀ j j' b,F j b → F j' b → j = j'
  | _,_=>False
def capRows:Nat → List (List T) → List (Nat × Row)
 | _,[]=>[]
 | k,ts :: r=>(k,⟨.ro,ts.length,[ts]⟩) :: capRows (k + 1) r
def capVals:Nat → List (List T) → List V
 | _,[]=>[]
 | k,_ :: r=>.l (.ept k [] 0 0 0) :: capVals (k + 1) r
def St.startB (args:List A) (caps:List (List T)):St :=
 { env:=paramsE 0 (valsN 0 args ++ capVals (flatA args).length caps),box:=[],row:=rowsN .ro 0 (flatA args) ++ capRows (flatA args).length caps,nxt:=(flatA args).length + caps.length,sav:=[] }
section
variable {P:Program} {w0 w w':World} {Al:Blks} {N:Nat} {g:Gh} {σ σ':St} {a:Act}
theorem gW:∀ (caps:List (List T)) (k n:Nat),get (capRows k caps) n = if k ≤ n then (caps[n - k]?).map fun ts=>⟨.ro,ts.length,[ts]⟩ else none
 | [],k,n=>by simp[capRows,get]
 | ts :: r,k,n=>by
  simp only[capRows,get]
  by_cases h:n = k
  ·subst h;simp
  ·rw[if_neg h,gW r (k + 1) n]
   by_cases h1:k + 1 ≤ n
   ·rw[if_pos h1,if_pos (by omega)]
    have:n - k = (n - (k + 1)) + 1:=by omega
    rw[this]
    simp
   ·rw[if_neg h1,if_neg (by omega)]
theorem nP:∀ {bs:List Nat} {caps:List (List T)},BoxesRead w bs caps → bs.length = caps.length
 | [],[],_=>rfl
 | _ :: _,_ :: _,h=>by simp[nP h.2]
 | [],_ :: _,h=>h.elim
 | _ :: _,[],h=>h.elim
theorem kV:∀ {bs:List Nat} {caps:List (List T)},BoxesRead w bs caps → ∀ {j:Nat} {ts:List T},caps[j]? = some ts → ∃ b,bs[j]? = some b ∧ BoxReads w b ts
 | b :: _,_ :: _,h,0,ts,e=>by simp at e;subst e;exact ⟨b,rfl,h.1⟩
 | _ :: _,_ :: _,h,j + 1,ts,e=>kV h.2 (j:=j) (by simpa using e)
 | [],[],_,_,_,e=>by simp at e
 | [],_ :: _,h,_,_,_=>h.elim
 | _ :: _,[],h,_,_,_=>h.elim
theorem box_rep {b:Nat} {ts:List T} (h:BoxReads w b ts):Rep w false (.slice (some ⟨b,0,none⟩) 1 1) (.sl ts.length [ts]) fun _=>True:=by
 obtain ⟨cs,e,fr,h1,h2,h3⟩:=h
 have key:=Rep.sl (w:=w) (o:=false) (a:=⟨b,0,none⟩) (cap:=1) (z:=ts.length) (es:=[ts]) (F:=fun _=>True) (cs:=cs) (fun _ _ _=>True)
  ⟨⟨e,fr,h1,fun h=>by cases h⟩,rfl,by simp,by simp[h2],by simp⟩ trivial (fun _ _ _ _=>trivial) (fun h=>by cases h) (fun h=>by cases h) (fun i j x c hx hc=>?_)
 ·exact key
 ·have hi:i = 0:=by
   have:=(List.getElem?_eq_some_iff.1 hx).1;simp at this;exact this
  subst hi;simp at hx;subst hx;simpa using h3 j c hc
theorem ll:∀ {caps:List (List T)} {bs:List Nat} {k:Nat},bs.length = caps.length → (∀ (j:Nat) ts,caps[j]? = some ts → get σ.row (k + j) = some ⟨.ro,ts.length,[ts]⟩ ∧ ∃ b,bs[j]? = some b ∧ g.rw (k + j) = .slice (some ⟨b,0,none⟩) 1 1) →
  RepVs w g σ (capVals k caps) (bs.map ptrU)
 | [],[],_,_,_=>trivial
 | ts :: caps,b :: bs,k,hl,h=>by
  refine ⟨?_,ll (k:=k + 1) (by simpa using hl) fun j ts' e=>?_⟩
  ·obtain ⟨h1,b',h2,h3⟩:=h 0 ts rfl
   simp at h2
   subst h2
   refine ⟨_,ts.length,[ts],⟨b,0,none⟩,1,1,h1,rfl,?_,by simp,rfl,by simp[ptrU]⟩
   simpa [valAt] using h3
  ·obtain ⟨h1,b',h2,h3⟩:=h (j + 1) ts' (by simpa using e)
   refine ⟨by rw[show k + 1 + j = k + (j + 1) from by omega];exact h1,b',by simpa using h2,by rw[show k + 1 + j = k + (j + 1) from by omega];exact h3⟩
 | [],_ :: _,_,hl,_=>by simp at hl
 | _ :: _,[],_,hl,_=>by simp at hl
theorem oH {f:FuncId} {fn:Func} {c:Code} {args res:List A} {caps:List (List T)} (hf:P.funcs[f]? = some fn) (hb:fn.body = some c) (hn:(fn.name == "runtime.NumGoroutine") = false) {n:Nat} (hnt:fn.ntmps = n) {rs:List ResultVar} (hrs:fn.results.toList = rs) (hl:args.length + caps.length ≤ n)
  (h:W P n c (OutN P rs res) (St.startB args caps)):PCb P f args caps res:=by
 subst hnt hrs
 refine ⟨⟨fn,hf,by simp[hb],hn⟩,fun w vs bs hsh hrep hbox=>calls_of_wp hf hb ?_⟩
 let n0:=(flatA args).length
 let g:Gh:=⟨fun _=>0,fun k=>if k < n0 then (flatU vs).getD k undef else .slice (some ⟨bs.getD (k - n0) 0,0,none⟩) 1 1,fun _ _=>False⟩
 have hfl:=bA hsh
 have hbl:=nP hbox
 have hrow:∀ r row,get (St.startB args caps).row r = some row → row.pm = .ro ∧ ((r < n0 ∧ (flatA args)[r]? = some (.sl row.z row.es)) ∨ (n0 ≤ r ∧ ∃ ts,caps[r - n0]? = some ts ∧ row = ⟨.ro,ts.length,[ts]⟩)):=by
  intro r row hr
  simp only[St.startB,get_append,aV,gW,Nat.zero_le,if_true,Nat.sub_zero] at hr
  by_cases hlt:r < n0
  ·have h0:∃ t,(flatA args)[r]? = some t:=⟨_,List.getElem?_eq_getElem hlt⟩
   obtain ⟨t,ht⟩:=h0
   rw[ht] at hr
   rw[if_neg (by show ¬ n0 ≤ r;omega)] at hr
   cases t with
   | sl z es=>simp at hr;subst hr;exact ⟨rfl,.inl ⟨hlt,ht⟩⟩
   | _=>simp at hr
  ·rw[List.getElem?_eq_none (by show n0 ≤ r;omega),if_pos (by show n0 ≤ r;omega)] at hr
   cases hc:caps[r - (flatA args).length]? with
   | none=>rw[hc] at hr;simp at hr
   | some ts=>rw[hc] at hr;simp at hr;subst hr;exact ⟨rfl,.inr ⟨by omega,ts,rfl,rfl⟩⟩
 have hown:∀ b,¬ Owned g (St.startB args caps) b:=by
  rintro b (⟨k,ls,h1,_⟩ | ⟨r,row,h1,h2,_⟩)
  ·simp[St.startB,get] at h1
  ·exact h2 (hrow r row h1).1
 have hvals1:RepVs w g (St.startB args caps) (valsN 0 args) vs:=by
  refine bV hsh fun j t v ht hv=>?_
  have hlt:j < n0:=(List.getElem?_eq_some_iff.1 ht).1
  refine bI (hrep j t v ht hv) fun z es e=>?_
  subst e
  refine ⟨⟨.ro,z,es⟩,?_,rfl,rfl,?_⟩
  ·simp only[St.startB,get_append,aV,Nat.zero_le,if_true,Nat.zero_add,Nat.sub_zero,ht]
  ·simp only[Nat.zero_add,g,hlt,if_true]
   simp[hv]
 have hvals2:RepVs w g (St.startB args caps) (capVals n0 caps) (bs.map ptrU):=by
  refine ll hbl fun j ts e=>?_
  obtain ⟨b,hb1,_⟩:=kV hbox e
  refine ⟨?_,b,hb1,?_⟩
  ·simp only[St.startB,get_append,aV,gW,Nat.zero_le,if_true,Nat.sub_zero]
   rw[List.getElem?_eq_none (by show n0 ≤ n0 + j;omega)]
   show (if n0 ≤ n0 + j then _ else _) = _
   rw[if_pos (by omega),show n0 + j - (flatA args).length = j from by show n0 + j - n0 = j;omega,e]
   rfl
  ·simp only[g]
   rw[if_neg (by omega),show n0 + j - n0 = j from by omega]
   simp[hb1]
 have hvals:=hvals1.append hvals2
 have hlen:=hvals.length
 have hal:args.length = vs.length:=hsh.length
 have R:Rel w (fun _=>False) fn.ntmps (St.startB args caps) { tmps:=(vs ++ bs.map ptrU).toArray ++ Array.replicate (fn.ntmps - (vs ++ bs.map ptrU).toArray.size) undef,defers:=[] } w g:=by
  refine ⟨⟨fun t c v hg hc=>?_,fun t c v hg hc=>?_⟩,cE _ 0,⟨?_,?_,?_,?_,?_,?_,?_,fun b hb=>(hown b hb).elim⟩,fun b hb=>(hown b hb).elim,fun _ _ _=>rfl,Nat.le_refl _,rfl,rfl,rfl,rfl,by simp;omega,fun x hx=>by simp[St.startB] at hx⟩
  ·obtain ⟨_,_,h3⟩:=bj _ 0 t c v hg
   obtain ⟨u,hu,hr⟩:=hvals.nth (j:=t) (by simpa using h3)
   have hlt:t < (vs ++ bs.map ptrU).length:=(List.getElem?_eq_some_iff.1 hu).1
   have:((vs ++ bs.map ptrU).toArray ++ Array.replicate (fn.ntmps - (vs ++ bs.map ptrU).toArray.size) undef).getD t undef = u:=by
    rw[Array.getD_eq_getD_getElem?,Array.getElem?_append_left (by simpa using hlt),List.getElem?_toArray,hu]
    rfl
   rw[this]
   exact hr
  ·have:=(bj _ 0 t c v hg).1
   rw[hc] at this
   cases this
  ·intro k ls h;simp[St.startB,get] at h
  ·intro r row h hp;rw[(hrow r row h).1] at hp;cases hp
  ·intro r row h hp;rw[(hrow r row h).1] at hp;cases hp
  ·intro r row h hp
   rcases (hrow r row h).2 with ⟨hlt,ht⟩ | ⟨hge,ts,hc,rfl⟩
   ·have hlt2:r < (flatU vs).length:=by rw[hfl];exact hlt
    have hv:(flatU vs)[r]? = some ((flatU vs).getD r undef):=by simp[List.getD_eq_getElem?_getD,List.getElem?_eq_getElem hlt2]
    have:=(hrep r _ _ ht hv).mono fun b _=>hown b
    simp only[g,hlt,if_true]
    exact this
   ·obtain ⟨b,hb1,hb2⟩:=kV hbox hc
    have:=(box_rep hb2).mono fun b _=>hown b
    simp only[g]
    rw[if_neg (by omega)]
    have e:bs.getD (r - n0) 0 = b:=by simp[List.getD_eq_getElem?_getD,hb1]
    rw[e]
    exact this
  ·intro k k' ls ls' h;simp[St.startB,get] at h
  ·intro k ls r row h;simp[St.startB,get] at h
  ·intro r r' row row' b h _ hp;exact absurd (hrow r row h).1 hp
 refine wp_mono (h w (fun _=>False) _ w g R) fun e a' w' ⟨σ',g',R',hK⟩=>?_
 have fin:(match resV P σ' fn.results.toList with
  | some (c,vs)=>c ∧ shapeVs res vs ∧ match takeLs σ' ((flatA res).map zOf) (vs.flatMap V.leaves) with
   | some (c',ts,_)=>c' ∧ ts = flatA res
   | none=>False
  | none=>False) → a'.defers = [] ∧ ∃ v,(results fn a'.tmps).run P w' = .ok v w' ∧ (w.heap.size ≤ w'.heap.size ∧ (∀ b,b < w.heap.size → w'.heap[b]? = w.heap[b]?) ∧ w'.os = w.os ∧ w'.tape = w.tape ∧ w'.output = w.output ∧
    ∃ us,v = oneU us ∧ Shapes res us ∧ ∃ F:Nat → Blks,(∀ (j:Nat) t v,(flatA res)[j]? = some t → (flatU us)[j]? = some v → Rep w' true v t (F j)) ∧ (∀ j b,F j b → w.heap.size ≤ b) ∧ ∀ j j' b,F j b → F j' b → j = j'):=by
  intro hK
  refine ⟨R'.dfr,?_⟩
  split at hK
  ·rename_i c vs' hres
   obtain ⟨hc,hsv,hK⟩:=hK
   split at hK
   ·rename_i c' ts rs hts
    obtain ⟨hc',rfl⟩:=hK
    obtain ⟨us,hr,hus⟩:=jP R'.mem R'.slots hres hc
    obtain ⟨hS,hL⟩:=dT hsv hus
    obtain ⟨_,_,F,q1,q2,q3⟩:=bM R'.mem hts hc' hL
    refine ⟨_,hr,R'.siz,fun b hb=>R'.frm b hb (fun h=>h),R'.os,R'.tape,R'.out,us,rfl,hS,F,q1,fun j b hb=>?_,q3⟩
    obtain ⟨r,row,_,h1,h2,h3⟩:=q2 j b hb
    rcases R'.own b (Or.inr ⟨r,row,h1,h2,h3⟩) with h | h
    ·exact h
    ·exact h.elim
   ·exact hK.elim
  ·exact hK.elim
 cases e with
 | normal=>exact fin hK
 | ret=>exact fin hK
 | _=>exact hK.elim
theorem PC.toB {f:FuncId} {args res:List A} (h:PC P f args res):PCb P f args [] res :=
 ⟨h.1,fun w vs bs hsh hrep hbox=>by
  cases bs with
  | nil =>
   rw[List.map_nil,List.append_nil]
   exact Calls.mono (h.2 w vs hsh hrep) fun e w' he=>by cases e <;> exact he
  | cons=>exact hbox.elim⟩
def capsDen (σ:St):List Nat → List (List T) → Prop
 | [],[]=>True
 | b :: bs,ts :: tss=>(∃ ls,get σ.box b = some ls ∧ denLs σ ls ts) ∧ capsDen σ bs tss
 | _,_=>False
theorem jU (m:Mem w g σ):∀ {bs:List Nat} {caps:List (List T)},capsDen σ bs caps → BoxesRead w (bs.map g.bx) caps
 | [],[],_=>trivial
 | b :: bs,ts :: caps,h=>by
  obtain ⟨⟨ls,h1,h2⟩,h3⟩:=h
  refine ⟨?_,jU m h3⟩
  obtain ⟨cs,e,h4,h5⟩:=m.box b ls h1
  obtain ⟨h6,h7⟩:=fC m h5 h2
  refine ⟨cs,e,(0,0),h4,by simpa using h6.symm,fun i t ht=>?_⟩
  have hi:i < cs.size:=by have:=(List.getElem?_eq_some_iff.1 ht).1;rw[h6] at this;simpa using this
  refine h7 i t _ ht ?_
  simp[Array.getD,hi]
 | [],_ :: _,h=>h.elim
 | _ :: _,[],h=>h.elim
theorem RepVs.split:∀ {xs ys:List V} {us:List Value},RepVs w g σ (xs ++ ys) us → ∃ us1 us2,us = us1 ++ us2 ∧ RepVs w g σ xs us1 ∧ RepVs w g σ ys us2
 | [],_,us,h=>⟨[],us,rfl,trivial,h⟩
 | _ :: xs,ys,u :: us,h=>by
  obtain ⟨u1,u2,rfl,h1,h2⟩:=RepVs.split (xs:=xs) h.2
  exact ⟨u :: u1,u2,rfl,⟨h.1,h1⟩,h2⟩
 | _ :: _,_,[],h=>h.elim
theorem pK:∀ {bs:List Nat} {us:List Value},RepVs w g σ (bs.map fun b=>.l (.ptr b 0)) us → us = (bs.map g.bx).map ptrU
 | [],[],_=>rfl
 | b :: bs,u :: us,h=>by
  obtain ⟨h1,h2⟩:=h
  rw[pK h2]
  have:u = ptrU (g.bx b):=h1.2
  rw[this]
  rfl
 | [],_ :: _,h=>h.elim
 | _ :: _,[],h=>h.elim
theorem pL {f:FuncId} {args res:List A} {caps:List (List T)} {bs:List Nat} {vs:List V} {v:V} {K:St → V → Prop} (hpc:PCb P f args caps res) (hden:denVs σ vs args) (hcap:capsDen σ bs caps) (hv:oneV (valsN σ.nxt res) = some v)
  (hfr:∀ j,j < (flatA res).length → get σ.row (σ.nxt + j) = none) (hK:K (σ.answer res) v) {k:Bool}:CallW P k f (vs ++ bs.map fun b=>.l (.ptr b 0)) K σ:=by
 refine ⟨hpc.1,fun w0 Al N a w g us R hus=>?_⟩
 obtain ⟨us1,us2,rfl,hus1,hus2⟩:=RepVs.split hus
 obtain rfl:=pK hus2
 obtain ⟨h1,h2⟩:=fD R.mem hus1 hden
 refine Calls.mono (hpc.2 w us1 _ h1 h2 (jU R.mem hcap)) fun e w' he=>?_
 cases e with
 | panicked=>exact he
 | outgrown=>exact he
 | returned r =>
  obtain ⟨hsiz,hold,hos,htape,hout,us',rfl,hsh,F,hF,hlo,hdis⟩:=he
  obtain ⟨g',hin,hrw⟩:=kR R.mem hfr hsh hF hlo hdis hsiz hold
  have R':=R.turn hin ⟨by rw[bD];rfl,(bK _).symm⟩ hos htape hout
  refine ⟨σ.answer res,g',v,R',?_,hK,fun _=>hold⟩
  refine fB hv (bV hsh fun j t u ht hu=>bI (hF j t u ht hu) fun z es e=>?_)
  subst e
  have hj:j < (flatA res).length:=(List.getElem?_eq_some_iff.1 ht).1
  refine ⟨⟨.own,z,es⟩,?_,rfl,rfl,hrw j u hj hu⟩
  simp only[St.answer,get_append,aV,Nat.le_add_right,if_true,Nat.add_sub_cancel_left,ht]
def Quiet (P:Program) (f:FuncId) (vs:List V) (t:T) (σ:St):Prop:=∀ K:St → V → Prop,K σ (.l (.t t)) → CallW P false f vs K σ
theorem uc {σ':St} (hr:σ'.row = σ.row) (l:L) (t:T):denL σ' l t = denL σ l t:=by
 unfold denL nodeOf;rw[hr]
theorem mU {σ':St} (hr:σ'.row = σ.row):∀ (ls:List L) (ts:List T),denLs σ' ls ts = denLs σ ls ts
 | [],[]=>rfl
 | _ :: ls,_ :: ts=>by simp only[denLs,uc hr,mU hr ls ts]
 | [],_ :: _=>rfl
 | _ :: _,[]=>rfl
theorem aP {σ':St} (hb:σ'.box = σ.box) (hr:σ'.row = σ.row):∀ {bs:List Nat} {caps:List (List T)},capsDen σ bs caps → capsDen σ' bs caps
 | [],[],_=>trivial
 | _ :: _,_ :: _,⟨⟨ls,h1,h2⟩,h3⟩=>⟨⟨ls,by rw[hb];exact h1,by rw[mU hr];exact h2⟩,aP hb hr h3⟩
 | [],_ :: _,h=>h.elim
 | _ :: _,[],h=>h.elim
theorem ud {k:Bool} {f:FuncId} {vs:List V} {t:T} {K:St → V → Prop} {n:Nat} (h:CallW P k f vs (fun σ' v=>v = .l (.t t) ∧ K { σ' with nxt:=n } v) σ):CallW P k f vs K σ:=by
 refine ⟨h.1,fun w0 Al N a w g us R hus=>Calls.mono (h.2 w0 Al N a w g us R hus) fun e w' he=>?_⟩;cases e with
 | panicked=>exact he
 | outgrown=>exact he
 | returned r =>
  obtain ⟨σ',g',v,R',hv,⟨rfl,hK⟩,hk⟩:=he;exact ⟨_,g',_,R'.num n,hv.same rfl rfl,hK,hk⟩
theorem cA {f:FuncId} {args:List A} {caps:List (List T)} {bs:List Nat} {vs:List V} {t:T} (hpc:PCb P f args caps [(false,[t])]) (hden:denVs σ vs args) (hcap:capsDen σ bs caps) (hfr:σ.row.all (fun x=>decide (x.1 < σ.nxt)) = true)
  (ht:(match t with | .sl .. | .hole=>false | _=>true) = true):Quiet P f (vs ++ bs.map fun b=>.l (.ptr b 0)) t σ:=by
 intro K hK
 have hlf:leafN σ.nxt t = .t t:=by cases t <;> simp_all [leafN]
 have hrw:rowsN .own σ.nxt [t] = []:=by cases t <;> simp_all [rowsN]
 refine ud (n:=σ.nxt) (pL (v:=.l (.t t)) hpc hden hcap (by simp[valsN,oneV,hlf]) (fun _ _=>kS hfr _ (by omega)) ⟨rfl,?_⟩)
 have:({ σ.answer [(false,[t])] with nxt:=σ.nxt }:St) = σ:=by
  unfold St.answer
  simp only[flatA,List.flatMap_cons,List.flatMap_nil,List.append_nil,hrw,List.nil_append]
 rw[this]
 exact hK
theorem aF {f:FuncId} {vs:List V} {t:T} {c:Prop} {G:Bool} {d:Option Nat} {next:St → Prop} (h:G = true → Quiet P f vs t σ) (hc:G = true → c) (hK:next (σ.set d G (.l (.t t)))):CallG P false f vs c G d next σ:=by
 cases G with
 | true=>exact aj (hc rfl) (h rfl _ hK)
 | false=>exact ⟨σ,.l (.t t),(fun _ _ _ _ _ g R=>⟨g,R⟩),fun _=>hK,fun e=>by cases e⟩
end
def idxOf {α:Type} (p:α → Bool) (xs:List α):Int:=match xs.findIdx? p with
 | some i=>i
 | none=>-1
theorem cl {α:Type} {p:α → Bool} {xs:List α} (h:∀ j,(hj:j < xs.length) → p xs[j] = false):idxOf p xs = -1:=by
 have:xs.findIdx? p = none:=by
  rw[List.findIdx?_eq_none_iff];intro x hx;obtain ⟨j,hj,rfl⟩:=List.getElem_of_mem hx;exact h j hj
 simp[idxOf,this]
theorem cm {α:Type} {p:α → Bool} {xs:List α} {i:Nat} (h:∀ j,(hj:j < xs.length) → j < i → p xs[j] = false) (hi:i < xs.length) (hp:p xs[i] = true):idxOf p xs = i:=by
 have:xs.findIdx? p = some i:=by
  rw[List.findIdx?_eq_some_iff_getElem];exact ⟨hi,hp,fun j hj=>by simp[h j (by omega) hj]⟩
 simp[idxOf,this]
theorem dd {α:Type} (p:α → Bool) (xs:List α):decide (0 ≤ idxOf p xs) = xs.any p:=by
 cases h:xs.findIdx? p with
 | none =>
  rw[List.findIdx?_eq_none_iff] at h;(have h2:xs.findIdx? p = none:=by rw[List.findIdx?_eq_none_iff];exact h);(have:xs.any p = false:=by simpa using h);simp[idxOf,h2,this]
 | some i =>
  have h2:=h;rw[List.findIdx?_eq_some_iff_getElem] at h;obtain ⟨hi,hp,_⟩:=h;have:xs.any p = true:=List.any_eq_true.2 ⟨_,List.getElem_mem hi,hp⟩;simp[idxOf,h2,this]
attribute [go_sem] St.startB capRows capVals capsDen
end Go.Tw
