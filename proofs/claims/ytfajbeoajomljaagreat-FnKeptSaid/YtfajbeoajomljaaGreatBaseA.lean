/- The layer: trees, states, rules; plain functions. -/
import Derived.Calls
import Derived.RowKit3
import Derived.Laws.AppendOwn
import Derived.Laws.Entries
import Derived.Laws.Slices
import Derived.Laws.BytesArg
import Derived.Laws.Small
import Derived.Laws.StructEq
import Derived.ChangeKeysEq
set_option linter.unusedSimpArgs false
set_option linter.unusedVariables false
set_option linter.unnecessarySimpa false
namespace Go.Tw
inductive T where
 | int (k:IntKind) (n:Int)
 | bool (b:Bool)
 | str (s:ByteArray)
 | sl (z:Nat) (es:List (List T))
 | hole
abbrev Els:=List (List T)
abbrev Blks:=Nat → Prop
structure Lies (w:World) (o:Bool) (a:Addr) (cap z:Nat) (es:Els) (cs:Array Value):Prop where
 blk:∃ e fr,w.heap[a.block]? = some (.cells cs e fr) ∧ (o = true → fr = (0,0))
 spot:a.spot = none
 len:es.length ≤ cap
 room:a.off + cap * z ≤ cs.size
 each:∀ x ∈ es,x.length = z
inductive Rep (w:World):Bool → Value → T → Blks → Prop
 | int {o:Bool} {k:IntKind} {n:Int} {F:Blks}:Rep w o (.int k n) (.int k n) F
 | bool {o:Bool} {b:Bool} {F:Blks}:Rep w o (.bool b) (.bool b) F
 | str {o:Bool} {s:ByteArray} {F:Blks}:Rep w o (.string s) (.str s) F
 | hole {o:Bool} {v:Value} {F:Blks} (h:v.oneCell' = true):Rep w o v .hole F
 | nils {o:Bool} {z:Nat} {F:Blks}:Rep w o (.slice none 0 0) (.sl z []) F
 | bare {o:Bool} {a:Addr} {z:Nat} {F:Blks}:Rep w o (.slice (some a) 0 0) (.sl z []) F
 | sl {o:Bool} {a:Addr} {cap z:Nat} {es:Els} {F:Blks} {cs:Array Value} (f:Nat → Nat → Blks)
   (hl:Lies w o a cap z es cs) (hF:F a.block) (hsub:∀ i j b,f i j b → F b)
   (hd:o = true → ∀ i j,¬ f i j a.block) (hdd:o = true → ∀ i j i' j' b,f i j b → f i' j' b → i = i' ∧ j = j')
   (hr:∀ i j x c,es[i]? = some x → x[j]? = some c → Rep w o (cs.getD (a.off + i * z + j) undef) c (f i j)) :
   Rep w o (.slice (some a) es.length cap) (.sl z es) F
theorem Rep.mono {w:World} {o:Bool} {v:Value} {t:T} {F:Blks} (h:Rep w o v t F):∀ {G:Blks},(∀ b,F b → G b) → Rep w o v t G:=by
 cases h with
 | int=>intro G _;exact .int
 | bool=>intro G _;exact .bool
 | str=>intro G _;exact .str
 | hole h=>intro G _;exact .hole h
 | nils=>intro G _;exact .nils
 | bare=>intro G _;exact .bare
 | sl f hl hF hsub hd hdd hr=>intro G hG;exact .sl f hl (hG _ hF) (fun i j b h=>hG _ (hsub i j b h)) hd hdd hr
theorem Lies.frame {w w':World} {o:Bool} {a:Addr} {cap z:Nat} {es:Els} {cs:Array Value} (h:Lies w o a cap z es cs) (hw:w'.heap[a.block]? = w.heap[a.block]?):Lies w' o a cap z es cs :=
 ⟨by rw[hw];exact h.blk,h.spot,h.len,h.room,h.each⟩
theorem Rep.frame {w w':World} {o:Bool} {v:Value} {t:T} {F:Blks} (h:Rep w o v t F) (hw:∀ b,F b → w'.heap[b]? = w.heap[b]?):Rep w' o v t F:=by
 induction h with
 | int=>exact .int
 | bool=>exact .bool
 | str=>exact .str
 | hole h=>exact .hole h
 | nils=>exact .nils
 | bare=>exact .bare
 | sl f hl hF hsub hd hdd hr ih=>exact .sl f (hl.frame (hw _ hF)) hF hsub hd hdd (fun i j x c hx hc=>ih i j x c hx hc fun b hb=>hw b (hsub i j b hb))
theorem Rep.lent {w:World} {o:Bool} {v:Value} {t:T} {F:Blks} (h:Rep w o v t F):Rep w false v t F:=by
 induction h with
 | int=>exact .int
 | bool=>exact .bool
 | str=>exact .str
 | hole h=>exact .hole h
 | nils=>exact .nils
 | bare=>exact .bare
 | sl f hl hF hsub hd hdd hr ih =>
  exact .sl f ⟨let ⟨e,fr,h,_⟩:=hl.blk;⟨e,fr,h,fun h=>by cases h⟩,hl.spot,hl.len,hl.room,hl.each⟩ hF hsub (fun h=>by cases h) (fun h=>by cases h) ih
theorem Rep.one {w:World} {o:Bool} {v:Value} {t:T} {F:Blks} (h:Rep w o v t F):v.oneCell' = true:=by
 cases h with
 | hole h=>exact h
 | _=>rfl
theorem Rep.lt {w:World} {o:Bool} {v:Value} {t:T} {F:Blks} (h:Rep w o v t F):∃ G:Blks,Rep w o v t G ∧ (∀ b,G b → F b) ∧ ∀ b,G b → b < w.heap.size:=by
 induction h with
 | int=>exact ⟨fun _=>False,.int,fun _ h=>h.elim,fun _ h=>h.elim⟩
 | bool=>exact ⟨fun _=>False,.bool,fun _ h=>h.elim,fun _ h=>h.elim⟩
 | str=>exact ⟨fun _=>False,.str,fun _ h=>h.elim,fun _ h=>h.elim⟩
 | hole h=>exact ⟨fun _=>False,.hole h,fun _ h=>h.elim,fun _ h=>h.elim⟩
 | nils=>exact ⟨fun _=>False,.nils,fun _ h=>h.elim,fun _ h=>h.elim⟩
 | bare=>exact ⟨fun _=>False,.bare,fun _ h=>h.elim,fun _ h=>h.elim⟩
 | @sl a cap z es F cs f hl hF hsub hd hdd hr ih =>
  refine ⟨fun b=>F b ∧ b < w.heap.size,.sl (fun i j b=>f i j b ∧ b < w.heap.size) hl ⟨hF,?_⟩ (fun i j b h=>⟨hsub i j b h.1,h.2⟩) (fun ho i j h=>hd ho i j h.1) (fun ho i j i' j' b h h'=>hdd ho i j i' j' b h.1 h'.1) ?_,fun b h=>h.1,fun b h=>h.2⟩
  ·obtain ⟨e,fr,h,_⟩:=hl.blk;exact (Array.getElem?_eq_some_iff.1 h).1
  ·intro i j x c hx hc;obtain ⟨G,hG,hs,hlt⟩:=ih i j x c hx hc;exact hG.mono fun b hb=>⟨hs b hb,hlt b hb⟩
abbrev Path:=List (Nat × Nat)
def T.at?:T → Path → Option T
 | t,[]=>some t
 | .sl _ es,(i,j) :: p=>match es[i]? with
  | some x=>match x[j]? with
   | some c=>c.at? p
   | none=>none
  | none=>none
 | _,_ :: _=>none
def T.put:T → Path → T → T
 | _,[],s=>s
 | .sl z es,(i,j) :: p,s=>match es[i]? with
  | some x=>match x[j]? with
   | some c=>.sl z (es.set i (x.set j (c.put p s)))
   | none=>.sl z es
  | none=>.sl z es
 | t,_ :: _,_=>t
def valAt (w:World):Value → T → Path → Option Value
 | v,_,[]=>some v
 | .slice (some a) _ _,.sl z es,(i,j) :: p=>match es[i]? with
  | some x=>match x[j]? with
   | some c=>match w.cell? (a.add (i * z + j)) with
    | some u=>valAt w u c p
    | none=>none
   | none=>none
  | none=>none
 | _,_,_ :: _=>none
theorem Addr.add_plain {a:Addr} (h:a.spot = none) (n:Nat):a.add n = ⟨a.block,a.off + n,none⟩:=by
 unfold Addr.add;split
 ·rename_i hn;subst hn;cases a;simp_all
 ·rfl
theorem qU {w:World} {a:Addr} {cs:Array Value} (hs:a.spot = none) (hb:∃ e fr,w.heap[a.block]? = some (.cells cs e fr) ∧ True) (n:Nat) (hn:a.off + n < cs.size):w.cell? (a.add n) = some (cs.getD (a.off + n) undef):=by
 obtain ⟨e,fr,hb,_⟩:=hb;rw[Addr.add_plain hs];simp[World.cell?,hb,Array.getElem?_eq_getElem hn,Array.getD_eq_getD_getElem?]
theorem idx_lt {i j z n cap:Nat} (hi:i < n) (hn:n ≤ cap) (hj:j < z):i * z + j < cap * z:=by
 (have h1:i * z + j < (i + 1) * z:=by rw[Nat.add_mul,Nat.one_mul];omega);exact Nat.lt_of_lt_of_le h1 (Nat.mul_le_mul_right z (by omega))
theorem Lies.idx {w:World} {o:Bool} {a:Addr} {cap z:Nat} {es:Els} {cs:Array Value} (h:Lies w o a cap z es cs) {i j:Nat} {x:List T} {c:T} (hx:es[i]? = some x) (hc:x[j]? = some c) :
  i < es.length ∧ j < z ∧ a.off + (i * z + j) < cs.size:=by
 have hi:i < es.length:=(List.getElem?_eq_some_iff.1 hx).1
 have hz:x.length = z:=h.each x (List.mem_of_getElem? hx)
 have hj:j < z:=hz ▸ (List.getElem?_eq_some_iff.1 hc).1
 have:=idx_lt hi h.len hj
 have:=h.room
 exact ⟨hi,hj,by omega⟩
theorem Lies.cell {w:World} {o:Bool} {a:Addr} {cap z:Nat} {es:Els} {cs:Array Value} (h:Lies w o a cap z es cs) {i j:Nat} {x:List T} {c:T} (hx:es[i]? = some x) (hc:x[j]? = some c) :
  w.cell? (a.add (i * z + j)) = some (cs.getD (a.off + i * z + j) undef):=by
 obtain ⟨e,fr,hb,_⟩:=h.blk
 rw[qU h.spot ⟨e,fr,hb,trivial⟩ _ (h.idx hx hc).2.2,Nat.add_assoc]
theorem Rep.focus_ro {w:World}:∀ {p:Path} {v:Value} {t s:T} {F:Blks} {o:Bool},Rep w o v t F → t.at? p = some s → ∃ u,valAt w v t p = some u ∧ Rep w o u s F
 | [],v,t,s,F,o,h,ht=>by
  simp only[T.at?,Option.some.injEq] at ht
  subst ht
  exact ⟨v,by simp[valAt],h⟩
 | (i,j) :: p,v,t,s,F,o,h,ht=>by
  cases h with
  | sl f hl hF hsub hd hdd hr =>
   simp only[T.at?] at ht
   split at ht
   ·rename_i x hx
    split at ht
    ·rename_i c hc
     obtain ⟨u,hu,hru⟩:=Rep.focus_ro (hr i j x c hx hc) ht
     refine ⟨u,?_,hru.mono fun b hb=>hsub i j b hb⟩
     simp only[valAt,hx,hc,hl.cell hx hc]
     exact hu
    ·cases ht
   ·cases ht
  | nils=>simp[T.at?] at ht
  | bare=>simp[T.at?] at ht
  | _=>simp[T.at?] at ht
theorem dR {w w':World}:∀ {q:Path} {o:Bool} {v:Value} {t s:T} {F:Blks},Rep w o v t F → (∀ b,F b → w'.heap[b]? = w.heap[b]?) → t.at? q = some s → valAt w' v t q = valAt w v t q
 | [],_,_,_,_,_,_,_,_=>by simp[valAt]
 | (i,j) :: q,o,v,t,s,F,h,hw,ht=>by
  cases h with
  | sl f hl hF hsub hd hdd hr =>
   simp only[T.at?] at ht
   split at ht
   ·rename_i x hx
    split at ht
    ·rename_i c hc
     simp only[valAt,hx,hc,hl.cell hx hc,(hl.frame (hw _ hF)).cell hx hc]
     exact dR (hr i j x c hx hc) (fun b hb=>hw b (hsub i j b hb)) ht
    ·cases ht
   ·cases ht
  | nils=>simp[T.at?] at ht
  | bare=>simp[T.at?] at ht
  | _=>simp[T.at?] at ht
def thru:Path → Path → Bool
 | [],[]=>false
 | [],_ :: _=>true
 | _ :: _,[]=>false
 | (_,j) :: p,(_,j') :: q=>j == j' && thru p q
theorem Rep.head {w:World} {o:Bool} {u:Value} {z:Nat} {es:Els} {F:Blks} (h:Rep w o u (.sl z es) F):∃ oa cap,u = .slice oa es.length cap:=by
 cases h
 case nils=>exact ⟨_,_,rfl⟩
 case bare=>exact ⟨_,_,rfl⟩
 case sl=>exact ⟨_,_,rfl⟩
theorem Rep.sl_len {w w':World} {o o':Bool} {u:Value} {z z':Nat} {es es':Els} {F G:Blks} (h:Rep w o u (.sl z es) F) (h':Rep w' o' u (.sl z' es') G):es'.length = es.length:=by
 obtain ⟨oa,cap,e⟩:=h.head;obtain ⟨oa',cap',e'⟩:=h'.head;rw[e] at e';(injection e' with _ e2);exact e2.symm
theorem Rep.focus {w:World}:∀ {p:Path} {v:Value} {t s:T} {F:Blks},Rep w true v t F → t.at? p = some s →
  ∃ u G,valAt w v t p = some u ∧ Rep w true u s G ∧ (∀ b,G b → F b) ∧
   ∀ (w':World) (s':T) (H:Blks),(∀ b,F b → ¬ G b → w'.heap[b]? = w.heap[b]?) → Rep w' true u s' H → (∀ b,H b → G b ∨ ¬ F b) →
    Rep w' true v (t.put p s') (fun b=>(F b ∧ ¬ G b) ∨ H b) ∧ valAt w' v (t.put p s') p = some u ∧
     ∀ (q:Path),thru p q = false → (∃ z e e',s = .sl z e ∧ s' = .sl z e') → ∀ zq eq,t.at? q = some (.sl zq eq) →
      ∃ eq',(t.put p s').at? q = some (.sl zq eq') ∧ eq'.length = eq.length ∧ valAt w' v (t.put p s') q = valAt w v t q
 | [],v,t,s,F,h,ht=>by
  simp only[T.at?,Option.some.injEq] at ht
  subst ht
  refine ⟨v,F,by simp[valAt],h,fun b h=>h,fun w' s' H hw hr hh=>⟨?_,by simp[valAt],?_⟩⟩
  ·simp only[T.put]
   exact hr.mono fun b hb=>Or.inr hb
  ·intro q hq hs zq eq hat
   cases q with
   | nil =>
    obtain ⟨z,e,e',rfl,rfl⟩:=hs
    simp only[T.at?,Option.some.injEq,T.sl.injEq] at hat
    obtain ⟨rfl,rfl⟩:=hat
    exact ⟨e',rfl,h.sl_len hr,by simp[valAt]⟩
   | cons c q=>simp[thru] at hq
 | (i,j) :: p,v,t,s,F,h,ht=>by
  cases h with
  | @sl a cap z es F cs f hl hF hsub hd hdd hr =>
   simp only[T.at?] at ht
   split at ht
   ·rename_i x hx
    split at ht
    ·rename_i c hc
     obtain ⟨u,G,hu,hru,hsG,hput⟩:=Rep.focus (hr i j x c hx hc) ht
     refine ⟨u,G,?_,hru,fun b hb=>hsub i j b (hsG b hb),?_⟩
     ·simp only[valAt,hx,hc,hl.cell hx hc]
      exact hu
     ·intro w' s' H hw hrs hH
      have hblk:w'.heap[a.block]? = w.heap[a.block]?:=hw _ hF fun hG=>hd rfl i j (hsG _ hG)
      have hl':=hl.frame hblk
      have hH':∀ b,H b → G b ∨ ¬ f i j b:=fun b hb=>(hH b hb).imp id fun hn hf=>hn (hsub i j b hf)
      obtain ⟨hr1,hv1,hk1⟩:=hput w' s' H (fun b hf hg=>hw b (hsub i j b hf) hg) hrs hH'
      have hil:i < es.length:=(hl.idx hx hc).1
      have hjl:j < x.length:=(List.getElem?_eq_some_iff.1 hc).1
      have hlset:Lies w' true a cap z (es.set i (x.set j (c.put p s'))) cs :=
       ⟨hl'.blk,hl'.spot,by simpa using hl'.len,hl'.room,fun y hy=>by
        rcases List.mem_or_eq_of_mem_set hy with hy | rfl
        ·exact hl'.each y hy
        ·simpa using hl'.each x (List.mem_of_getElem? hx)⟩
      refine ⟨?_,?_,?_⟩
      ·simp only[T.put,hx,hc]
       have hlen:(es.set i (x.set j (c.put p s'))).length = es.length:=by simp
       rw[← hlen]
       refine .sl (fun i' j' b=>if i' = i ∧ j' = j then ((f i j b ∧ ¬ G b) ∨ H b) else f i' j' b) hlset (Or.inl ⟨hF,fun hG=>hd rfl i j (hsG _ hG)⟩) ?_ ?_ ?_ ?_
       ·intro i' j' b hb
        split at hb
        ·exact hb.imp (fun ⟨h1,h2⟩=>⟨hsub i j b h1,h2⟩) id
        ·rename_i hne
         exact Or.inl ⟨hsub i' j' b hb,fun hG=>hne (hdd rfl i' j' i j b hb (hsG b hG))⟩
       ·intro _ i' j' hb
        split at hb
        ·rcases hb with hb | hb
         ·exact hd rfl i j hb.1
         ·rcases hH _ hb with hg | hg
          ·exact hd rfl i j (hsG _ hg)
          ·exact hg hF
        ·exact hd rfl i' j' hb
       ·intro _ i1 j1 i2 j2 b h1 h2
        split at h1 <;> split at h2
        ·rename_i e1 e2;exact ⟨e1.1.trans e2.1.symm,e1.2.trans e2.2.symm⟩
        ·rename_i e1 e2
         exfalso
         rcases h1 with h1 | h1
         ·exact e2 (hdd rfl i2 j2 i j b h2 h1.1)
         ·rcases hH _ h1 with hg | hg
          ·exact e2 (hdd rfl i2 j2 i j b h2 (hsG _ hg))
          ·exact hg (hsub i2 j2 b h2)
        ·rename_i e1 e2
         exfalso
         rcases h2 with h2 | h2
         ·exact e1 (hdd rfl i1 j1 i j b h1 h2.1)
         ·rcases hH _ h2 with hg | hg
          ·exact e1 (hdd rfl i1 j1 i j b h1 (hsG _ hg))
          ·exact hg (hsub i1 j1 b h1)
        ·exact hdd rfl i1 j1 i2 j2 b h1 h2
       ·intro i' j' y d hy hyd
        by_cases hi':i' = i
        ·subst hi'
         rw[List.getElem?_set_self hil] at hy
         cases hy
         by_cases hj':j' = j
         ·subst hj'
          rw[List.getElem?_set_self hjl] at hyd
          cases hyd
          simpa using hr1
         ·rw[List.getElem?_set_ne (Ne.symm hj')] at hyd
          have:=(hr i' j' x d hx hyd).frame (w':=w') fun b hb=>hw b (hsub _ _ b hb) fun hG=>hj' (hdd rfl _ _ _ _ b hb (hsG b hG)).2
          simpa [hj'] using this
        ·rw[List.getElem?_set_ne (Ne.symm hi')] at hy
         have:=(hr i' j' y d hy hyd).frame (w':=w') fun b hb=>hw b (hsub _ _ b hb) fun hG=>hi' (hdd rfl _ _ _ _ b hb (hsG b hG)).1
         simpa [hi'] using this
      ·simp only[T.put,hx,hc,valAt]
       rw[List.getElem?_set_self hil]
       simp only[]
       rw[List.getElem?_set_self hjl]
       simp only[]
       rw[hl'.cell hx hc]
       exact hv1
      ·intro q hq hs zq eq hat
       cases q with
       | nil =>
        simp only[T.at?,Option.some.injEq,T.sl.injEq] at hat
        obtain ⟨rfl,rfl⟩:=hat
        refine ⟨es.set i (x.set j (c.put p s')),by simp only[T.put,hx,hc,T.at?],by simp,by simp only[valAt]⟩
       | cons ij q =>
        obtain ⟨i',j'⟩:=ij
        simp only[T.at?] at hat
        split at hat
        ·rename_i y hy
         split at hat
         ·rename_i d hyd
          simp only[T.put,hx,hc,T.at?]
          by_cases hij:i' = i ∧ j' = j
          ·obtain ⟨rfl,rfl⟩:=hij
           rw[hx] at hy
           cases hy
           rw[hc] at hyd
           cases hyd
           simp only[thru,beq_self_eq_true,Bool.true_and] at hq
           obtain ⟨eq',h1,h2,h3⟩:=hk1 q hq hs zq eq hat
           refine ⟨eq',?_,h2,?_⟩
           ·rw[List.getElem?_set_self hil]
            simp only[]
            rw[List.getElem?_set_self hjl]
            simpa using h1
           ·simp only[valAt]
            rw[List.getElem?_set_self hil]
            simp only[]
            rw[List.getElem?_set_self hjl]
            simp only[hx,hc]
            rw[hl'.cell hx hc,hl.cell hx hc]
            exact h3
          ·have hsame:((es.set i (x.set j (c.put p s')))[i']?.bind fun y=>y[j']?) = some d:=by
            by_cases hi':i' = i
            ·subst hi'
             have hj':¬ j' = j:=fun h=>hij ⟨rfl,h⟩
             rw[hx] at hy
             cases hy
             rw[List.getElem?_set_self hil]
             simp only[Option.bind_some]
             rw[List.getElem?_set_ne (Ne.symm hj')]
             exact hyd
            ·rw[List.getElem?_set_ne (Ne.symm hi'),hy]
             simpa using hyd
           have hfr:=dR (w':=w') (hr i' j' y d hy hyd) (fun b hb=>hw b (hsub _ _ b hb) fun hG=>hij (hdd rfl _ _ _ _ b hb (hsG b hG))) hat
           obtain ⟨y',hy',hyd'⟩:=Option.bind_eq_some_iff.1 hsame
           refine ⟨eq,?_,rfl,?_⟩
           ·simp only[hy',hyd']
            exact hat
           ·simp only[valAt,hy',hyd',hy,hyd]
            rw[hl'.cell hy hyd,hl.cell hy hyd]
            exact hfr
         ·cases hat
        ·cases hat
    ·cases ht
   ·cases ht
  | nils=>simp[T.at?] at ht
  | bare=>simp[T.at?] at ht
  | _=>simp[T.at?] at ht
inductive L where
 | t (x:T)
 | ref (r:Nat) (p:Path) (z off len:Nat)
 | nil
 | ptr (b j:Nat)
 | ept (r:Nat) (p:Path) (i j e:Nat)
 | npt
 | fn (f:FuncId) (caps:List Nat)
 | undef
inductive V where
 | l (x:L)
 | agg (xs:List L)
 | tup (vs:List (Bool × List L))
inductive Pm where
 | own | top | ro
 deriving DecidableEq
structure Row where
 pm:Pm
 z:Nat
 es:Els
def get {α:Type}:List (Nat × α) → Nat → Option α
 | [],_=>none
 | (k,x) :: r,n=>if n = k then some x else get r n
structure St where
 env:List (Nat × Bool × V)
 box:List (Nat × List L)
 row:List (Nat × Row)
 nxt:Nat
 sav:List (List (Nat × Bool × V) × Act)
structure Gh where
 bx:Nat → Nat
 rw:Nat → Value
 fp:Nat → Blks
abbrev Row.t (x:Row):T:=.sl x.z x.es
def View (u:Value) (z off len:Nat) (v:Value):Prop :=
 ∃ oa n cap oa',u = .slice oa n cap ∧ v = .slice oa' len (cap - off) ∧ (cap = off ∨ oa' = oa.map fun a=>a.add (off * z))
def RepL (w:World) (g:Gh) (σ:St):L → Value → Prop
 | .t x,v=>Rep w false v x fun _=>False
 | .ref r p z off len,v=>∃ row es u,get σ.row r = some row ∧ row.t.at? p = some (.sl z es) ∧ valAt w (g.rw r) row.t p = some u ∧ off + len ≤ es.length ∧ View u z off len v
 | .nil,v=>∃ oa,v = .slice oa 0 0
 | .ptr b j,v=>(get σ.box b).isSome ∧ v = .pointer (some ⟨g.bx b,j,none⟩)
 | .ept r p i j _,v=>∃ row z es a n cap,get σ.row r = some row ∧ row.t.at? p = some (.sl z es) ∧ valAt w (g.rw r) row.t p = some (.slice (some a) n cap) ∧ i < es.length ∧ a.spot = none ∧
   v = .pointer (some ⟨a.block,a.off + i * z + j,none⟩)
 | .npt,v=>v = .pointer none
 | .fn f caps,v=>(∀ b ∈ caps,(get σ.box b).isSome) ∧ v = .func (.func f) #[] (caps.map fun b=>Value.pointer (some ⟨g.bx b,0,none⟩)).toArray
 | .undef,v=>v.oneCell' = true
def RepLs (w:World) (g:Gh) (σ:St):List L → List Value → Prop
 | [],[]=>True
 | l :: ls,v :: vs=>RepL w g σ l v ∧ RepLs w g σ ls vs
 | _,_=>False
def RepW (w:World) (g:Gh) (σ:St) (isAgg:Bool) (ls:List L) (v:Value):Prop :=
 if isAgg then ∃ vs,v = .agg vs.toArray ∧ RepLs w g σ ls vs else ∃ l,ls = [l] ∧ RepL w g σ l v
def RepWs (w:World) (g:Gh) (σ:St):List (Bool × List L) → List Value → Prop
 | [],[]=>True
 | x :: xs,v :: vs=>RepW w g σ x.1 x.2 v ∧ RepWs w g σ xs vs
 | _,_=>False
def RepV (w:World) (g:Gh) (σ:St):V → Value → Prop
 | .l x,v=>RepL w g σ x v
 | .agg xs,v=>∃ vs,v = .agg vs.toArray ∧ RepLs w g σ xs vs
 | .tup xs,v=>∃ vs,v = .tuple vs.toArray ∧ RepWs w g σ xs vs
def RepTop (w:World) (v:Value) (z:Nat) (es:Els) (F N:Blks):Prop :=
 (es = [] ∧ ∃ oa,v = .slice oa 0 0) ∨
 ∃ a cap cs,v = .slice (some a) es.length cap ∧ Lies w true a cap z es cs ∧ F a.block ∧
  ∀ i j x c,es[i]? = some x → x[j]? = some c → Rep w false (cs.getD (a.off + i * z + j) undef) c N
def Owned (g:Gh) (σ:St):Blks:=fun b =>
 (∃ k ls,get σ.box k = some ls ∧ g.bx k = b) ∨ (∃ r row,get σ.row r = some row ∧ row.pm ≠ .ro ∧ g.fp r b)
structure Mem (w:World) (g:Gh) (σ:St):Prop where
 box:∀ k ls,get σ.box k = some ls → ∃ cs e,w.heap[g.bx k]? = some (.cells cs e (0,0)) ∧ RepLs w g σ ls cs.toList
 own:∀ r row,get σ.row r = some row → row.pm = .own → Rep w true (g.rw r) row.t (g.fp r)
 top:∀ r row,get σ.row r = some row → row.pm = .top → RepTop w (g.rw r) row.z row.es (g.fp r) fun b=>¬ Owned g σ b
 ro:∀ r row,get σ.row r = some row → row.pm = .ro → Rep w false (g.rw r) row.t fun b=>¬ Owned g σ b
 bb:∀ k k' ls ls',get σ.box k = some ls → get σ.box k' = some ls' → g.bx k = g.bx k' → k = k'
 br:∀ k ls r row,get σ.box k = some ls → get σ.row r = some row → row.pm ≠ .ro → ¬ g.fp r (g.bx k)
 rr:∀ r r' row row' b,get σ.row r = some row → get σ.row r' = some row' → row.pm ≠ .ro → row'.pm ≠ .ro → g.fp r b → g.fp r' b → r = r'
 lt:∀ b,Owned g σ b → b < w.heap.size
def L.rowOf:L → Option (Nat × Path)
 | .ref r p _ _ _=>some (r,p)
 | .ept r p _ _ _=>some (r,p)
 | _=>none
def L.boxOf:L → List Nat
 | .ptr b _=>[b]
 | .fn _ caps=>caps
 | _=>[]
def Stays (w w':World) (g g':Gh) (σ σ':St) (r:Nat) (p:Path):Prop :=
 ∀ row,get σ.row r = some row → ∃ row',get σ'.row r = some row' ∧ g'.rw r = g.rw r ∧
  ∀ z es u,row.t.at? p = some (.sl z es) → valAt w (g.rw r) row.t p = some u →
   ∃ es',row'.t.at? p = some (.sl z es') ∧ es'.length = es.length ∧ valAt w' (g'.rw r) row'.t p = some u
def StaysL (w w':World) (g g':Gh) (σ σ':St) (l:L):Prop :=
 (∀ r p,l.rowOf = some (r,p) → Stays w w' g g' σ σ' r p) ∧ ∀ b ∈ l.boxOf,(get σ.box b).isSome → (get σ'.box b).isSome ∧ g'.bx b = g.bx b
section
variable {w w':World} {g g':Gh} {σ σ':St}
theorem RepL.stays {l:L} {v:Value} (h:RepL w g σ l v) (hs:StaysL w w' g g' σ σ' l):RepL w' g' σ' l v:=by
 obtain ⟨hr,hb⟩:=hs;cases l with
 | t x =>
  simp only[RepL] at h ⊢;exact h.frame fun b hb=>hb.elim
 | ref r p z off len =>
  obtain ⟨row,es,u,h1,h2,h3,h4,h5⟩:=h;obtain ⟨row',e1,e2,e3⟩:=hr r p rfl row h1;obtain ⟨es',f1,f2,f3⟩:=e3 z es u h2 h3;exact ⟨row',es',u,e1,f1,f3,by rw[f2];exact h4,h5⟩
 | nil=>exact h
 | ptr b j =>
  obtain ⟨h1,h2⟩:=h;obtain ⟨h3,h4⟩:=hb b (by simp[L.boxOf]) h1;exact ⟨h3,by rw[h4];exact h2⟩
 | ept r p i j d =>
  obtain ⟨row,z,es,a,n,cap,h1,h2,h3,h4,h5,h6⟩:=h;obtain ⟨row',e1,e2,e3⟩:=hr r p rfl row h1;obtain ⟨es',f1,f2,f3⟩:=e3 z es _ h2 h3;exact ⟨row',z,es',a,n,cap,e1,f1,f3,by rw[f2];exact h4,h5,h6⟩
 | npt=>exact h
 | fn f caps =>
  obtain ⟨h1,h2⟩:=h;refine ⟨fun b hc=>(hb b hc (h1 b hc)).1,?_⟩;rw[h2];congr 2;exact List.map_congr_left fun b hc=>by rw[(hb b hc (h1 b hc)).2]
 | undef=>exact h
theorem RepLs.stays:∀ {ls:List L} {vs:List Value},RepLs w g σ ls vs → (∀ l ∈ ls,StaysL w w' g g' σ σ' l) → RepLs w' g' σ' ls vs
 | [],[],_,_=>trivial
 | l :: ls,v :: vs,h,hr=>⟨h.1.stays (hr l (by simp)),RepLs.stays h.2 fun x hx=>hr x (by simp[hx])⟩
 | [],_ :: _,h,_=>h.elim
 | _ :: _,[],h,_=>h.elim
def V.leaves:V → List L
 | .l x=>[x]
 | .agg xs=>xs
 | .tup vs=>vs.flatMap (·.2)
theorem RepW.stays {a:Bool} {ls:List L} {v:Value} (h:RepW w g σ a ls v) (hr:∀ l ∈ ls,StaysL w w' g g' σ σ' l):RepW w' g' σ' a ls v:=by
 unfold RepW at *;cases a with
 | true=>simp only[if_true] at *;obtain ⟨vs,e,h⟩:=h;exact ⟨vs,e,h.stays hr⟩
 | false=>simp only[Bool.false_eq_true,if_false] at *;obtain ⟨l,e,h⟩:=h;subst e;exact ⟨l,rfl,h.stays (hr l (by simp))⟩
theorem RepWs.stays:∀ {xs:List (Bool × List L)} {vs:List Value},RepWs w g σ xs vs → (∀ x ∈ xs,∀ l ∈ x.2,StaysL w w' g g' σ σ' l) → RepWs w' g' σ' xs vs
 | [],[],_,_=>trivial
 | x :: xs,v :: vs,h,hr=>⟨h.1.stays (hr x (by simp)),RepWs.stays h.2 fun y hy=>hr y (by simp[hy])⟩
 | [],_ :: _,h,_=>h.elim
 | _ :: _,[],h,_=>h.elim
theorem RepV.stays {x:V} {v:Value} (h:RepV w g σ x v) (hr:∀ l ∈ x.leaves,StaysL w w' g g' σ σ' l):RepV w' g' σ' x v:=by
 cases x with
 | l x=>exact RepL.stays h (hr x (by simp[V.leaves]))
 | agg xs=>obtain ⟨vs,e,h⟩:=h;exact ⟨vs,e,h.stays hr⟩
 | tup xs=>obtain ⟨vs,e,h⟩:=h;exact ⟨vs,e,h.stays fun x hx l hl=>hr l (by simp only[V.leaves,List.mem_flatMap];exact ⟨x,hx,hl⟩)⟩
end
theorem Stays.of_same {w w':World} {g g':Gh} {σ:St} (m:Mem w g σ) {σ':St} {r:Nat} {p:Path}
  (hrow:∀ row,get σ.row r = some row → get σ'.row r = some row) (hg:∀ row,get σ.row r = some row → g'.rw r = g.rw r)
  (hw:∀ row,get σ.row r = some row → ∀ b,(row.pm ≠ .ro → g.fp r b ∨ (row.pm = .top ∧ ¬ Owned g σ b)) → (row.pm = .ro → ¬ Owned g σ b) → b < w.heap.size → w'.heap[b]? = w.heap[b]?) :
  Stays w w' g g' σ σ' r p:=by
 intro row h
 refine ⟨row,hrow row h,hg row h,fun z es u h1 h2=>⟨es,h1,rfl,?_⟩⟩
 rw[hg row h,← h2]
 cases hp:row.pm with
 | own =>
  obtain ⟨G,hG,hs,hlt⟩:=(m.own r row h hp).lt
  exact dR hG (fun b hb=>hw row h b (fun _=>Or.inl (hs b hb)) (fun e=>by simp[hp] at e) (hlt b hb)) h1
 | ro =>
  obtain ⟨G,hG,hs,hlt⟩:=(m.ro r row h hp).lt
  exact dR hG (fun b hb=>hw row h b (fun e=>absurd hp e) (fun _=>hs b hb) (hlt b hb)) h1
 | top =>
  rcases m.top r row h hp with ⟨e,oa,hv⟩ | ⟨a,cap,cs,hv,hl,hF,hc⟩
  ·cases p with
   | nil=>simp[valAt]
   | cons ij p=>obtain ⟨i,j⟩:=ij;simp[e,T.at?] at h1
  ·cases p with
   | nil=>simp[valAt]
   | cons ij p =>
    obtain ⟨i,j⟩:=ij
    simp only[T.at?] at h1
    split at h1
    ·rename_i x hx
     split at h1
     ·rename_i c hcc
      have hab:a.block < w.heap.size:=by obtain ⟨e,fr,hb,_⟩:=hl.blk;exact (Array.getElem?_eq_some_iff.1 hb).1
      have hl':=hl.frame (w':=w') (hw row h _ (fun _=>Or.inl hF) (fun e=>by simp[hp] at e) hab)
      obtain ⟨G,hG,hs,hlt⟩:=(hc i j x c hx hcc).lt
      simp only[Row.t,valAt,hv,hx,hcc,hl.cell hx hcc,hl'.cell hx hcc]
      exact dR hG (fun b hb=>hw row h b (fun _=>Or.inr ⟨hp,hs b hb⟩) (fun e=>by simp[hp] at e) (hlt b hb)) h1
     ·cases h1
    ·cases h1
inductive U where
 | int (k:IntKind)
 | bool
 | str
 | sl (e:TypeId)
 | st (fs:List (Nat × Nat × Bool))
 | ptr (e:TypeId)
 | arr (n:Nat) (e:TypeId)
 | other
def aggU:U → Bool
 | .st _ | .arr _ _=>true
 | _=>false
def isAggD:Option TypeDesc → Bool
 | some (.struct _) | some (.array ..)=>true
 | _=>false
def uOf (P:Program) (t:TypeId):U:=match P.underlying t with
 | some (.int k)=>.int k
 | some .bool=>.bool
 | some .string=>.str
 | some (.slice e)=>.sl e
 | some (.struct fs)=>.st (fs.toList.map fun f=>(f.offset,P.cellsOf f.type,isAggD (P.underlying f.type)))
 | some (.pointer e)=>.ptr e
 | some (.array n e)=>.arr n e
 | _=>.other
def zeroLeaf:Value → L
 | .int k n=>.t (.int k n)
 | .bool b=>.t (.bool b)
 | .string s=>.t (.str s)
 | .slice none 0 0=>.nil
 | .pointer none=>.npt
 | _=>.undef
def cellZ (P:Program):Nat → TypeId → List Nat
 | 0,_=>[]
 | n + 1,t=>match P.underlying t with
  | some (.slice e)=>[P.cellsOf e]
  | some (.struct fs)=>fs.toList.flatMap fun f=>cellZ P n f.type
  | some (.array k e)=>(List.replicate k (cellZ P n e)).flatten
  | _=>[0]
def zeroT:Nat → L → T
 | _,.t x=>x
 | z,.nil=>.sl z []
 | _,_=>.hole
def zeL (P:Program) (t:TypeId):List L:=((P.info? t).bind (·.zero)).elim [] fun v=>v.cells.toList.map zeroLeaf
structure Ty where
 u:U
 sz:Nat
 by_:Nat
 ze:List L
 known:Bool
 cz:List Nat
 dz:List T
def tyOf (P:Program) (t:TypeId):Ty :=
 { u:=uOf P t,sz:=P.cellsOf t,by_:=P.bytesOf t,ze:=zeL P t,known:=((P.info? t).bind (·.zero)).any fun v=>v.cells.toList.all (·.oneCell') && v.cells.size == P.cellsOf t,cz:=cellZ P 8 t,dz:=List.zipWith zeroT (cellZ P 8 t) (zeL P t) }
def constL:Value → L
 | .int k n=>.t (.int k n)
 | .bool b=>.t (.bool b)
 | .string s=>.t (.str s)
 | .slice none 0 0=>.nil
 | .pointer none=>.npt
 | _=>.undef
def constV (v:Value):Option V:=match constL v with
 | .undef=>none
 | l=>some (.l l)
def evO (σ:St):Operand → Option (Bool × V)
 | .tmp t=>get σ.env t
 | .const v=>(constV v).map fun x=>(true,x)
 | .func f=>some (true,.l (.fn f []))
 | .global _=>none
structure Slots (w:World) (g:Gh) (σ:St) (a:Act):Prop where
 yes:∀ t c v,get σ.env t = some (c,v) → c = true → RepV w g σ v (a.tmps.getD t undef)
 no:∀ t c v,get σ.env t = some (c,v) → c = false → a.tmps.getD t undef = undef
theorem qV {w:World} {g:Gh} {σ:St} {v:Value} {x:V} (h:constV v = some x):RepV w g σ x v:=by
 unfold constV at h;split at h
 ·cases h
 ·rename_i l hl
  simp only[Option.some.injEq] at h;subst h;unfold constL;split
  ·exact .int
  ·exact .bool
  ·exact .str
  ·exact ⟨none,rfl⟩
  ·rfl
  ·rename_i h1 h2 h3 h4 h5
   exact absurd (by unfold constL;split <;> simp_all) hl
theorem az {w:World} {g:Gh} {σ:St} {a:Act} (hs:Slots w g σ a) {x:Operand} {c:Bool} {v:V} (h:evO σ x = some (c,v)) (hc:c = true):RepV w g σ v (a.eval x):=by
 cases x with
 | tmp t=>exact hs.yes t c v h hc
 | const u =>
  simp only[evO,Option.map_eq_some_iff,Prod.mk.injEq] at h;obtain ⟨y,hy,_,rfl⟩:=h;exact qV hy
 | func f =>
  simp only[evO,Option.some.injEq,Prod.mk.injEq] at h;obtain ⟨_,rfl⟩:=h;exact ⟨by simp,rfl⟩
 | global=>cases h
def binT (op:BinOp):T → T → Option (Prop × T)
 | .int k a,.int k' b=>match op with
  | .shl=>some (0 ≤ b,.int k (k.wrap (a * 2 ^ (min b.toNat k.bits))))
  | .shr=>some (0 ≤ b,.int k (a.fdiv (2 ^ (min b.toNat k.bits))))
  | .add=>some (k = k',.int k (k.wrap (a + b)))
  | .sub=>some (k = k',.int k (k.wrap (a - b)))
  | .mul=>some (k = k',.int k (k.wrap (a * b)))
  | .quo=>some (k = k' ∧ b ≠ 0,.int k (k.wrap (a.tdiv b)))
  | .rem=>some (k = k' ∧ b ≠ 0,.int k (a.tmod b))
  | .and=>some (k = k',.int k (k.wrap (BitVec.ofInt k.bits a &&& BitVec.ofInt k.bits b).toNat))
  | .or=>some (k = k',.int k (k.wrap (BitVec.ofInt k.bits a ||| BitVec.ofInt k.bits b).toNat))
  | .xor=>some (k = k',.int k (k.wrap (BitVec.ofInt k.bits a ^^^ BitVec.ofInt k.bits b).toNat))
  | .eql=>some (k = k',.bool (a == b))
  | .neq=>some (k = k',.bool (a != b))
  | .lss=>some (k = k',.bool (decide (a < b)))
  | .leq=>some (k = k',.bool (decide (a ≤ b)))
  | .gtr=>some (k = k',.bool (decide (a > b)))
  | .geq=>some (k = k',.bool (decide (a ≥ b)))
  | .andNot=>none
 | .str x,.str y=>match op with
  | .add=>some (((x.size + y.size:Nat):Int) ≤ 9223372036854775807,.str (x ++ y))
  | .eql=>some (True,.bool (x.toList == y.toList))
  | .neq=>some (True,.bool (!(x.toList == y.toList)))
  | _=>none
 | _,_=>none
def Kept (w w1:World):Prop:=∀ b,b < w.heap.size → w1.heap[b]? = w.heap[b]?
theorem Kept.refl (w:World):Kept w w:=fun _ _=>rfl
theorem Kept.lt {w w1:World} (h:Kept w w1):w.heap.size ≤ w1.heap.size:=by
 apply Nat.le_of_not_lt;intro hlt;have e:=h (w.heap.size - 1) (by omega);rw[Array.getElem?_eq_none (by omega),Array.getElem?_eq_getElem (by omega)] at e;cases e
theorem Kept.trans {w w1 w2:World} (h:Kept w w1) (h':Kept w1 w2):Kept w w2:=fun b hb=>by
 rw[h' b (Nat.lt_of_lt_of_le hb h.lt),h b hb]
theorem Kept.cell {w w1:World} (h:Kept w w1) {a:Addr} {v:Value} (hc:w.cell? a = some v):w1.cell? a = some v:=by
 unfold World.cell? at hc ⊢;cases hb:w.heap[a.block]? with
 | none=>rw[hb] at hc;cases hc
 | some o=>rw[h a.block (Array.getElem?_eq_some_iff.1 hb).1];exact hc
theorem uJ {P:Program} {w:World} {op:BinOp} {t:TypeId} {x y:T} {c:Prop} {z:T} {u v:Value} {F:Blks} (hx:Rep w false u x F) (hy:Rep w false v y F)
  (h:binT op x y = some (c,z)) (hc:c):∃ r,(∀ w1,(Go.binOp op t u v).run P w1 = .ok r w1) ∧ Rep w false r z F:=by
 cases hx with
 | @int k a =>
  cases hy with
  | @int k' b =>
   cases op <;> simp only[binT,Option.some.injEq,Prod.mk.injEq,reduceCtorEq] at h <;> obtain ⟨rfl,rfl⟩:=h
   case shl=>exact ⟨_,fun _=>by simp[Go.binOp,Op.shift,Int.not_lt.mpr hc],.int⟩
   case shr=>exact ⟨_,fun _=>by simp[Go.binOp,Op.shift,Int.not_lt.mpr hc],.int⟩
   case quo=>obtain ⟨rfl,hb⟩:=hc;exact ⟨_,fun _=>by simp[Go.binOp,Op.intDiv,hb],.int⟩
   case rem=>obtain ⟨rfl,hb⟩:=hc;exact ⟨_,fun _=>by simp[Go.binOp,Op.intDiv,hb],.int⟩
   case and=>subst hc;exact ⟨_,fun _=>by simp only[Go.binOp];rw[if_neg (by simp)];rfl,.int⟩
   case or=>subst hc;exact ⟨_,fun _=>by simp only[Go.binOp];rw[if_neg (by simp)];rfl,.int⟩
   case xor=>subst hc;exact ⟨_,fun _=>by simp only[Go.binOp];rw[if_neg (by simp)];rfl,.int⟩
   all_goals first
    | (subst hc;exact ⟨_,fun _=>by simp[Go.binOp,Op.intArith],.int⟩)
    | (subst hc;exact ⟨_,fun _=>by simp[Go.binOp,Op.intCmp],.bool⟩)
  | _=>simp[binT] at h
 | @str x =>
  cases hy with
  | @str y =>
   cases op <;> simp only[binT,Option.some.injEq,Prod.mk.injEq,reduceCtorEq] at h <;> obtain ⟨rfl,rfl⟩:=h
   case add =>
    have:¬ ((x.size + y.size:Nat):Int) > IntKind.i64.max:=by
     have:IntKind.i64.max = 9223372036854775807:=by decide
     omega
    exact ⟨_,fun _=>by simp only[Go.binOp,Op.stringOp];rw[if_neg this];rfl,.str⟩
   case eql=>exact ⟨_,fun _=>by simp[Go.binOp,Op.stringOp],.bool⟩
   case neq=>exact ⟨_,fun _=>by simp[Go.binOp,Op.stringOp],.bool⟩
  | _=>simp[binT] at h
 | _=>simp[binT] at h
theorem Rep.toTrue {w:World} {o:Bool} {v:Value} {t:T} {F:Blks} (h:Rep w o v t F):Rep w false v t fun _=>True:=h.lent.mono fun _ _=>trivial
theorem Mem.reads {w:World} {g:Gh} {σ:St} (m:Mem w g σ) {r:Nat} {row:Row} (h:get σ.row r = some row):Rep w false (g.rw r) row.t fun _=>True:=by
 cases hp:row.pm with
 | own=>exact (m.own r row h hp).toTrue
 | ro=>exact (m.ro r row h hp).toTrue
 | top =>
  rcases m.top r row h hp with ⟨e,oa,hv⟩ | ⟨a,cap,cs,hv,hl,hF,hc⟩
  ·rw[hv,Row.t,e];cases oa with
   | none=>exact .nils
   | some a=>exact .bare
  ·rw[hv]
   exact .sl (fun _ _ _=>True) ⟨let ⟨e,fr,h,_⟩:=hl.blk;⟨e,fr,h,fun h=>by cases h⟩,hl.spot,hl.len,hl.room,hl.each⟩ trivial (fun _ _ _ _=>trivial) (fun h=>by cases h) (fun h=>by cases h)
    (fun i j x c hx hcc=>(hc i j x c hx hcc).toTrue)
theorem Mem.at {w:World} {g:Gh} {σ:St} (m:Mem w g σ) {r:Nat} {row:Row} (h:get σ.row r = some row) {p:Path} {s:T} (hs:row.t.at? p = some s) :
  ∃ u,valAt w (g.rw r) row.t p = some u ∧ Rep w false u s fun _=>True:=(m.reads h).focus_ro hs
theorem T.at?_append:∀ (p q:Path) (t:T),t.at? (p ++ q) = (t.at? p).bind fun s=>s.at? q
 | [],q,t=>by simp[T.at?]
 | (i,j) :: p,q,t=>by
  cases t with
  | sl z es =>
   simp only[List.cons_append,T.at?]
   cases es[i]? with
   | none=>rfl
   | some x =>
    simp only[]
    cases x[j]? with
    | none=>rfl
    | some c=>exact T.at?_append p q c
  | _=>rfl
theorem jG {w:World}:∀ (p q:Path) (t s:T) (v:Value),t.at? p = some s → valAt w v t (p ++ q) = (valAt w v t p).bind fun u=>valAt w u s q
 | [],q,t,s,v,h=>by
  simp only[T.at?,Option.some.injEq] at h
  subst h
  simp[valAt]
 | (i,j) :: p,q,t,s,v,h=>by
  cases t with
  | sl z es =>
   simp only[T.at?] at h
   cases v with
   | slice oa n cap =>
    cases oa with
    | none=>simp[valAt]
    | some a =>
     simp only[List.cons_append,valAt]
     cases hx:es[i]? with
     | none=>rfl
     | some x =>
      simp only[hx] at h ⊢
      cases hc:x[j]? with
      | none=>rfl
      | some c =>
       simp only[hc] at h ⊢
       cases w.cell? (a.add (i * z + j)) with
       | none=>rfl
       | some u=>exact jG p q c s u h
   | _=>simp[valAt]
  | _=>simp[T.at?] at h
def leafOf (r:Nat) (p:Path) (i j:Nat):T → L
 | .sl z es=>.ref r (p ++ [(i,j)]) z 0 es.length
 | .hole=>.undef
 | x=>.t x
def leavesOf (r:Nat) (p:Path) (i:Nat):Nat → List T → List L
 | _,[]=>[]
 | j,c :: cs=>leafOf r p i j c :: leavesOf r p i (j + 1) cs
theorem View.whole (oa:Option Addr) (n cap z len:Nat):View (.slice oa n cap) z 0 len (.slice oa len cap) :=
 ⟨oa,n,cap,oa,rfl,by simp,Or.inr (by cases oa <;> simp[Addr.add])⟩
theorem Rep.elem {w:World} {o:Bool} {oa:Option Addr} {n cap z:Nat} {es:Els} {F:Blks} (h:Rep w o (.slice oa n cap) (.sl z es) F) {i:Nat} {x:List T} (hx:es[i]? = some x) :
  ∃ a,oa = some a ∧ n = es.length ∧ a.spot = none ∧ x.length = z ∧ ∀ j c,x[j]? = some c → ∃ v G,w.cell? ⟨a.block,a.off + i * z + j,none⟩ = some v ∧ Rep w o v c G ∧ (∀ b,G b → F b):=by
 cases h with
 | nils=>simp at hx
 | bare=>simp at hx
 | @sl a _ _ _ _ cs f hl hF hsub hd hdd hr =>
  refine ⟨_,rfl,rfl,hl.spot,hl.each x (List.mem_of_getElem? hx),fun j c hc=>⟨_,f i j,?_,hr i j x c hx hc,hsub i j⟩⟩
  have:=hl.cell hx hc
  rwa [Addr.add_plain hl.spot,← Nat.add_assoc] at this
theorem qW {w:World} {g:Gh} {σ:St} {r:Nat} {row:Row} (hrow:get σ.row r = some row) {p:Path} {z:Nat} {es:Els} (hp:row.t.at? p = some (.sl z es))
  {i j:Nat} {x:List T} {c:T} (hx:es[i]? = some x) (hc:x[j]? = some c) {oa:Option Addr} {n cap:Nat} (hv:valAt w (g.rw r) row.t p = some (.slice oa n cap)) {a:Addr} (ha:oa = some a) (hs:a.spot = none)
  {v:Value} (hcell:w.cell? ⟨a.block,a.off + i * z + j,none⟩ = some v) (hrep:Rep w false v c fun _=>True):RepL w g σ (leafOf r p i j c) v:=by
 subst ha
 have hadd:a.add (i * z + j) = ⟨a.block,a.off + i * z + j,none⟩:=by rw[Addr.add_plain hs,Nat.add_assoc]
 have hat:∀ c,x[j]? = some c → row.t.at? (p ++ [(i,j)]) = some c:=fun c hc=>by rw[T.at?_append,hp];simp[T.at?,hx,hc]
 have hva:valAt w (g.rw r) row.t (p ++ [(i,j)]) = some v:=by
  rw[jG p _ _ _ _ hp,hv]
  simp[valAt,hx,hc,hadd,hcell]
 cases c with
 | sl z' es' =>
  obtain ⟨oa,cap,e⟩:=hrep.head
  subst e
  exact ⟨row,es',_,hrow,hat _ hc,hva,by simp,View.whole oa _ cap z' _⟩
 | hole=>exact hrep.one
 | int k n=>cases hrep;exact .int
 | bool b=>cases hrep;exact .bool
 | str s=>cases hrep;exact .str
theorem RepLs.length {w:World} {g:Gh} {σ:St}:∀ {ls:List L} {vs:List Value},RepLs w g σ ls vs → ls.length = vs.length
 | [],[],_=>rfl
 | _ :: _,_ :: _,h=>by simp[RepLs.length h.2]
 | [],_ :: _,h=>h.elim
 | _ :: _,[],h=>h.elim
theorem RepLs.nth {w:World} {g:Gh} {σ:St}:∀ {ls:List L} {vs:List Value},RepLs w g σ ls vs → ∀ {j:Nat} {l:L},ls[j]? = some l → ∃ v,vs[j]? = some v ∧ RepL w g σ l v
 | l :: ls,v :: vs,h,0,l',hl=>by simp at hl;subst hl;exact ⟨v,rfl,h.1⟩
 | l :: ls,v :: vs,h,j + 1,l',hl=>by simpa using RepLs.nth h.2 (by simpa using hl)
 | [],_,_,_,_,hl=>by simp at hl
 | _ :: _,[],h,_,_,_=>h.elim
theorem RepLs.of_nth {w:World} {g:Gh} {σ:St}:∀ {ls:List L} {vs:List Value},ls.length = vs.length → (∀ (j:Nat) (l:L) (v:Value),ls[j]? = some l → vs[j]? = some v → RepL w g σ l v) → RepLs w g σ ls vs
 | [],[],_,_=>trivial
 | l :: ls,v :: vs,h,hr=>⟨hr 0 l v rfl rfl,RepLs.of_nth (by simpa using h) fun j l' v' h1 h2=>hr (j + 1) l' v' (by simpa using h1) (by simpa using h2)⟩
 | [],_ :: _,h,_=>by simp at h
 | _ :: _,[],h,_=>by simp at h
theorem RepLs.part {w:World} {g:Gh} {σ:St} {ls:List L} {vs:List Value} (h:RepLs w g σ ls vs) (j n:Nat):RepLs w g σ ((ls.drop j).take n) ((vs.drop j).take n):=by
 refine .of_nth (by simp[h.length]) fun k l v hl hv=>?_;rw[List.getElem?_take] at hl hv;split at hl
 ·rename_i hk
  simp only[hk,if_true] at hv;rw[List.getElem?_drop] at hl hv;obtain ⟨v',hv',hr⟩:=h.nth hl;rw[hv] at hv';cases hv'
  exact hr
 ·cases hl
theorem jH (r:Nat) (p:Path) (i:Nat):∀ (cs:List T) (j k:Nat),(leavesOf r p i j cs)[k]? = (cs[k]?).map (leafOf r p i (j + k))
 | [],_,_=>by simp[leavesOf]
 | c :: cs,j,0=>by simp[leavesOf]
 | c :: cs,j,k + 1=>by
  simp only[leavesOf,List.getElem?_cons_succ,jH r p i cs (j + 1) k]
  congr 2
  omega
theorem ed (r:Nat) (p:Path) (i:Nat):∀ (cs:List T) (j:Nat),(leavesOf r p i j cs).length = cs.length
 | [],_=>rfl
 | c :: cs,j=>by simp[leavesOf,ed r p i cs]
theorem bC {P:Program} {t:TypeId} (h:(tyOf P t).known = true):∃ i z,P.info? t = some i ∧ i.zero = some z ∧ (tyOf P t).ze = z.cells.toList.map zeroLeaf ∧ (tyOf P t).sz = i.size ∧ (tyOf P t).by_ = i.bytes ∧ (∀ v ∈ z.cells.toList,v.oneCell' = true) ∧ z.cells.size = i.size:=by
 simp only[tyOf,Option.any_eq_true,Bool.and_eq_true,beq_iff_eq] at h;obtain ⟨z,hz,hall,hs⟩:=h;simp only[Option.bind_eq_some_iff] at hz;obtain ⟨i,hi,hz⟩:=hz;exact ⟨i,z,hi,hz,by simp[tyOf,zeL,hi,hz],by simp[tyOf,Program.cellsOf,hi],by simp[tyOf,Program.bytesOf,hi],List.all_eq_true.1 hall,by simpa [Program.cellsOf,hi] using hs⟩
theorem fj {P:Program} {t:TypeId} (h:(tyOf P t).known = true):∃ i z,P.info? t = some i ∧ i.zero = some z ∧ (tyOf P t).ze = z.cells.toList.map zeroLeaf ∧ (tyOf P t).sz = i.size ∧ (tyOf P t).by_ = i.bytes ∧ ∀ v ∈ z.cells.toList,v.oneCell' = true:=by
 obtain ⟨i,z,h1,h2,h3,h4,h5,h6,_⟩:=bC h;exact ⟨i,z,h1,h2,h3,h4,h5,h6⟩
section
variable {P:Program} {w:World}
theorem cg {t:TypeId} (h:(tyOf P t).known = true):(sizeOf t).run P w = .ok (tyOf P t).sz w:=by
 obtain ⟨i,z,hi,hz,_,hs,_⟩:=fj h;simp[sizeOf,typeInfo,hi,hs]
theorem iW {t:TypeId} (h:(P.underlying t).isSome):(isAgg t).run P w = .ok (isAggD (P.underlying t)) w:=by
 obtain ⟨d,hd⟩:=Option.isSome_iff_exists.1 h;simp only[isAgg,Sem.run_bind,run_underlying hd,Result.andThen_ok,hd];cases d <;> rfl
theorem u_agg {t:TypeId}:aggU (tyOf P t).u = isAggD (P.underlying t):=by
 simp only[tyOf,uOf];cases hd:P.underlying t with
 | none=>rfl
 | some d=>cases d <;> rfl
theorem gJ {t e:TypeId} (h:(tyOf P t).u = .sl e):P.underlying t = some (.slice e):=by
 simp only[tyOf,uOf] at h;split at h <;> simp_all
theorem mA {t:TypeId} (h:(tyOf P t).u = .str):P.underlying t = some .string:=by
 simp only[tyOf,uOf] at h;split at h <;> simp_all
theorem sK {t:TypeId} {k:IntKind} (h:(tyOf P t).u = .int k):P.underlying t = some (.int k):=by
 simp only[tyOf,uOf] at h;split at h <;> simp_all
theorem uK {t:TypeId} (h:(tyOf P t).u = .bool):P.underlying t = some .bool:=by
 simp only[tyOf,uOf] at h;split at h <;> simp_all
theorem u_arr {t e:TypeId} {n:Nat} (h:(tyOf P t).u = .arr n e):P.underlying t = some (.array n e):=by
 simp only[tyOf,uOf] at h;split at h <;> simp_all
theorem u_st {t:TypeId} {fs:List (Nat × Nat × Bool)} (h:(tyOf P t).u = .st fs):∃ gs,P.underlying t = some (.struct gs) ∧ fs = gs.toList.map fun f=>(f.offset,P.cellsOf f.type,isAggD (P.underlying f.type)):=by
 simp only[tyOf,uOf] at h;split at h <;> simp_all
theorem u_some {t:TypeId} (h:(match (tyOf P t).u with | .other=>false | _=>true) = true):(P.underlying t).isSome:=by
 simp only[tyOf,uOf] at h;cases hd:P.underlying t with
 | none=>simp[hd] at h
 | some d=>rfl
end
def U.ok:U → Bool
 | .other=>false
 | _=>true
theorem u_ok {P:Program} {t:TypeId} (h:(tyOf P t).u.ok = true):(P.underlying t).isSome:=by
 apply u_some (P:=P) (t:=t);unfold U.ok at h;split at h <;> simp_all
def ofLeaves (agg:Bool) (ls:List L):Option V:=if agg then some (.agg ls) else match ls with
 | [l]=>some (.l l)
 | _=>none
def V.cells:V → Option (List L)
 | .l x=>some [x]
 | .agg xs=>some xs
 | .tup _=>none
def numV:V → Option Int
 | .l (.t (.int _ n))=>some n
 | _=>none
def boundV (σ:St) (x:Option Operand) (d:Int):Option (Prop × Int):=match x with
 | none=>some (True,d)
 | some o=>match evO σ o with
  | some (c,v)=>(numV v).map fun n=>(c = true,n)
  | none=>none
def patch (ls:List L) (off:Nat) (xs:List L):List L:=ls.take off ++ xs ++ ls.drop (off + xs.length)
def fillL (σ:St) (fs:List (Nat × Nat × Bool)):List L → List (Nat × Operand) → Option (Prop × List L)
 | ls,[]=>some (True,ls)
 | ls,(i,x) :: r=>match fs[i]?,evO σ x with
  | some (off,sz,_),some (c,v)=>match v.cells with
   | some xs=>(fillL σ fs (patch ls off xs) r).map fun q=>(c = true ∧ xs.length = sz ∧ off + sz ≤ ls.length ∧ q.1,q.2)
   | none=>none
  | _,_=>none
def nodeOf (σ:St) (r:Nat) (p:Path):Option (Nat × Els):=match get σ.row r with
 | some row=>match row.t.at? p with
  | some (.sl z es)=>some (z,es)
  | _=>none
 | none=>none
def loadV (P:Program) (σ:St) (t:TypeId):V → Option (Prop × V)
 | .l (.ptr b j)=>match get σ.box b with
  | some ls=>(ofLeaves (aggU (tyOf P t).u) ((ls.drop j).take (tyOf P t).sz)).map fun v=>(j + (tyOf P t).sz ≤ ls.length ∧ (tyOf P t).known = true ∧ (tyOf P t).u.ok = true,v)
  | none=>none
 | .l (.ept r p i j d)=>match nodeOf σ r p with
  | some (_,es)=>(ofLeaves (aggU (tyOf P t).u) (leavesOf r p i j (((es.getD i (tyOf P d).dz).drop j).take (tyOf P t).sz))).map fun v=>(j + (tyOf P t).sz ≤ (es.getD i (tyOf P d).dz).length ∧ (tyOf P t).known = true ∧ (tyOf P t).u.ok = true,v)
  | none=>none
 | _=>none
theorem RepLs.value {w:World} {g:Gh} {σ:St} {agg:Bool} {ls:List L} {vs:List Value} {v:V} (h:RepLs w g σ ls vs) (hv:ofLeaves agg ls = some v) :
  RepV w g σ v (if agg then .agg vs.toArray else vs.getD 0 undef):=by
 unfold ofLeaves at hv
 cases agg with
 | true=>simp only[if_true,Option.some.injEq] at hv;subst hv;exact ⟨vs,rfl,h⟩
 | false =>
  simp only[Bool.false_eq_true,if_false] at hv
  split at hv
  ·simp only[Option.some.injEq] at hv
   subst hv
   obtain ⟨u,hu,hr⟩:=h.nth (j:=0) rfl
   simp only[Bool.false_eq_true,if_false,List.getD_eq_getElem?_getD,hu]
   exact hr
  ·cases hv
theorem nI {P:Program} {w:World} {g:Gh} {σ:St} (m:Mem w g σ) {t:TypeId} {x v:V} {u:Value} {c:Prop} (hx:RepV w g σ x u) (h:loadV P σ t x = some (c,v)) (hc:c) :
  ∃ r,(∀ w1,Kept w w1 → (Instr.loadAt t u).run P w1 = .ok r w1) ∧ RepV w g σ v r:=by
 have main:∀ (a:Addr) (ls:List L) (vs:List Value),u = .pointer (some a) → (tyOf P t).known = true → (tyOf P t).u.ok = true → ls.length = (tyOf P t).sz → RepLs w g σ ls vs →
   (∀ j y,vs[j]? = some y → w.cell? (a.add j) = some y) → ofLeaves (aggU (tyOf P t).u) ls = some v → ∃ r,(∀ w1,Kept w w1 → (Instr.loadAt t u).run P w1 = .ok r w1) ∧ RepV w g σ v r:=by
  intro a ls vs hu hk ho hlen hr hcell hv
  have hvl:vs.length = (tyOf P t).sz:=by rw[← hr.length,hlen]
  refine ⟨_,fun w1 hk1=>?_,hr.value hv⟩
  subst hu
  have hcell:∀ j y,vs[j]? = some y → w1.cell? (a.add j) = some y:=fun j y hy=>hk1.cell (hcell j y hy)
  simp only[Instr.loadAt,Instr.sureAddr,Sem.run_bind,Sem.run_pure,Result.andThen_ok,loadVar,iW (u_ok ho),← u_agg (P:=P) (t:=t)]
  cases ha:aggU (tyOf P t).u with
  | true =>
   simp only[if_true,Sem.run_bind,cg hk,Result.andThen_ok]
   rw[← hvl,run_loadCells_list w1 a vs hcell]
   rfl
  | false =>
   rw[ha] at hv
   unfold ofLeaves at hv
   simp only[Bool.false_eq_true,if_false] at hv
   split at hv
   ·have h1:vs.length = 1:=by rw[hvl,← hlen];rfl
    obtain ⟨y,rfl⟩:∃ y,vs = [y]:=by
     match vs,h1 with
     | [y],_=>exact ⟨y,rfl⟩
    have:=hcell 0 y rfl
    simp only[Bool.false_eq_true,if_false,run_load]
    rw[show a.add 0 = a from by simp[Addr.add]] at this
    simp[this]
   ·cases hv
 unfold loadV at h
 split at h
 ·rename_i b j
  split at h
  ·rename_i ls hb
   simp only[Option.map_eq_some_iff,Prod.mk.injEq] at h
   obtain ⟨v',hv',rfl,rfl⟩:=h
   obtain ⟨h1,h2,h3⟩:=hc
   obtain ⟨cs,e,hcs,hr⟩:=m.box b ls hb
   obtain ⟨_,hu⟩:=hx
   refine main _ _ _ hu h2 h3 ?_ (hr.part j _) ?_ hv'
   ·simp;omega
   ·intro k y hy
    rw[List.getElem?_take] at hy
    split at hy
    ·rw[List.getElem?_drop] at hy
     rw[Addr.add_plain rfl]
     simpa [World.cell?,hcs] using hy
    ·cases hy
  ·cases h
 ·rename_i r p i j d
  split at h
  ·rename_i z es hn
   ·simp only[Option.map_eq_some_iff,Prod.mk.injEq] at h
    obtain ⟨v',hv',rfl,rfl⟩:=h
    obtain ⟨h1,h2,h3⟩:=hc
    obtain ⟨row,z',es',a,n,cap,e1,e2,e3,e4,e5,e6⟩:=hx
    have hn':nodeOf σ r p = some (z',es'):=by simp[nodeOf,e1,e2]
    rw[hn] at hn'
    simp only[Option.some.injEq,Prod.mk.injEq] at hn'
    obtain ⟨rfl,rfl⟩:=hn'
    obtain ⟨u',hu',hru⟩:=m.at e1 e2
    rw[e3] at hu'
    cases hu'
    obtain ⟨x',hx'⟩:∃ x',es[i]? = some x':=⟨_,List.getElem?_eq_getElem e4⟩
    have hgd:es.getD i (tyOf P d).dz = x':=by rw[List.getD_eq_getElem?_getD,hx'];rfl
    rw[hgd] at h1 hv'
    obtain ⟨a',ha',_,_,hxl,hcl⟩:=hru.elem hx'
    cases ha'
    have hvals:∀ k,j + k < x'.length → ∃ y,w.cell? ⟨a.block,a.off + i * z + (j + k),none⟩ = some y ∧ ∀ c,x'[j + k]? = some c → RepL w g σ (leafOf r p i (j + k) c) y:=by
     intro k hk
     obtain ⟨c,hcc⟩:∃ c,x'[j + k]? = some c:=⟨_,List.getElem?_eq_getElem hk⟩
     obtain ⟨y,G,hy,hyr,_⟩:=hcl (j + k) c hcc
     refine ⟨y,hy,fun c' hc'=>?_⟩
     rw[hcc] at hc'
     cases hc'
     exact qW e1 e2 hx' hcc e3 rfl e5 hy hyr.toTrue
    let vs:=(List.range (tyOf P t).sz).map fun k=>(w.cell? ⟨a.block,a.off + i * z + (j + k),none⟩).getD undef
    refine main ⟨a.block,a.off + i * z + j,none⟩ _ vs e6 h2 h3 ?_ ?_ ?_ hv'
    ·rw[ed];simp;omega
    ·refine .of_nth (by rw[ed];simp[vs];omega) fun k l y hl hy=>?_
     rw[jH] at hl
     simp only[Option.map_eq_some_iff] at hl
     obtain ⟨c,hcc,rfl⟩:=hl
     rw[List.getElem?_take] at hcc
     split at hcc
     ·rename_i hk
      rw[List.getElem?_drop] at hcc
      have hjk:j + k < x'.length:=(List.getElem?_eq_some_iff.1 hcc).1
      obtain ⟨y',hy',hr'⟩:=hvals k hjk
      simp only[vs,List.getElem?_map,List.getElem?_range hk,Option.map_some,hy',Option.getD_some,Option.some.injEq] at hy
      subst hy
      exact hr' c hcc
     ·cases hcc
    ·intro k y hy
     have hk:k < (tyOf P t).sz:=by
      have:=(List.getElem?_eq_some_iff.1 hy).1
      simpa [vs] using this
     obtain ⟨y',hy',_⟩:=hvals k (by omega)
     simp only[vs,List.getElem?_map,List.getElem?_range hk,Option.map_some,hy',Option.getD_some,Option.some.injEq] at hy
     subst hy
     rw[Addr.add_plain rfl]
     simpa [Nat.add_assoc] using hy'
  ·cases h
 ·cases h
def notT (op:UnOp):T → Option T
 | .bool b=>match op with
  | .not=>some (.bool !b)
  | _=>none
 | .int k n=>match op with
  | .neg=>some (.int k (k.wrap (0 - n)))
  | _=>none
 | _=>none
def bytesT:Els → Option (List Int)
 | []=>some []
 | [.int .u8 n] :: r=>(bytesT r).map fun ns=>n :: ns
 | _=>none
def convT (P:Program) (src dst:TypeId):T → Option (Prop × T)
 | .int _ n=>match (tyOf P dst).u with
  | .int k=>some ((tyOf P src).u.ok = true,.int k (k.wrap n))
  | .str=>some ((tyOf P src).u.ok = true,.str (Utf8.encode n))
  | _=>none
 | _=>none
def ptrAdd (n:Nat):V → Option V
 | .l (.ptr b j)=>some (.l (.ptr b (j + n)))
 | .l (.ept r p i j d)=>some (.l (.ept r p i (j + n) d))
 | _=>none
def capsV (σ:St):List Operand → Option (Prop × List Nat)
 | []=>some (True,[])
 | x :: r=>match evO σ x with
  | some (c,.l (.ptr b 0))=>(capsV σ r).map fun q=>(c = true ∧ q.1,b :: q.2)
  | _=>none
def fieldsKnown (P:Program) (t:TypeId):Bool:=match P.underlying t with
 | some (.struct gs)=>gs.toList.all fun f=>(P.info? f.type).isSome && (P.underlying f.type).isSome
 | _=>false
def fieldKindsL (P:Program):Nat → List Field → Option (List Bool)
 | _,[]=>some []
 | off,f :: fs=>if f.offset = off ∧ f.name ≠ "_" then match P.underlying f.type with
  | some (.int _)=>(fieldKindsL P (off + 1) fs).map (true :: ·)
  | some .bool=>(fieldKindsL P (off + 1) fs).map (false :: ·)
  | _=>none
  else none
def fieldKinds (P:Program) (t:TypeId):Option (List Bool):=match P.underlying t with
 | some (.struct fs)=>if P.stoodInHeld t = false ∧ P.eqGuardType P.depth t = false then fieldKindsL P 0 fs.toList else none
 | _=>none
def eqLs:List Bool → List L → List L → Option Bool
 | [],[],[]=>some true
 | true :: ks,.t (.int .i64 a) :: xs,.t (.int .i64 b) :: ys=>(eqLs ks xs ys).map fun q=>(a == b) && q
 | false :: ks,.t (.bool a) :: xs,.t (.bool b) :: ys=>(eqLs ks xs ys).map fun q=>(a == b) && q
 | _,_,_=>none
def pv (P:Program) (σ:St):Op → Option (Prop × V)
 | .move x=>(evO σ x).map fun q=>(q.1 = true,q.2)
 | .assign x=>(evO σ x).map fun q=>(q.1 = true,q.2)
 | .pick c a b=>match evO σ c,evO σ a,evO σ b with
  | some (cc,.l (.t (.bool x))),some (ca,.l (.t (.bool y))),some (cb,.l (.t (.bool z)))=>some (cc = true ∧ (x = true → ca = true) ∧ (x = false → cb = true),.l (.t (.bool (bif x then y else z))))
  | _,_,_=>none
 | .binOp op t x y _=>match evO σ x,evO σ y with
  | some (c1,.l (.t a)),some (c2,.l (.t b))=>match a,b,op with
   | .bool a,.bool b,.eql=>some (c1 = true ∧ c2 = true ∧ (tyOf P t).u = .bool,.l (.t (.bool (a == b))))
   | .bool a,.bool b,.neq=>some (c1 = true ∧ c2 = true ∧ (tyOf P t).u = .bool,.l (.t (.bool (!(a == b)))))
   | a,b,op=>(binT op a b).map fun q=>(c1 = true ∧ c2 = true ∧ q.1,.l (.t q.2))
  | some (c1,.agg l1),some (c2,.agg l2)=>match op,fieldKinds P t with
   | .eql,some ks=>(eqLs ks l1 l2).map fun b=>(c1 = true ∧ c2 = true,.l (.t (.bool b)))
   | .neq,some ks=>(eqLs ks l1 l2).map fun b=>(c1 = true ∧ c2 = true,.l (.t (.bool (!b))))
   | _,_=>none
  | _,_=>none
 | .unOp op _ x=>match evO σ x with
  | some (c,.l (.t a))=>(notT op a).map fun z=>(c = true,.l (.t z))
  | _=>none
 | .convert src dst x=>match evO σ x with
  | some (c,.l (.t a))=>(convT P src dst a).map fun q=>(c = true ∧ q.1,.l (.t q.2))
  | some (c,.l (.ref r p 1 off len))=>match (tyOf P src).u,(tyOf P dst).u,nodeOf σ r p with
   | .sl e,.str,some (_,es)=>match (tyOf P e).u,bytesT ((es.drop off).take len) with
    | .int .u8,some ns=>some (c = true,.l (.t (.str (strOfNums ns))))
    | _,_=>none
   | _,_,_=>none
  | _=>none
 | .field t x f=>match evO σ x,(tyOf P t).u with
  | some (c,.agg ls),.st fs=>match fs[f]? with
   | some (off,sz,agg)=>(ofLeaves agg ((ls.drop off).take sz)).map fun v=>(c = true ∧ off + sz ≤ ls.length ∧ fieldsKnown P t = true,v)
   | none=>none
  | _,_=>none
 | .extract x i=>match evO σ x with
  | some (c,.tup vs)=>match vs[i]? with
   | some (true,ls)=>some (c = true,.agg ls)
   | some (false,[l])=>some (c = true,.l l)
   | _=>none
  | _=>none
 | .fieldAddr t x f=>match evO σ x,(tyOf P t).u with
  | some (c,v),.st fs=>match fs[f]? with
   | some (off,sz,_)=>(ptrAdd off v).map fun u=>(c = true ∧ 0 < sz,u)
   | none=>none
  | _,_=>none
 | .nilCheck x=>match evO σ x with
  | some (c,.l (.ptr b j))=>some (c = true,.l (.ptr b j))
  | some (c,.l (.ept r p i j d))=>some (c = true,.l (.ept r p i j d))
  | _=>none
 | .indexAddr t x ix=>match evO σ x,evO σ ix,(tyOf P t).u with
  | some (c,.l (.ref r p z off len)),some (c',.l (.t (.int _ i))),.sl e=>some (c = true ∧ c' = true ∧ (0 ≤ i ∧ i < (len:Int)) ∧ (tyOf P e).sz = z ∧ (tyOf P e).known = true,.l (.ept r p (off + i.toNat) 0 e))
  | some (c,.l (.ptr b j)),some (c',.l (.t (.int _ i))),.arr n e=>some (c = true ∧ c' = true ∧ (0 ≤ i ∧ i < (n:Int)) ∧ (tyOf P e).known = true,.l (.ptr b (j + i.toNat * (tyOf P e).sz)))
  | _,_,_=>none
 | .load t x=>match evO σ x with
  | some (c,v)=>(loadV P σ t v).map fun q=>(c = true ∧ q.1,q.2)
  | none=>none
 | .index t x ix=>match evO σ x,evO σ ix,(tyOf P t).u with
  | some (c,.l (.t (.str s))),some (c',.l (.t (.int _ i))),.str=>some (c = true ∧ c' = true ∧ (0 ≤ i ∧ i < (s.size:Int)),.l (.t (.int .u8 ((s.data.getD i.toNat 0).toNat:Int))))
  | _,_,_=>none
 | .build t parts=>match (tyOf P t).u with
  | .st fs=>(fillL σ fs (tyOf P t).ze parts.toList).map fun q=>((tyOf P t).known = true ∧ fieldsKnown P t = true ∧ q.1,.agg q.2)
  | _=>none
 | .makeFunc fn first caps=>match fn,first.toList with
  | .func f,[]=>(capsV σ caps.toList).map fun q=>(q.1,.l (.fn f q.2))
  | _,_=>none
 | .slice t x lo hi mx=>match mx,evO σ x,(tyOf P t).u with
  | none,some (c,.l (.ref r p z off len)),.sl e=>match boundV σ lo 0,boundV σ hi len,nodeOf σ r p with
   | some (c1,l),some (c2,h),some (_,es)=>some (c = true ∧ c1 ∧ c2 ∧ (0 ≤ l ∧ l ≤ h ∧ h ≤ (es.length:Int) - off) ∧ (tyOf P e).sz = z ∧ (tyOf P e).known = true,.l (.ref r p z (off + l.toNat) (h.toNat - l.toNat)))
   | _,_,_=>none
  | none,some (c,.l .nil),.sl e=>match boundV σ lo 0,boundV σ hi 0 with
   | some (c1,l),some (c2,h)=>some (c = true ∧ c1 ∧ c2 ∧ (l = 0 ∧ h = 0) ∧ (tyOf P e).known = true,.l .nil)
   | _,_=>none
  | none,some (c,.l (.t (.str s))),.str=>match boundV σ lo 0,boundV σ hi s.size with
   | some (c1,l),some (c2,h)=>some (c = true ∧ c1 ∧ c2 ∧ (0 ≤ l ∧ l ≤ h ∧ h ≤ (s.size:Int)),.l (.t (.str (s.extract l.toNat h.toNat))))
   | _,_=>none
  | some mo,some (c,.l (.ref r p z off len)),.sl e=>match hi with
   | some ho=>match boundV σ lo 0,boundV σ (some ho) 0,boundV σ (some mo) 0,nodeOf σ r p with
    | some (c1,l),some (c2,h),some (c3,m),some (_,es)=>some (c = true ∧ c1 ∧ c2 ∧ c3 ∧ (0 ≤ l ∧ l ≤ h ∧ h ≤ m ∧ m ≤ (es.length:Int) - off) ∧ (tyOf P e).sz = z ∧ (tyOf P e).known = true,.l .undef)
    | _,_,_,_=>none
   | none=>none
  | _,_,_=>none
 | .call { callee:=.builtin b,args,argTypes }=>match b,args.toList,argTypes.toList with
  | .len,[x],[t]=>match evO σ x,(tyOf P t).u with
   | some (c,.l (.ref _ _ _ _ len)),.sl _=>some (c = true,.l (.t (.int .i64 len)))
   | some (c,.l .nil),.sl _=>some (c = true,.l (.t (.int .i64 0)))
   | some (c,.l (.t (.str s))),.str=>some (c = true,.l (.t (.int .i64 s.size)))
   | _,_=>none
  | .max,[x,y],_=>match evO σ x,evO σ y with
   | some (c,.l (.t (.int k a))),some (c',.l (.t (.int _ b)))=>some (c = true ∧ c' = true,.l (.t (.int k (if b > a then b else a))))
   | _,_=>none
  | .min,[x,y],_=>match evO σ x,evO σ y with
   | some (c,.l (.t (.int k a))),some (c',.l (.t (.int _ b)))=>some (c = true ∧ c' = true,.l (.t (.int k (if b < a then b else a))))
   | _,_=>none
  | .cap,[x],[t]=>match evO σ x,(tyOf P t).u with
   | some (c,.l .nil),.sl _=>some (c = true,.l (.t (.int .i64 0)))
   | _,_=>none
  | _,_,_=>none
 | _=>none
section
variable {P:Program} {w:World} {g:Gh} {σ:St} {a:Act}
theorem bR {k:IntKind} {n:Int} {v:Value} (h:RepL w g σ (.t (.int k n)) v):v = .int k n:=by
 simp only[RepL] at h;cases h
 rfl
theorem cu {b:Bool} {v:Value} (h:RepL w g σ (.t (.bool b)) v):v = .bool b:=by
 simp only[RepL] at h;cases h
 rfl
theorem jI {s:ByteArray} {v:Value} (h:RepL w g σ (.t (.str s)) v):v = .string s:=by
 simp only[RepL] at h;cases h
 rfl
theorem fL (hs:Slots w g σ a) {x:Option Operand} {d n:Int} {c:Prop} (h:boundV σ x d = some (c,n)) (hc:c) :
  (x = none ∧ n = d) ∨ ∃ o k,x = some o ∧ a.eval o = .int k n:=by
 unfold boundV at h
 split at h
 ·simp only[Option.some.injEq,Prod.mk.injEq] at h;exact Or.inl ⟨rfl,h.2.symm⟩
 ·rename_i o
  split at h
  ·rename_i c' v hv
   simp only[Option.map_eq_some_iff,Prod.mk.injEq] at h
   obtain ⟨m,hm,rfl,rfl⟩:=h
   have hr:=az hs hv hc
   unfold numV at hm
   split at hm
   ·rename_i k n
    simp only[Option.some.injEq] at hm
    subst hm
    exact Or.inr ⟨o,k,rfl,bR (g:=g) (σ:=σ) hr⟩
   ·cases hm
  ·cases h
theorem cells_one {v:Value} (h:v.oneCell' = true):v.cells = #[v]:=by
 cases v <;> simp_all [Value.oneCell',Value.cells]
theorem RepV.cells {v:V} {ls:List L} {u:Value} (h:RepV w g σ v u) (hc:v.cells = some ls):RepLs w g σ ls u.cells.toList:=by
 cases v with
 | l x =>
  simp only[V.cells,Option.some.injEq] at hc;subst hc
  have h1:u.cells = #[u]:=by
   cases x with
   | t x=>exact cells_one (Rep.one h)
   | ref r p z off len=>obtain ⟨_,_,_,_,_,_,_,_,_,_,_,_,rfl,_⟩:=h;rfl
   | nil=>obtain ⟨_,rfl⟩:=h;rfl
   | ptr b j=>obtain ⟨_,rfl⟩:=h;rfl
   | ept r p i j d=>obtain ⟨_,_,_,_,_,_,_,_,_,_,_,rfl⟩:=h;rfl
   | npt=>simp only[RepV,RepL] at h;subst h;rfl
   | fn f caps=>obtain ⟨_,rfl⟩:=h;rfl
   | undef=>exact cells_one h
  rw[h1];exact ⟨h,trivial⟩
 | agg xs =>
  simp only[V.cells,Option.some.injEq] at hc;subst hc;obtain ⟨vs,rfl,h⟩:=h;simpa [Value.cells] using h
 | tup=>cases hc
theorem jJ (v:Value) (h1:v.oneCell' = true):RepL w g σ (zeroLeaf v) v:=by
 unfold zeroLeaf;split
 ·exact .int
 ·exact .bool
 ·exact .str
 ·exact ⟨none,rfl⟩
 ·rfl
 ·exact h1
theorem ot {ls:List L} {off:Nat} {xs:List L} (h:off + xs.length ≤ ls.length):(patch ls off xs).length = ls.length:=by
 simp[patch];omega
theorem dD {α:Type} {ls:List α} {off:Nat} {xs:List α} (h:off + xs.length ≤ ls.length) (j:Nat) :
  (ls.take off ++ xs ++ ls.drop (off + xs.length))[j]? = if j < off then ls[j]? else if j < off + xs.length then xs[j - off]? else ls[j]?:=by
 have h1:(ls.take off).length = off:=by simp;omega
 split
 ·rename_i hj
  rw[List.append_assoc,List.getElem?_append_left (by omega),List.getElem?_take,if_pos hj]
 ·split
  ·rename_i h2 h3
   rw[List.append_assoc,List.getElem?_append_right (by omega),List.getElem?_append_left (by omega),h1]
  ·rw[List.getElem?_append_right (by simp;omega),List.getElem?_drop]
   congr 1
   simp
   omega
theorem RepLs.patch {ls xs:List L} {vs ys:List Value} (h:RepLs w g σ ls vs) (hx:RepLs w g σ xs ys) {off:Nat} (ho:off + xs.length ≤ ls.length) :
  RepLs w g σ (patch ls off xs) (vs.take off ++ ys ++ vs.drop (off + ys.length)):=by
 have h1:=h.length
 have h2:=hx.length
 refine .of_nth (by rw[ot ho];simp;omega) fun j l v hl hv=>?_
 unfold Go.Tw.patch at hl
 rw[dD ho] at hl
 rw[dD (by omega)] at hv
 rw[← h2] at hv
 split at hl
 ·rename_i hj
  simp only[hj,if_true] at hv
  obtain ⟨v',hv',hr⟩:=h.nth hl
  rw[hv] at hv';cases hv';exact hr
 ·rename_i hj
  simp only[hj,if_false] at hv
  split at hl
  ·rename_i hj2
   simp only[hj2,if_true] at hv
   obtain ⟨v',hv',hr⟩:=hx.nth hl
   rw[hv] at hv';cases hv';exact hr
  ·rename_i hj2
   simp only[hj2,if_false] at hv
   obtain ⟨v',hv',hr⟩:=h.nth hl
   rw[hv] at hv';cases hv';exact hr
end
section
variable {P:Program} {w:World} {g:Gh} {σ:St} {a:Act}
theorem oX (xs:List Value):∀ (k off:Nat) (cs:Array Value),off + k + xs.length ≤ cs.size →
  ((xs.zipIdx k).foldl (fun (cs:Array Value) (p:Value × Nat)=>cs.setIfInBounds (off + p.2) p.1) cs).toList = cs.toList.take (off + k) ++ xs ++ cs.toList.drop (off + k + xs.length):=by
 induction xs with
 | nil=>intro k off cs h;simp
 | cons x xs ih =>
  intro k off cs h
  simp only[List.length_cons] at h
  simp only[List.zipIdx_cons,List.foldl_cons]
  rw[ih (k + 1) off _ (by simp;omega)]
  have e:=list_seg_step cs.toList (off + k) x xs (by simp;omega)
  simp only[Array.toList_setIfInBounds]
  rw[show off + (k + 1) = off + k + 1 by omega,e,List.length_cons]
theorem oY (hs:Slots w g σ a) (fs:List (Nat × Nat × Bool)) (place:Nat → Option (Nat × Nat)) (hp:∀ i x,fs[i]? = some x → place i = some (x.1,x.2.1)) :
  ∀ (parts:List (Nat × Operand)) (ls ls':List L) (c:Prop) (cs:Array Value),fillL σ fs ls parts = some (c,ls') → c → RepLs w g σ ls cs.toList →
   ∃ cs',Instr.fill place cs (parts.map fun q=>(q.1,a.eval q.2)) = some cs' ∧ RepLs w g σ ls' cs'.toList
 | [],ls,ls',c,cs,h,hc,hr=>by
  simp only[fillL,Option.some.injEq,Prod.mk.injEq] at h
  obtain ⟨_,rfl⟩:=h
  exact ⟨cs,rfl,hr⟩
 | (i,x) :: r,ls,ls',c,cs,h,hc,hr=>by
  simp only[fillL] at h
  split at h
  ·rename_i off sz b c1 v hf hx
   split at h
   ·rename_i xs hxs
    simp only[Option.map_eq_some_iff,Prod.mk.injEq] at h
    obtain ⟨q,hq,rfl,rfl⟩:=h
    obtain ⟨h1,h2,h3,h4⟩:=hc
    have hv:=RepV.cells (az hs hx h1) hxs
    have hlen:=hv.length
    have hl2:=hr.length
    have hsz:(a.eval x).cells.size = sz:=by rw[← h2,hlen];simp
    have hroom:off + (a.eval x).cells.size ≤ cs.size:=by rw[hsz];simp at hl2;omega
    obtain ⟨cs',e,hr'⟩:=oY hs fs place hp r (patch ls off xs) q.2 q.1 ((a.eval x).cells.zipIdx.foldl (fun cs (c,j)=>cs.setIfInBounds (off + j) c) cs) hq h4 (by
     have hpt:=RepLs.patch hr hv (off:=off) (by omega)
     have e:=oX (a.eval x).cells.toList 0 off cs (by simpa using hroom)
     simp only[Nat.add_zero] at e
     rw[← e] at hpt
     rw[← Array.foldl_toList,Array.toList_zipIdx]
     exact hpt)
    refine ⟨cs',?_,hr'⟩
    simp only[List.map_cons,Instr.fill,hp i _ hf]
    rw[if_neg (by simp[hsz];omega)]
    exact e
   ·cases h
  ·cases h
theorem cY {t:TypeId} (h:(P.info? t).isSome):(sizeOf t).run P w = .ok (P.cellsOf t) w:=by
 obtain ⟨i,hi⟩:=Option.isSome_iff_exists.1 h;simp[sizeOf,typeInfo,hi,Program.cellsOf]
theorem mb {gs:List Field} (hk:∀ f ∈ gs,(P.info? f.type).isSome):(gs.mapM (fun f=>do pure (f.offset,← sizeOf f.type):Field → Sem (Nat × Nat))).run P w = .ok (gs.map fun f=>(f.offset,P.cellsOf f.type)) w:=by
 induction gs with
 | nil=>simp
 | cons f gs ih =>
  simp only[List.mapM_cons,Sem.run_bind,cY (hk f (by simp)),Result.andThen_ok,Sem.run_pure,ih fun x hx=>hk x (by simp[hx]),List.map_cons]
theorem tf (hs:Slots w g σ a) {t:TypeId} {fs:List (Nat × Nat × Bool)} (hu:(tyOf P t).u = .st fs) (hf:fieldsKnown P t = true) (hk:(tyOf P t).known = true) {parts:Array (Nat × Operand)} {c:Prop} {ls:List L}
  (h:fillL σ fs (tyOf P t).ze parts.toList = some (c,ls)) (hc:c):∃ r,(∀ w1,(Instr.build t (parts.map fun q=>(q.1,a.eval q.2))).run P w1 = .ok r w1) ∧ RepV w g σ (.agg ls) r:=by
 obtain ⟨gs,hgs,rfl⟩:=u_st hu
 obtain ⟨i,z,hi,hz,hze,_,_,hone⟩:=fj hk
 have hzr:RepLs w g σ (tyOf P t).ze z.cells.toList:=by
  rw[hze]
  refine .of_nth (by simp) fun j l v hl hv=>?_
  simp only[List.getElem?_map,hv,Option.map_some,Option.some.injEq] at hl
  subst hl
  exact jJ v (hone v (List.mem_of_getElem? hv))
 obtain ⟨cs',e,hr⟩:=oY hs _ (fun i=>(gs.toList.map fun f=>(f.offset,P.cellsOf f.type))[i]?) (fun i x hx=>by
  simp only[List.getElem?_map,Option.map_eq_some_iff] at hx ⊢
  obtain ⟨f,hf,rfl⟩:=hx
  exact ⟨f,hf,rfl⟩) parts.toList _ ls c z.cells h hc hzr
 have hall:∀ f ∈ gs.toList,(P.info? f.type).isSome:=by
  simp only[fieldsKnown,hgs,List.all_eq_true,Bool.and_eq_true] at hf
  exact fun f h=>(hf f h).1
 refine ⟨.agg cs',fun w1=>?_,cs'.toList,by simp,hr⟩
 have hpl:(gs.mapM (fun f=>do pure (f.offset,← sizeOf f.type):Field → Sem (Nat × Nat))).run P w1 = .ok (gs.toList.map fun f=>(f.offset,P.cellsOf f.type)).toArray w1:=by
  rw[Array.mapM_eq_mapM_toList]
  rw[Sem.run_map,mb hall]
  rfl
 simp only[Instr.build,zeroValue,typeInfo,Sem.run_bind,run_program,Result.andThen_ok,hi,Sem.run_pure,hz,run_underlying hgs,hpl]
 simp only[List.getElem?_toArray,Array.toList_map,e]
 rfl
end
section
variable {P:Program} {w:World} {g:Gh} {σ:St} {a:Act}
theorem qX {n:Nat} {v u:V} {x:Value} (h:ptrAdd n v = some u) (hx:RepV w g σ v x):∃ ad,x = .pointer (some ad) ∧ RepV w g σ u (.pointer (some (ad.add n))):=by
 unfold ptrAdd at h;split at h
 ·simp only[Option.some.injEq] at h;subst h;obtain ⟨h1,rfl⟩:=hx;exact ⟨_,rfl,h1,by rw[Addr.add_plain rfl]⟩
 ·simp only[Option.some.injEq] at h;subst h;obtain ⟨row,z,es,ad,m,cap,h1,h2,h3,h4,h5,rfl⟩:=hx;exact ⟨_,rfl,row,z,es,ad,m,cap,h1,h2,h3,h4,h5,by rw[Addr.add_plain rfl];simp[Nat.add_assoc]⟩
 ·cases h
theorem oZ (hs:Slots w g σ a):∀ (xs:List Operand) (c:Prop) (bs:List Nat),capsV σ xs = some (c,bs) → c →
  (∀ b ∈ bs,(get σ.box b).isSome) ∧ xs.map a.eval = bs.map fun b=>Value.pointer (some ⟨g.bx b,0,none⟩)
 | [],c,bs,h,hc=>by
  simp only[capsV,Option.some.injEq,Prod.mk.injEq] at h
  obtain ⟨_,rfl⟩:=h
  exact ⟨by simp,rfl⟩
 | x :: xs,c,bs,h,hc=>by
  simp only[capsV] at h
  split at h
  ·rename_i c1 b hx
   simp only[Option.map_eq_some_iff,Prod.mk.injEq] at h
   obtain ⟨q,hq,rfl,rfl⟩:=h
   obtain ⟨h1,h2⟩:=oZ hs xs q.1 q.2 hq hc.2
   obtain ⟨h3,h4⟩:=az hs hx hc.1
   exact ⟨fun b hb=>(List.mem_cons.1 hb).elim (fun e=>by rw[e];exact h3) (h1 b),by simp[h4,h2]⟩
  ·cases h
theorem View.sub {u v:Value} {z off len:Nat} (h:View u z off len v) {l k:Nat} (hl:off + l ≤ (match u with | .slice _ _ c=>c | _=>0)) :
  ∃ oa cap,v = .slice oa len (cap) ∧ View u z (off + l) k (.slice (if cap = l then oa else oa.map fun x=>x.add (l * z)) k (cap - l)) ∧ l ≤ cap:=by
 obtain ⟨oa,n,cap,oa',rfl,rfl,h3⟩:=h
 simp only at hl
 refine ⟨oa',cap - off,rfl,⟨oa,n,cap,(if cap - off = l then oa' else oa'.map fun x=>x.add (l * z)),rfl,by rw[Nat.sub_sub],?_⟩,by omega⟩
 by_cases e:cap = off + l
 ·exact Or.inl e
 ·right
  rw[if_neg (by omega)]
  rcases h3 with h3 | h3
  ·omega
  ·rw[h3]
   cases oa with
   | none=>rfl
   | some x =>
    simp only[Option.map_some,Option.some.injEq]
    unfold Addr.add
    by_cases h1:off * z = 0
    ·by_cases h2:l * z = 0
     ·have:(off + l) * z = 0:=by rw[Nat.add_mul];omega
      simp[h1,h2,this]
     ·have:(off + l) * z = l * z:=by rw[Nat.add_mul];omega
      simp[h1,this]
    ·by_cases h2:l * z = 0
     ·have:(off + l) * z = off * z:=by rw[Nat.add_mul];omega
      simp[h2,this]
     ·have:¬ (off + l) * z = 0:=by rw[Nat.add_mul];omega
      simp only[h1,h2,this,if_false,Addr.mk.injEq,and_true,true_and]
      rw[Nat.add_mul]
      omega
theorem gK {x:Option Operand} {d n:Int} {c:Prop} (hs:Slots w g σ a) (h:boundV σ x d = some (c,n)) (hc:c) {y:Nat} {code:BoundsCode} {w1:World} (h0:0 ≤ n) (hy:n ≤ y) :
  ∀ v,x.map a.eval = some v → (Instr.sliceBound v y code).run P w1 = .ok n.toNat w1:=by
 intro v hv
 rcases fL hs h hc with ⟨rfl,_⟩ | ⟨o,k,rfl,e⟩
 ·cases hv
 ·simp only[Option.map_some,Option.some.injEq] at hv
  subst hv
  simp[Instr.sliceBound,e,asIntOf,h0,hy]
theorem iX {lo hi:Option Operand} {l h:Int} {c1 c2:Prop} {dh:Int} (hs:Slots w g σ a) (hl:boundV σ lo 0 = some (c1,l)) (hh:boundV σ hi dh = some (c2,h)) (h1:c1) (h2:c2)
  {isS:Bool} {len cap:Nat} {w1:World} (hd:dh = len) (h0:0 ≤ l) (hlh:l ≤ h) (hcap:h ≤ cap):(Instr.sliceBounds isS len cap (lo.map a.eval) (hi.map a.eval) none).run P w1 = .ok (l.toNat,h.toNat,cap) w1:=by
 have eh:(match hi.map a.eval with | some v=>Instr.sliceBound v cap (if isS then BoundsCode.sliceAcap else .sliceAlen) | none=>pure len:Sem Nat).run P w1 = .ok h.toNat w1:=by
  cases hx:hi.map a.eval with
  | none =>
   rcases fL hs hh h2 with ⟨rfl,e⟩ | ⟨o,k,rfl,e⟩
   ·subst e;subst hd;simp
   ·simp at hx
  | some v=>exact gK hs hh h2 (by omega) hcap v hx
 have el:(match lo.map a.eval with | some v=>Instr.sliceBound v h.toNat BoundsCode.sliceB | none=>pure 0:Sem Nat).run P w1 = .ok l.toNat w1:=by
  cases hx:lo.map a.eval with
  | none =>
   rcases fL hs hl h1 with ⟨rfl,e⟩ | ⟨o,k,rfl,e⟩
   ·subst e;simp
   ·simp at hx
  | some v=>exact gK hs hl h1 h0 (by omega) v hx
 cases hx:hi.map a.eval <;> cases hy:lo.map a.eval <;> simp only[hx,hy] at eh el <;> simp[Instr.sliceBounds,eh,el]
 all_goals first
  | (simp at eh;simp[eh] at el ⊢;first | exact el | simp_all)
  | simp_all
theorem pa {lo:Option Operand} {ho mo:Operand} {l h m:Int} {c1 c2 c3:Prop} (hs:Slots w g σ a) (hl:boundV σ lo 0 = some (c1,l)) (hh:boundV σ (some ho) 0 = some (c2,h)) (hm:boundV σ (some mo) 0 = some (c3,m)) (h1:c1) (h2:c2) (h3:c3)
  {len cap:Nat} {w1:World} (h0:0 ≤ l) (hlh:l ≤ h) (hhm:h ≤ m) (hcap:m ≤ cap):(Instr.sliceBounds true len cap (lo.map a.eval) (some (a.eval ho)) (some (a.eval mo))).run P w1 = .ok (l.toNat,h.toNat,m.toNat) w1:=by
 have em:(Instr.sliceBound (a.eval mo) cap .slice3Acap).run P w1 = .ok m.toNat w1:=gK hs hm h3 (by omega) hcap _ rfl
 have eh:(Instr.sliceBound (a.eval ho) m.toNat .slice3B).run P w1 = .ok h.toNat w1:=gK hs hh h2 (by omega) (by omega) _ rfl
 cases hy:lo.map a.eval with
 | none =>
  have e0:l = 0:=by
   rcases fL hs hl h1 with ⟨rfl,e⟩ | ⟨o,k,rfl,e⟩
   ·exact e
   ·simp at hy
  subst e0
  simp[Instr.sliceBounds,em,eh]
 | some v =>
  have el:(Instr.sliceBound v h.toNat .slice3C).run P w1 = .ok l.toNat w1:=gK hs hl h1 h0 (by omega) v hy
  simp[Instr.sliceBounds,em,eh,el]
end
section
variable {P:Program} {w:World} {g:Gh} {σ:St} {a:Act}
theorem Rep.cap_ge {o:Bool} {oa:Option Addr} {n cap z:Nat} {es:Els} {F:Blks} (h:Rep w o (.slice oa n cap) (.sl z es) F):es.length ≤ cap ∧ n = es.length:=by
 cases h with
 | nils=>simp
 | bare=>simp
 | sl f hl=>exact ⟨hl.len,rfl⟩
theorem tg (m:Mem w g σ) (hs:Slots w g σ a) {t e:TypeId} {x:Operand} {lo hi:Option Operand} {r:Nat} {p:Path} {z off len:Nat} {c:Bool} {l h:Int} {c1 c2:Prop} {es:Els} {z':Nat}
  (hx:evO σ x = some (c,.l (.ref r p z off len))) (hu:(tyOf P t).u = .sl e) (hl:boundV σ lo 0 = some (c1,l)) (hh:boundV σ hi len = some (c2,h)) (hn:nodeOf σ r p = some (z',es))
  (hc:c = true) (h1:c1) (h2:c2) (h0:0 ≤ l ∧ l ≤ h ∧ h ≤ (es.length:Int) - off) (hz:(tyOf P e).sz = z) (hk:(tyOf P e).known = true) :
  ∃ v,(∀ w1,(Instr.sliceAt t (a.eval x) (lo.map a.eval) (hi.map a.eval) none).run P w1 = .ok v w1) ∧ RepV w g σ (.l (.ref r p z (off + l.toNat) (h.toNat - l.toNat))) v:=by
 obtain ⟨row,es',u,e1,e2,e3,e4,e5⟩:=az hs hx hc
 have hn':nodeOf σ r p = some (z,es'):=by simp[nodeOf,e1,e2]
 rw[hn] at hn'
 simp only[Option.some.injEq,Prod.mk.injEq] at hn'
 obtain ⟨rfl,rfl⟩:=hn'
 obtain ⟨u',hu',hru⟩:=m.at e1 e2
 rw[e3] at hu'
 cases hu'
 obtain ⟨oa,n,cap,oa',rfl,hv,hoa⟩:=id e5
 obtain ⟨hcap,_⟩:=hru.cap_ge
 obtain ⟨oa2,cap2,hv2,hview,hle⟩:=e5.sub (l:=l.toNat) (k:=h.toNat - l.toNat) (by simp only;omega)
 have hb:=fun w1=>iX (P:=P) (w:=w) (w1:=w1) hs hl hh h1 h2 (isS:=true) (len:=len) (cap:=cap2) rfl h0.1 h0.2.1 (by
  rw[hv] at hv2
  injection hv2 with _ _ h3
  omega)
 refine ⟨_,fun w1=>?_,row,es,.slice oa n cap,e1,e2,e3,by omega,hview⟩
 rw[hv2]
 simp only[Instr.sliceAt,Sem.run_bind,run_underlying (gJ hu),Result.andThen_ok,Instr.slice,hb,cg hk,Sem.run_pure,hz]
theorem qY (m:Mem w g σ) (hs:Slots w g σ a) {t e:TypeId} {x:Operand} {lo:Option Operand} {ho mo:Operand} {r:Nat} {p:Path} {z off len:Nat} {c:Bool} {l h q:Int} {c1 c2 c3:Prop} {es:Els} {z':Nat}
  (hx:evO σ x = some (c,.l (.ref r p z off len))) (hu:(tyOf P t).u = .sl e) (hl:boundV σ lo 0 = some (c1,l)) (hh:boundV σ (some ho) 0 = some (c2,h)) (hq:boundV σ (some mo) 0 = some (c3,q)) (hn:nodeOf σ r p = some (z',es))
  (hc:c = true) (h1:c1) (h2:c2) (h3:c3) (h0:0 ≤ l ∧ l ≤ h ∧ h ≤ q ∧ q ≤ (es.length:Int) - off) (hz:(tyOf P e).sz = z) (hk:(tyOf P e).known = true) :
  ∃ v,(∀ w1,(Instr.sliceAt t (a.eval x) (lo.map a.eval) (some (a.eval ho)) (some (a.eval mo))).run P w1 = .ok v w1) ∧ RepV w g σ (.l .undef) v:=by
 obtain ⟨row,es',u,e1,e2,e3,e4,e5⟩:=az hs hx hc
 have hn':nodeOf σ r p = some (z,es'):=by simp[nodeOf,e1,e2]
 rw[hn] at hn'
 simp only[Option.some.injEq,Prod.mk.injEq] at hn'
 obtain ⟨rfl,rfl⟩:=hn'
 obtain ⟨u',hu',hru⟩:=m.at e1 e2
 rw[e3] at hu'
 cases hu'
 obtain ⟨oa,n,cap,oa',rfl,hv,hoa⟩:=id e5
 obtain ⟨hcap,_⟩:=hru.cap_ge
 have hb:=fun w1=>pa (P:=P) (w:=w) (w1:=w1) hs hl hh hq h1 h2 h3 (len:=len) (cap:=cap - off) h0.1 h0.2.1 h0.2.2.1 (by omega)
 refine ⟨.slice (if q.toNat = l.toNat then oa' else oa'.map (·.add (l.toNat * (tyOf P e).sz))) (h.toNat - l.toNat) (q.toNat - l.toNat),fun w1=>?_,rfl⟩
 rw[hv]
 simp only[Instr.sliceAt,Sem.run_bind,run_underlying (gJ hu),Result.andThen_ok,Instr.slice,hb,cg hk,Sem.run_pure]
theorem th (m:Mem w g σ) (hs:Slots w g σ a) {t e:TypeId} {x ix:Operand} {r:Nat} {p:Path} {z off len:Nat} {c c':Bool} {k:IntKind} {i:Int}
  (hx:evO σ x = some (c,.l (.ref r p z off len))) (hix:evO σ ix = some (c',.l (.t (.int k i)))) (hu:(tyOf P t).u = .sl e)
  (hc:c = true) (hc':c' = true) (hi:0 ≤ i ∧ i < (len:Int)) (hz:(tyOf P e).sz = z) (hk:(tyOf P e).known = true) (d:Nat) :
  ∃ v,(∀ w1,(Instr.indexAt t (a.eval x) (a.eval ix)).run P w1 = .ok v w1) ∧ RepV w g σ (.l (.ept r p (off + i.toNat) 0 d)) v:=by
 obtain ⟨row,es,u,e1,e2,e3,e4,e5⟩:=az hs hx hc
 obtain ⟨u',hu',hru⟩:=m.at e1 e2
 rw[e3] at hu'
 cases hu'
 obtain ⟨oa,n,cap,oa',rfl,hv,hoa⟩:=e5
 obtain ⟨hcap,_⟩:=hru.cap_ge
 obtain ⟨x0,hx0⟩:∃ x0,es[off + i.toNat]? = some x0:=⟨_,List.getElem?_eq_getElem (by omega)⟩
 obtain ⟨ad,rfl,_,hsp,_,_⟩:=hru.elem hx0
 rcases hoa with hoa | hoa
 ·omega
 ·have hi':a.eval ix = .int k i:=bR (g:=g) (σ:=σ) (az hs hix hc')
  refine ⟨.pointer (some ((ad.add (off * z)).add (i.toNat * z))),fun w1=>?_,row,z,es,ad,n,cap,e1,e2,e3,by omega,hsp,?_⟩
  ·rw[hv,hoa,hi']
   simp only[Instr.indexAt,asIntOf,Sem.run_bind,Sem.run_pure,Result.andThen_ok,run_underlying (gJ hu),Option.map_some,hi,and_self,if_true,cg hk,hz]
  ·rw[Addr.add_plain hsp,Addr.add_plain rfl]
   simp[Nat.add_mul,Nat.add_assoc]
theorem mB:∀ {es:Els} {ns:List Int},bytesT es = some ns → es.length = ns.length ∧ ∀ i,(h:i < ns.length) → es[i]? = some [T.int .u8 ns[i]]
 | [],ns,h=>by simp only[bytesT,Option.some.injEq] at h;subst h;exact ⟨rfl,fun i h=>by simp at h⟩
 | x :: r,ns,h=>by
  unfold bytesT at h
  split at h
  ·rename_i h0;cases h0
  ·rename_i n r' heq
   simp only[List.cons.injEq] at heq
   obtain ⟨rfl,rfl⟩:=heq
   simp only[Option.map_eq_some_iff] at h
   obtain ⟨ns',h1,rfl⟩:=h
   obtain ⟨h2,h3⟩:=mB h1
   refine ⟨by simp[h2],fun i hi=>?_⟩
   cases i with
   | zero=>rfl
   | succ i=>simpa using h3 i (by simpa using hi)
  ·cases h
theorem uL (m:Mem w g σ) {src e dst:TypeId} {r off len:Nat} {p:Path} {x:Value} (hx:RepL w g σ (.ref r p 1 off len) x) (hs:(tyOf P src).u = .sl e) (he:(tyOf P e).u = .int .u8) (hd:(tyOf P dst).u = .str)
  {z:Nat} {es:Els} (hn:nodeOf σ r p = some (z,es)) {ns:List Int} (hb:bytesT ((es.drop off).take len) = some ns) {w1:World} (hk1:Kept w w1):(convert src dst x).run P w1 = .ok (.string (strOfNums ns)) w1:=by
 obtain ⟨row,es',u,e1,e2,e3,e4,e5⟩:=hx
 have hn':nodeOf σ r p = some (1,es'):=by simp[nodeOf,e1,e2]
 rw[hn] at hn'
 simp only[Option.some.injEq,Prod.mk.injEq] at hn'
 obtain ⟨rfl,rfl⟩:=hn'
 obtain ⟨u',hu',hru⟩:=m.at e1 e2
 rw[e3] at hu'
 cases hu'
 obtain ⟨hl,hg⟩:=mB hb
 have hlen:ns.length = len:=by rw[← hl,List.length_take,List.length_drop];omega
 obtain ⟨oa,n,cap,oa',rfl,rfl,hoa⟩:=e5
 obtain ⟨hcap,_⟩:=hru.cap_ge
 by_cases h0:len = 0
 ·subst h0
  have:ns = []:=List.length_eq_zero_iff.1 hlen
  subst this
  cases oa' with
  | none=>exact run_convert_bytes_nil w1 src e (gJ hs) (sK he) _ _ dst (mA hd)
  | some a =>
   rw[run_convert_bytes_string w1 src dst e _ _ _ (gJ hs) (sK he) (mA hd),run_bytesToString w1 a 0 _ [] (by
    have:=run_loadCells_list (P:=P) w1 a [] (fun j v hj=>by simp at hj)
    simpa using this)]
   rfl
 ·have hat:∀ i,(hi:i < ns.length) → es[off + i]? = some [T.int .u8 ns[i]]:=by
   intro i hi
   have:=hg i hi
   rw[List.getElem?_take,if_pos (by omega),List.getElem?_drop] at this
   exact this
  obtain ⟨a,rfl,_,hsp,_,_⟩:=hru.elem (hat 0 (by omega))
  rcases hoa with hoa | hoa
  ·omega
  ·subst hoa
   have hadd:a.add (off * 1) = ⟨a.block,a.off + off,none⟩:=by rw[Addr.add_plain hsp,Nat.mul_one]
   simp only[Option.map_some]
   rw[hadd]
   refine run_convert_bytes_arg w1 src e (gJ hs) (sK he) a.block (a.off + off) len _ ns hlen (fun i hi=>?_) dst (mA hd)
   obtain ⟨a2,ha2,_,_,_,hc⟩:=hru.elem (hat i (by omega))
   simp only[Option.some.injEq] at ha2
   subst ha2
   obtain ⟨v,G,hv,hrv,_⟩:=hc 0 _ rfl
   rw[Nat.mul_one,Nat.add_zero] at hv
   have hv:=hk1.cell hv
   rw[Nat.add_assoc,hv]
   have:v = .int .u8 ns[i]:=by cases hrv;rfl
   rw[this,List.getD_eq_getElem?_getD,List.getElem?_eq_getElem (by omega)]
   rfl
end
section
variable {P:Program} {w:World} {g:Gh} {σ:St} {a:Act}
theorem str_at {s:ByteArray} {i:Int} (h0:0 ≤ i) (h:i < (s.size:Int)):s[i.toNat]? = some (s.data.getD i.toNat 0):=by
 (have hi:i.toNat < s.size:=by omega);rw[getElem?_pos s i.toNat hi];congr 1;have hi':i.toNat < s.data.size:=hi;rw[Array.getD_eq_getD_getElem?,Array.getElem?_eq_getElem hi'];rfl
theorem ou {b:Bool} {ls:List L} {v:V} (h:ofLeaves b ls = some v):(b = true ∧ v = .agg ls) ∨ (b = false ∧ ∃ l,ls = [l] ∧ v = .l l):=by
 unfold ofLeaves at h;cases b with
 | true=>simp at h;exact Or.inl ⟨rfl,h.symm⟩
 | false =>
  simp only[Bool.false_eq_true,if_false] at h;split at h
  ·simp at h;exact Or.inr ⟨rfl,_,rfl,h.symm⟩
  ·cases h
theorem RepWs.nth:∀ {xs:List (Bool × List L)} {vs:List Value},RepWs w g σ xs vs → ∀ {j:Nat} {x:Bool × List L},xs[j]? = some x → ∃ v,vs[j]? = some v ∧ RepW w g σ x.1 x.2 v
 | x :: xs,v :: vs,h,0,x',hx=>by simp at hx;subst hx;exact ⟨v,rfl,h.1⟩
 | x :: xs,v :: vs,h,j + 1,x',hx=>by simpa using RepWs.nth h.2 (by simpa using hx)
 | [],_,_,_,_,hx=>by simp at hx
 | _ :: _,[],h,_,_,_=>h.elim
theorem fM {w1:World} (d:Nat) (xs ys:List Value):∀ (fs:List Field) (ks:List Bool) (off:Nat) (l1 l2:List L) (b:Bool),fieldKindsL P off fs = some ks → eqLs ks l1 l2 = some b → RepLs w g σ l1 (xs.drop off) → RepLs w g σ l2 (ys.drop off) →
  (Op.eqFields (d + 1) xs.toArray ys.toArray fs).run P w1 = .ok b w1
 | [],ks,off,l1,l2,b,hk,hb,_,_=>by
  simp only[fieldKindsL,Option.some.injEq] at hk
  subst hk
  match l1,l2,hb with
  | [],[],hb =>
   simp only[eqLs,Option.some.injEq] at hb
   subst hb
   simp[Op.eqFields]
  | [],_ :: _,hb=>simp[eqLs] at hb
  | _ :: _,_,hb=>simp[eqLs] at hb
 | f :: fs,ks,off,l1,l2,b,hk,hb,h1,h2=>by
  have split:∀ {l:L} {ls:List L} {zs:List Value},RepLs w g σ (l :: ls) (zs.drop off) → ∃ v,zs.toArray[off]? = some v ∧ RepL w g σ l v ∧ RepLs w g σ ls (zs.drop (off + 1)):=by
   intro l ls zs h
   cases hd:zs.drop off with
   | nil=>rw[hd] at h;exact h.elim
   | cons v r =>
    rw[hd] at h
    have hlt:off < zs.length:=by
     apply Nat.lt_of_not_le
     intro hle
     rw[List.drop_of_length_le hle] at hd
     cases hd
    rw[List.drop_eq_getElem_cons hlt] at hd
    obtain ⟨rfl,rfl⟩:=List.cons.inj hd
    exact ⟨_,by simp[hlt],h.1,h.2⟩
  simp only[fieldKindsL] at hk
  split at hk
  ·rename_i hf
   obtain ⟨hoff,hname⟩:=hf
   split at hk
   ·rename_i k hu
    simp only[Option.map_eq_some_iff] at hk
    obtain ⟨ks',hk',rfl⟩:=hk
    match l1,l2,hb with
    | .t (.int .i64 p) :: l1,.t (.int .i64 q) :: l2,hb =>
     simp only[eqLs,Option.map_eq_some_iff] at hb
     obtain ⟨b',hb',rfl⟩:=hb
     obtain ⟨v1,g1,r1,t1⟩:=split h1
     obtain ⟨v2,g2,r2,t2⟩:=split h2
     have e1:=bR (g:=g) (σ:=σ) r1
     have e2:=bR (g:=g) (σ:=σ) r2
     subst e1 e2
     have hp:P.plainKey f.type = true:=by simp[Program.plainKey,hu]
     have ih:=fM (w1:=w1) d xs ys fs ks' (off + 1) l1 l2 b' hk' hb' t1 t2
     subst hoff
     simp only[Op.eqFields,hname,ne_eq,not_false_eq_true,if_true,Sem.run_bind,run_part_plain w1 hp g1,run_part_plain w1 hp g2,Result.andThen_ok,run_equalIn_int w1 d f.type .i64 k p q hu]
     cases hpq:(p == q) with
     | true=>simpa using ih
     | false=>simp
    | [],_,hb=>simp[eqLs] at hb
    | .t (.int .i64 _) :: _,[],hb=>simp[eqLs] at hb
   ·rename_i hu
    simp only[Option.map_eq_some_iff] at hk
    obtain ⟨ks',hk',rfl⟩:=hk
    match l1,l2,hb with
    | .t (.bool p) :: l1,.t (.bool q) :: l2,hb =>
     simp only[eqLs,Option.map_eq_some_iff] at hb
     obtain ⟨b',hb',rfl⟩:=hb
     obtain ⟨v1,g1,r1,t1⟩:=split h1
     obtain ⟨v2,g2,r2,t2⟩:=split h2
     have e1:=cu (g:=g) (σ:=σ) r1
     have e2:=cu (g:=g) (σ:=σ) r2
     subst e1 e2
     have hp:P.plainKey f.type = true:=by simp[Program.plainKey,hu]
     have ih:=fM (w1:=w1) d xs ys fs ks' (off + 1) l1 l2 b' hk' hb' t1 t2
     subst hoff
     simp only[Op.eqFields,hname,ne_eq,not_false_eq_true,if_true,Sem.run_bind,run_part_plain w1 hp g1,run_part_plain w1 hp g2,Result.andThen_ok,run_equalIn_bool' w1 d f.type p q hu]
     cases hpq:(p == q) with
     | true=>simpa using ih
     | false=>simp
    | [],_,hb=>simp[eqLs] at hb
    | .t (.bool _) :: _,[],hb=>simp[eqLs] at hb
   ·cases hk
  ·cases hk
theorem nJ {w1:World} {op:BinOp} {t:TypeId} {x y:Operand} {ks:List Bool} {l1 l2:List L} {xs ys:List Value} {b:Bool} (hk:fieldKinds P t = some ks) (hb:eqLs ks l1 l2 = some b) (h1:RepLs w g σ l1 xs) (h2:RepLs w g σ l2 ys) :
  (eqGuard op t x y (.agg xs.toArray) (.agg ys.toArray)).run P w1 = .ok () w1 ∧ (Op.equalIn 10000 t (.agg xs.toArray) (.agg ys.toArray)).run P w1 = .ok b w1:=by
 unfold fieldKinds at hk
 split at hk
 ·rename_i fs hu
  split at hk
  ·rename_i hst
   have hfs:P.fieldsOf t = fs:=by simp[Program.fieldsOf,hu]
   refine ⟨run_eqGuard_agg w1 op t x y _ _ hst.2,?_⟩
   show (Op.equalIn (9999 + 1) t _ _).run P w1 = _
   rw[run_equalIn_struct w1 9999 t _ _ (by rw[hfs];exact hu) hst.1,hfs]
   exact fM 9998 xs ys fs.toList ks 0 l1 l2 b hk hb (by simpa using h1) (by simpa using h2)
  ·cases hk
 ·cases hk
theorem pb {op:BinOp} {t:TypeId} {x y:Operand} {u v:Value} {ta:T} {F:Blks} {w1:World} (h:Rep w false u ta F) (hh:ta ≠ .hole):(eqGuard op t x y u v).run P w1 = .ok () w1:=by
 unfold eqGuard;cases h with
 | hole=>exact absurd rfl hh
 | _=>cases op <;> rfl
set_option maxHeartbeats 1000000 in
def stillOp:Op → Bool
 | .load .. | .convert ..=>false
 | _=>true
theorem pd (m:Mem w g σ) (hs:Slots w g σ a) {o:Oper} {c:Prop} {v:V} (h:pv P σ o.op = some (c,v)) (hc:c):∃ r,(∀ w1,(stillOp o.op = true ∨ Kept w w1) → (execOp a.eval o).run P w1 = .ok (.value r) w1) ∧ RepV w g σ v r:=by
 obtain ⟨dst,op,type,pos,after,guard⟩:=o;simp only at h;cases op with
 | move x =>
  simp only[pv,Option.map_eq_some_iff,Prod.mk.injEq] at h;obtain ⟨⟨c0,v0⟩,hx,rfl,rfl⟩:=h;exact ⟨_,fun w1 hk1=>by simp[execOp],az hs hx hc⟩
 | assign x =>
  simp only[pv,Option.map_eq_some_iff,Prod.mk.injEq] at h;obtain ⟨⟨c0,v0⟩,hx,rfl,rfl⟩:=h;exact ⟨_,fun w1 hk1=>by simp[execOp],az hs hx hc⟩
 | pick x y z =>
  simp only[pv] at h;split at h
  ·rename_i cc x0 ca y0 cb z0 hx hy hz
   simp only[Option.some.injEq,Prod.mk.injEq] at h;obtain ⟨rfl,rfl⟩:=h;obtain ⟨h1,h2,h3⟩:=hc;have e1:=cu (g:=g) (σ:=σ) (az hs hx h1);cases x0 with
   | true=>exact ⟨a.eval y,fun w1 hk1=>by simp[execOp,e1,asBool],az hs hy (h2 rfl)⟩
   | false=>exact ⟨a.eval z,fun w1 hk1=>by simp[execOp,e1,asBool],az hs hz (h3 rfl)⟩
  ·cases h
 | binOp op t x y yt =>
  simp only[pv] at h;split at h
  ·rename_i c1 ta c2 tb hx hy
   split at h
   ·rename_i a0 b0
    simp only[Option.some.injEq,Prod.mk.injEq] at h;obtain ⟨rfl,rfl⟩:=h;obtain ⟨h1,h2,h3⟩:=hc;have e1:=cu (g:=g) (σ:=σ) (az hs hx h1);have e2:=cu (g:=g) (σ:=σ) (az hs hy h2);exact ⟨.bool (a0 == b0),fun w1 hk1=>by simp[execOp,e1,e2,eqGuard,run_eql_bool w1 t a0 b0 (uK h3)],.bool⟩
   ·rename_i a0 b0
    simp only[Option.some.injEq,Prod.mk.injEq] at h;obtain ⟨rfl,rfl⟩:=h;obtain ⟨h1,h2,h3⟩:=hc;have e1:=cu (g:=g) (σ:=σ) (az hs hx h1);have e2:=cu (g:=g) (σ:=σ) (az hs hy h2);exact ⟨.bool (!(a0 == b0)),fun w1 hk1=>by simp[execOp,e1,e2,eqGuard,run_neq_bool w1 t a0 b0 (uK h3)],.bool⟩
   ·simp only[Option.map_eq_some_iff,Prod.mk.injEq] at h;obtain ⟨⟨c0,z0⟩,hb,rfl,rfl⟩:=h;obtain ⟨h1,h2,h3⟩:=hc;have r1:Rep w false (a.eval x) ta fun _=>False:=az hs hx h1;have r2:Rep w false (a.eval y) tb fun _=>False:=az hs hy h2;obtain ⟨r,hr,hrep⟩:=uJ (P:=P) (t:=t) r1 r2 hb h3;refine ⟨r,fun w1 hk1=>?_,hrep⟩;have hg:(eqGuard op t x y (a.eval x) (a.eval y)).run P w1 = .ok () w1:=pb r1 (fun e=>by rw[e] at hb;simp[binT] at hb);simp only[execOp,Sem.run_bind,hg,Result.andThen_ok,hr,Sem.run_pure]
  ·rename_i c1 l1 c2 l2 hx hy
   split at h
   ·rename_i ks hk
    simp only[Option.map_eq_some_iff,Prod.mk.injEq] at h;obtain ⟨b,hb,rfl,rfl⟩:=h;obtain ⟨us,e1,r1⟩:=az hs hx hc.1;obtain ⟨vs,e2,r2⟩:=az hs hy hc.2;refine ⟨.bool b,fun w1 hk1=>?_,.bool⟩;obtain ⟨hg,hr⟩:=nJ (w1:=w1) (op:=.eql) (x:=x) (y:=y) hk hb r1 r2;simp only[execOp,e1,e2,Sem.run_bind,hg,Result.andThen_ok,run_eql_struct,hr,Sem.run_pure]
   ·rename_i ks hk
    simp only[Option.map_eq_some_iff,Prod.mk.injEq] at h;obtain ⟨b,hb,rfl,rfl⟩:=h;obtain ⟨us,e1,r1⟩:=az hs hx hc.1;obtain ⟨vs,e2,r2⟩:=az hs hy hc.2;refine ⟨.bool (!b),fun w1 hk1=>?_,.bool⟩;obtain ⟨hg,hr⟩:=nJ (w1:=w1) (op:=.neq) (x:=x) (y:=y) hk hb r1 r2;simp only[execOp,e1,e2,Sem.run_bind,hg,Result.andThen_ok,run_neq_struct,hr,Sem.run_pure]
   ·cases h
  ·cases h
 | unOp op t x =>
  simp only[pv] at h;split at h
  ·rename_i c0 ta hx
   simp only[Option.map_eq_some_iff,Prod.mk.injEq] at h;obtain ⟨z,hz,rfl,rfl⟩:=h;have r1:Rep w false (a.eval x) ta fun _=>False:=az hs hx hc;unfold notT at hz;split at hz
   ·split at hz
    ·simp only[Option.some.injEq] at hz;subst hz;rename_i b0
     have e1:=cu (g:=g) (σ:=σ) r1;exact ⟨_,fun w1 hk1=>by simp only[execOp,e1,Op.unary];rfl,.bool⟩
    ·cases hz
   ·split at hz
    ·simp only[Option.some.injEq] at hz;subst hz;rename_i k n
     have e1:=bR (g:=g) (σ:=σ) r1;exact ⟨_,fun w1 hk1=>by simp only[execOp,e1,Op.unary,Op.intArith];rfl,.int⟩
    ·cases hz
   ·cases hz
  ·cases h
 | convert src dst x =>
  simp only[pv] at h;split at h
  ·rename_i c0 ta hx
   simp only[Option.map_eq_some_iff,Prod.mk.injEq] at h;obtain ⟨⟨c1,z⟩,hz,rfl,rfl⟩:=h;obtain ⟨h1,h2⟩:=hc;have r1:Rep w false (a.eval x) ta fun _=>False:=az hs hx h1;unfold convT at hz;split at hz
   ·rename_i k0 n
    have e1:=bR (g:=g) (σ:=σ) r1;split at hz
    ·rename_i k hk
     simp only[Option.some.injEq,Prod.mk.injEq] at hz;obtain ⟨rfl,rfl⟩:=hz;obtain ⟨d,hd⟩:=Option.isSome_iff_exists.1 (u_ok h2);exact ⟨.int k (k.wrap n),fun w1 hk1=>by simp only[execOp,convert,Sem.run_bind,run_underlying hd,Result.andThen_ok,run_underlying (sK hk),e1];cases d <;> rfl,.int⟩
    ·rename_i hk
     simp only[Option.some.injEq,Prod.mk.injEq] at hz;obtain ⟨rfl,rfl⟩:=hz;obtain ⟨d,hd⟩:=Option.isSome_iff_exists.1 (u_ok h2);exact ⟨.string (Utf8.encode n),fun w1 hk1=>by simp only[execOp,convert,Sem.run_bind,run_underlying hd,Result.andThen_ok,run_underlying (mA hk),e1];cases d <;> rfl,.str⟩
    ·cases hz
   ·cases hz
  ·rename_i c0 r p off len hx
   split at h
   ·rename_i e z es hs1 hd1 hn
    split at h
    ·rename_i ns he hb
     simp only[Option.some.injEq,Prod.mk.injEq] at h;obtain ⟨rfl,rfl⟩:=h;refine ⟨.string (strOfNums ns),fun w1 hk1=>?_,.str⟩;(have hk2:Kept w w1:=by rcases hk1 with h | h;cases h;exact h);simp only[execOp,Sem.run_bind,uL (P:=P) m (az hs hx hc) hs1 he hd1 hn hb hk2,Result.andThen_ok,Sem.run_pure]
    ·cases h
   ·cases h
  ·cases h
 | extract x i =>
  simp only[pv] at h;split at h
  ·rename_i c0 vs hx
   split at h
   ·rename_i ls hi
    simp only[Option.some.injEq,Prod.mk.injEq] at h;obtain ⟨rfl,rfl⟩:=h;obtain ⟨us,e,hr⟩:=az hs hx hc;obtain ⟨u,hu,hru⟩:=hr.nth hi;refine ⟨u,fun w1 hk1=>by simp[execOp,e,Instr.extract,hu],?_⟩;simp only[RepW,if_true] at hru;exact hru
   ·rename_i l hi
    simp only[Option.some.injEq,Prod.mk.injEq] at h;obtain ⟨rfl,rfl⟩:=h;obtain ⟨us,e,hr⟩:=az hs hx hc;obtain ⟨u,hu,hru⟩:=hr.nth hi;refine ⟨u,fun w1 hk1=>by simp[execOp,e,Instr.extract,hu],?_⟩;simp only[RepW,Bool.false_eq_true,if_false,List.cons.injEq,and_true] at hru;obtain ⟨l',rfl,hru⟩:=hru;exact hru
   ·cases h
  ·cases h
 | nilCheck x =>
  simp only[pv] at h;split at h
  ·rename_i c0 b j hx
   simp only[Option.some.injEq,Prod.mk.injEq] at h;obtain ⟨rfl,rfl⟩:=h;obtain ⟨h1,h2⟩:=az hs hx hc;exact ⟨_,fun w1 hk1=>by simp only[execOp,h2];rfl,h1,rfl⟩
  ·rename_i c0 r p i j hx
   simp only[Option.some.injEq,Prod.mk.injEq] at h;obtain ⟨rfl,rfl⟩:=h;have hr:=az hs hx hc;obtain ⟨row,z,es,ad,n,cap,h1,h2,h3,h4,h5,h6⟩:=id hr;exact ⟨_,fun w1 hk1=>by simp only[execOp,h6];rfl,row,z,es,ad,n,cap,h1,h2,h3,h4,h5,rfl⟩
  ·cases h
 | fieldAddr t x f =>
  simp only[pv] at h;split at h
  ·rename_i c0 v0 fs hx hu
   split at h
   ·rename_i off sz b hf
    simp only[Option.map_eq_some_iff,Prod.mk.injEq] at h;obtain ⟨u,hu',rfl,rfl⟩:=h;obtain ⟨ad,e,hr⟩:=qX hu' (az hs hx hc.1);obtain ⟨gs,hgs,rfl⟩:=u_st hu;simp only[List.getElem?_map,Option.map_eq_some_iff,Prod.mk.injEq] at hf;obtain ⟨fd,hfd,rfl,rfl,rfl⟩:=hf
    have hinfo:(P.info? fd.type).isSome:=by
     have:=hc.2;unfold Program.cellsOf at this;cases hi:P.info? fd.type with
     | none=>simp[hi] at this
     | some i=>rfl
    refine ⟨_,fun w1 hk1=>?_,hr⟩;(have h0:¬ P.cellsOf fd.type = 0:=by omega);(have hfd':gs[f]? = some fd:=by simpa using hfd);simp only[execOp,e,Instr.fieldAt,Sem.run_bind,run_underlying hgs,Result.andThen_ok,hfd',Instr.sureAddr,Sem.run_pure,fieldPlace,cY hinfo,h0,if_false]
   ·cases h
  ·cases h
 | indexAddr t x ix =>
  simp only[pv] at h;split at h
  ·rename_i c1 r p z off len c2 k i e hx hix hu
   simp only[Option.some.injEq,Prod.mk.injEq] at h;obtain ⟨rfl,rfl⟩:=h;obtain ⟨h1,h2,h3,h4,h5⟩:=hc;obtain ⟨v,hv,hr⟩:=th m hs hx hix hu h1 h2 h3 h4 h5 e;exact ⟨v,fun w1 hk1=>by simp only[execOp,Sem.run_bind,hv,Result.andThen_ok,Sem.run_pure],hr⟩
  ·rename_i c1 b j c2 k i n e hx hix hu
   simp only[Option.some.injEq,Prod.mk.injEq] at h;obtain ⟨rfl,rfl⟩:=h;obtain ⟨h1,h2,h3,h5⟩:=hc;obtain ⟨hb,e1⟩:=az hs hx h1;have hi':a.eval ix = .int k i:=bR (g:=g) (σ:=σ) (az hs hix h2);refine ⟨.pointer (some ((⟨g.bx b,j,none⟩:Addr).add (i.toNat * (tyOf P e).sz))),fun w1 hk1=>?_,hb,by rw[Addr.add_plain rfl]⟩;simp only[execOp,e1,hi',Instr.indexAt,asIntOf,Sem.run_bind,Sem.run_pure,Result.andThen_ok,run_underlying (u_arr hu),Instr.sureAddr,h3,and_self,if_true,cg h5]
  ·cases h
 | load t x =>
  simp only[pv] at h;split at h
  ·rename_i c0 v0 hx
   simp only[Option.map_eq_some_iff,Prod.mk.injEq] at h;obtain ⟨⟨c1,z⟩,hz,rfl,rfl⟩:=h;obtain ⟨r,hr,hrep⟩:=nI m (az hs hx hc.1) hz hc.2;exact ⟨r,fun w1 hk1=>by simp[execOp,hr w1 (hk1.resolve_left (by simp[stillOp]))],hrep⟩
  ·cases h
 | index t x ix =>
  simp only[pv] at h;split at h
  ·rename_i c1 s c2 k i hx hix hu
   simp only[Option.some.injEq,Prod.mk.injEq] at h;obtain ⟨rfl,rfl⟩:=h;obtain ⟨h1,h2,h3⟩:=hc;have e1:=jI (g:=g) (σ:=σ) (az hs hx h1);have e2:a.eval ix = .int k i:=bR (g:=g) (σ:=σ) (az hs hix h2);refine ⟨_,fun w1 hk1=>?_,.int⟩;simp only[execOp,e1,e2,Instr.index,asIntOf,Sem.run_bind,Sem.run_pure,Result.andThen_ok,run_underlying (mA hu),h3.1,if_true,str_at h3.1 h3.2]
  ·cases h
 | build t parts =>
  simp only[pv] at h;split at h
  ·rename_i fs hu
   simp only[Option.map_eq_some_iff,Prod.mk.injEq] at h;obtain ⟨⟨c1,z⟩,hz,rfl,rfl⟩:=h;obtain ⟨r,hr,hrep⟩:=tf hs hu hc.2.1 hc.1 hz hc.2.2;exact ⟨r,fun w1 hk1=>by simp only[execOp,Sem.run_bind];rw[hr];rfl,hrep⟩
  ·cases h
 | makeFunc fn first caps =>
  simp only[pv] at h;split at h
  ·rename_i f hf
   simp only[Option.map_eq_some_iff,Prod.mk.injEq] at h;obtain ⟨⟨c1,bs⟩,hq,rfl,rfl⟩:=h;obtain ⟨h1,h2⟩:=oZ hs _ _ _ hq hc;(have hf':first = #[]:=by cases first;simpa using hf);refine ⟨_,fun w1 hk1=>by simp only[execOp,Instr.makeFunc,Sem.run_bind,Sem.run_pure,Result.andThen_ok];rfl,h1,?_⟩;rw[hf',← h2];simp only[Array.map_empty,List.map_toArray];congr 1;apply Array.ext';simp
  ·cases h
 | slice t x lo hi mx =>
  simp only[pv] at h;split at h
  ·rename_i c1 r p z off len e hx hu
   split at h
   ·rename_i c2 l c3 hh z' es hl hhi hn
    simp only[Option.some.injEq,Prod.mk.injEq] at h;obtain ⟨rfl,rfl⟩:=h;obtain ⟨h1,h2,h3,h4,h5,h6⟩:=hc;obtain ⟨v,hv,hr⟩:=tg m hs hx hu hl hhi hn h1 h2 h3 h4 h5 h6;exact ⟨v,fun w1 hk1=>by simp only[execOp,Sem.run_bind,Option.map_none,hv,Result.andThen_ok,Sem.run_pure],hr⟩
   ·cases h
  ·rename_i c1 e hx hu
   split at h
   ·rename_i c2 l c3 hh hl hhi
    simp only[Option.some.injEq,Prod.mk.injEq] at h;obtain ⟨rfl,rfl⟩:=h;obtain ⟨h1,h2,h3,⟨rfl,rfl⟩,h6⟩:=hc;obtain ⟨oa,e1⟩:=az hs hx h1;have hb:=fun w1=>iX (P:=P) (w:=w) (w1:=w1) hs hl hhi h2 h3 (isS:=true) (len:=0) (cap:=0) rfl (Int.le_refl 0) (Int.le_refl 0) (by omega);refine ⟨.slice oa 0 0,fun w1 hk1=>?_,oa,rfl⟩;simp only[execOp,Option.map_none,Instr.sliceAt,e1,Sem.run_bind,run_underlying (gJ hu),Result.andThen_ok,Instr.slice,hb,cg h6,Sem.run_pure];simp
   ·cases h
  ·rename_i c1 s hx hu
   split at h
   ·rename_i c2 l c3 hh hl hhi
    simp only[Option.some.injEq,Prod.mk.injEq] at h;obtain ⟨rfl,rfl⟩:=h;obtain ⟨h1,h2,h3,h4⟩:=hc;have e1:=jI (g:=g) (σ:=σ) (az hs hx h1);have hb:=fun w1=>iX (P:=P) (w:=w) (w1:=w1) hs hl hhi h2 h3 (isS:=false) (len:=s.size) (cap:=s.size) rfl h4.1 h4.2.1 h4.2.2;refine ⟨.string (s.extract l.toNat hh.toNat),fun w1 hk1=>?_,.str⟩;simp only[execOp,Option.map_none,Instr.sliceAt,e1,Sem.run_bind,run_underlying (mA hu),Result.andThen_ok,Instr.slice,Option.isSome_none,Bool.false_eq_true,if_false,hb,Sem.run_pure]
   ·cases h
  ·rename_i mo c1 r p z off len e hx hu
   split at h
   ·rename_i ho
    split at h
    ·rename_i c2 l c3 hh c4 q z' es hl hhi hqi hn
     simp only[Option.some.injEq,Prod.mk.injEq] at h;obtain ⟨rfl,rfl⟩:=h;obtain ⟨h1,h2,h3,h4,h5,h6,h7⟩:=hc;obtain ⟨v,hv,hr⟩:=qY m hs hx hu hl hhi hqi hn h1 h2 h3 h4 h5 h6 h7;exact ⟨v,fun w1 hk1=>by simp only[execOp,Sem.run_bind,Option.map_some,hv,Result.andThen_ok,Sem.run_pure],hr⟩
    ·cases h
   ·cases h
  ·cases h
 | field t x f =>
  simp only[pv] at h;split at h
  ·rename_i c1 ls fs hx hu
   split at h
   ·rename_i off sz agg hf
    simp only[Option.map_eq_some_iff,Prod.mk.injEq] at h;obtain ⟨u,hv,rfl,rfl⟩:=h;obtain ⟨h1,h2,h3⟩:=hc;obtain ⟨vs,e1,hr⟩:=az hs hx h1;obtain ⟨gs,hgs,rfl⟩:=u_st hu;simp only[List.getElem?_map,Option.map_eq_some_iff,Prod.mk.injEq] at hf;obtain ⟨fd,hfd,rfl,rfl,rfl⟩:=hf;(have hfd':gs[f]? = some fd:=by simpa using hfd);simp only[fieldsKnown,hgs,List.all_eq_true,Bool.and_eq_true] at h3;obtain ⟨hi1,hi2⟩:=h3 fd (List.mem_of_getElem? hfd);have hpt:=hr.part fd.offset (P.cellsOf fd.type);have hlv:=hr.length;rcases ou hv with ⟨ha,rfl⟩ | ⟨ha,l,hl,rfl⟩
    ·refine ⟨_,fun w1 hk1=>?_,_,rfl,hpt⟩;simp only[execOp,e1,Instr.field,Sem.run_bind,run_underlying hgs,Result.andThen_ok,hfd',asAgg,Sem.run_pure,part,iW hi2,ha,if_true,cY hi1];congr 3;simp[List.take_drop]
    ·rw[hl] at hpt;obtain ⟨u,hu1,hru⟩:=hpt.nth (j:=0) rfl
     have hlen1:P.cellsOf fd.type = 1:=by
      have:=congrArg List.length hl;simp at this;omega
     rw[hlen1] at hu1
     have hcell:vs[fd.offset]? = some u:=by
      rw[List.getElem?_take,if_pos (by omega),List.getElem?_drop] at hu1;simpa using hu1
     refine ⟨u,fun w1 hk1=>?_,hru⟩;simp only[execOp,e1,Instr.field,Sem.run_bind,run_underlying hgs,Result.andThen_ok,hfd',asAgg,Sem.run_pure,part,iW hi2,ha,Bool.false_eq_true,if_false];simp[hcell]
   ·cases h
  ·cases h
 | call c0 =>
  obtain ⟨callee,args,argTypes⟩:=c0;cases callee with
  | builtin b =>
   simp only[pv] at h;split at h
   ·rename_i x t ha ht
    (have e1:args = #[x]:=by cases args;simpa using ha);(have e2:argTypes = #[t]:=by cases argTypes;simpa using ht);subst e1;subst e2;split at h
    ·rename_i c1 r p z off len el hx hu
     simp only[Option.some.injEq,Prod.mk.injEq] at h;obtain ⟨rfl,rfl⟩:=h;obtain ⟨_,_,_,_,_,_,_,_,_,_,_,_,e,_⟩:=az hs hx hc;exact ⟨_,fun w1 hk1=>by simp[execOp,resolve,invoke,builtin,Builtin.len_,e,run_underlying (gJ hu),goInt],.int⟩
    ·rename_i c1 el hx hu
     simp only[Option.some.injEq,Prod.mk.injEq] at h;obtain ⟨rfl,rfl⟩:=h;obtain ⟨_,e⟩:=az hs hx hc;exact ⟨_,fun w1 hk1=>by simp[execOp,resolve,invoke,builtin,Builtin.len_,e,run_underlying (gJ hu),goInt],.int⟩
    ·rename_i c1 s hx hu
     simp only[Option.some.injEq,Prod.mk.injEq] at h;obtain ⟨rfl,rfl⟩:=h;have e:=jI (g:=g) (σ:=σ) (az hs hx hc);exact ⟨_,fun w1 hk1=>by simp[execOp,resolve,invoke,builtin,Builtin.len_,e,run_underlying (mA hu),goInt],.int⟩
    ·cases h
   ·rename_i x y ha
    (have e1:args = #[x,y]:=by cases args;simpa using ha);subst e1;split at h
    ·rename_i c1 k n c2 k2 n2 hx hy
     simp only[Option.some.injEq,Prod.mk.injEq] at h;obtain ⟨rfl,rfl⟩:=h;have e:=bR (g:=g) (σ:=σ) (az hs hx hc.1);have e':=bR (g:=g) (σ:=σ) (az hs hy hc.2);exact ⟨_,fun w1 hk1=>by simp[execOp,resolve,invoke,builtin,e,e',run_max_int2],.int⟩
    ·cases h
   ·rename_i x y ha
    (have e1:args = #[x,y]:=by cases args;simpa using ha);subst e1;split at h
    ·rename_i c1 k n c2 k2 n2 hx hy
     simp only[Option.some.injEq,Prod.mk.injEq] at h;obtain ⟨rfl,rfl⟩:=h;have e:=bR (g:=g) (σ:=σ) (az hs hx hc.1);have e':=bR (g:=g) (σ:=σ) (az hs hy hc.2);exact ⟨_,fun w1 hk1=>by simp[execOp,resolve,invoke,builtin,e,e',run_min_int2],.int⟩
    ·cases h
   ·rename_i x t ha ht
    (have e1:args = #[x]:=by cases args;simpa using ha);(have e2:argTypes = #[t]:=by cases argTypes;simpa using ht);subst e1;subst e2;split at h
    ·rename_i c1 el hx hu
     simp only[Option.some.injEq,Prod.mk.injEq] at h;obtain ⟨rfl,rfl⟩:=h;obtain ⟨_,e⟩:=az hs hx hc;exact ⟨_,fun w1 hk1=>by simp[execOp,resolve,invoke,builtin,Builtin.cap_,e,run_underlying (gJ hu),goInt],.int⟩
    ·cases h
   ·cases h
  | _=>simp[pv] at h
 | _=>simp[pv] at h
theorem ov (m:Mem w g σ) (hs:Slots w g σ a) {o:Oper} {c:Prop} {v:V} (h:pv P σ o.op = some (c,v)) (hc:c):∃ r,(∀ w1,Kept w w1 → (execOp a.eval o).run P w1 = .ok (.value r) w1) ∧ RepV w g σ v r :=
 let ⟨r,h1,h2⟩:=pd m hs h hc
 ⟨r,fun w1 hk=>h1 w1 (.inr hk),h2⟩
theorem pe (m:Mem w g σ) (hs:Slots w g σ a) {o:Oper} {c:Prop} {v:V} (h:pv P σ o.op = some (c,v)) (hc:c) (ho:stillOp o.op = true):∃ r,(∀ w1,(execOp a.eval o).run P w1 = .ok (.value r) w1) ∧ RepV w g σ v r :=
 let ⟨r,h1,h2⟩:=pd m hs h hc
 ⟨r,fun w1=>h1 w1 (.inl ho),h2⟩
theorem uM (m:Mem w g σ) (hs:Slots w g σ a) {o:Oper} {c:Prop} {v:V} (h:pv P σ o.op = some (c,v)) (hc:c):∃ r,(execOp a.eval o).run P w = .ok (.value r) w ∧ RepV w g σ v r:=by
 obtain ⟨r,h1,h2⟩:=ov m hs h hc;exact ⟨r,h1 w (.refl w),h2⟩
end
theorem get_append {α:Type} (xs ys:List (Nat × α)) (n:Nat):get (xs ++ ys) n = match get xs n with
  | some x=>some x
  | none=>get ys n:=by
 induction xs with
 | nil=>rfl
 | cons x xs ih =>
  obtain ⟨k,x⟩:=x
  simp only[List.cons_append,get]
  split
  ·rfl
  ·exact ih
def del {α:Type} (ns:List Nat) (xs:List (Nat × α)):List (Nat × α):=xs.filter fun x=>!ns.contains x.1
theorem bq {α:Type} (ns:List Nat) (xs:List (Nat × α)) (n:Nat):get (del ns xs) n = if n ∈ ns then none else get xs n:=by
 induction xs with
 | nil=>simp[del,get]
 | cons x xs ih =>
  obtain ⟨k,x⟩:=x;unfold del at ih ⊢;simp only[List.filter_cons];by_cases hk:k ∈ ns
  ·(have:(!ns.contains k) = false:=by simpa using hk);simp only[this,Bool.false_eq_true,if_false,ih,get];by_cases hn:n ∈ ns
   ·simp[hn]
   ·have:n ≠ k:=fun e=>hn (e ▸ hk);simp[hn,this]
  ·(have:(!ns.contains k) = true:=by simpa using hk);simp only[this,if_true,get,ih];by_cases hn:n = k
   ·subst hn;simp[hk]
   ·simp[hn]
def killLs (kill:L → Bool) (ls:List L):List L:=ls.map fun l=>if kill l then .undef else l
def killB (kill:L → Bool) (bs:List (Nat × List L)):List (Nat × List L):=bs.map fun b=>(b.1,killLs kill b.2)
def killE (kill:L → Bool) (env:List (Nat × Bool × V)):List (Nat × Bool × V):=env.filter fun e=>!e.2.2.leaves.any kill
def killS (kill:L → Bool) (sav:List (List (Nat × Bool × V) × Act)):List (List (Nat × Bool × V) × Act):=sav.map fun x=>(killE kill x.1,x.2)
theorem fA (kill:L → Bool) (bs:List (Nat × List L)) (n:Nat):get (killB kill bs) n = (get bs n).map (killLs kill):=by
 induction bs with
 | nil=>rfl
 | cons x xs ih =>
  obtain ⟨k,x⟩:=x;unfold killB at ih ⊢;simp only[List.map_cons,get];split
  ·rfl
  ·exact ih
theorem eo (kill:L → Bool):∀ (env:List (Nat × Bool × V)) (n:Nat) (x:Bool × V),get (killE kill env) n = some x → (n,x) ∈ env ∧ x.2.leaves.any kill = false
 | [],_,_,h=>by simp[killE,get] at h
 | (k,y) :: env,n,x,h=>by
  unfold killE at h
  simp only[List.filter_cons] at h
  split at h
  ·rename_i hk
   simp only[get] at h
   split at h
   ·rename_i e
    subst e
    simp only[Option.some.injEq] at h
    subst h
    exact ⟨by simp,by simpa using hk⟩
   ·obtain ⟨h1,h2⟩:=eo kill env n x h
    exact ⟨by simp[h1],h2⟩
  ·obtain ⟨h1,h2⟩:=eo kill env n x h
   exact ⟨by simp[h1],h2⟩
theorem RepL.one {w:World} {g:Gh} {σ:St} {l:L} {v:Value} (h:RepL w g σ l v):v.oneCell' = true:=by
 cases l with
 | t x=>exact Rep.one h
 | ref r p z off len=>obtain ⟨_,_,_,_,_,_,_,_,_,_,_,_,rfl,_⟩:=h;rfl
 | nil=>obtain ⟨_,rfl⟩:=h;rfl
 | ptr b j=>obtain ⟨_,rfl⟩:=h;rfl
 | ept r p i j d=>obtain ⟨_,_,_,_,_,_,_,_,_,_,_,rfl⟩:=h;rfl
 | npt=>simp only[RepL] at h;subst h;rfl
 | fn f caps=>obtain ⟨_,rfl⟩:=h;rfl
 | undef=>exact h
def Pool (g:Gh) (σ:St) (DR DB:List Nat):Blks:=fun b =>
 (∃ r row,r ∈ DR ∧ get σ.row r = some row ∧ row.pm ≠ .ro ∧ g.fp r b) ∨ (∃ k ls,k ∈ DB ∧ get σ.box k = some ls ∧ g.bx k = b)
structure NewIn (w w':World) (g g':Gh) (σ σ':St) (DR DB:List Nat) (nr:List (Nat × Row)) (nb:List (Nat × List L)) (kill:L → Bool):Prop where
 row:σ'.row = nr ++ del DR σ.row
 box:σ'.box = nb ++ killB kill (del DB σ.box)
 old:∀ b,b < w.heap.size → ¬ Pool g σ DR DB b → w'.heap[b]? = w.heap[b]?
 siz:w.heap.size ≤ w'.heap.size
 rw_:∀ r,r ∉ DR → (get σ.row r).isSome → g'.rw r = g.rw r ∧ g'.fp r = g.fp r
 bx_:∀ k,k ∉ DB → (get σ.box k).isSome → g'.bx k = g.bx k
 rn:∀ k row,get nr k = some row → k ∈ DR ∨ get σ.row k = none
 bn:∀ k ls,get nb k = some ls → k ∈ DB ∨ get σ.box k = none
 own:∀ k row,get nr k = some row → row.pm = .own → Rep w' true (g'.rw k) row.t (g'.fp k)
 top:∀ k row,get nr k = some row → row.pm = .top → RepTop w' (g'.rw k) row.z row.es (g'.fp k) fun b=>¬ Owned g' σ' b
 ro:∀ k row,get nr k = some row → row.pm = .ro → Rep w' false (g'.rw k) row.t fun b=>¬ Owned g' σ' b
 fp:∀ k row b,get nr k = some row → row.pm ≠ .ro → g'.fp k b → (Pool g σ DR DB b ∨ w.heap.size ≤ b) ∧ b < w'.heap.size
 bxp:∀ k ls,get nb k = some ls → (Pool g σ DR DB (g'.bx k) ∨ w.heap.size ≤ g'.bx k) ∧ g'.bx k < w'.heap.size
 rr:∀ r r' row row' b,get nr r = some row → get nr r' = some row' → row.pm ≠ .ro → row'.pm ≠ .ro → g'.fp r b → g'.fp r' b → r = r'
 br:∀ k ls r row,get nb k = some ls → get nr r = some row → row.pm ≠ .ro → ¬ g'.fp r (g'.bx k)
 bb:∀ k k' ls ls',get nb k = some ls → get nb k' = some ls' → g'.bx k = g'.bx k' → k = k'
 boxes:∀ k ls,get nb k = some ls → ∃ cs e,w'.heap[g'.bx k]? = some (.cells cs e (0,0)) ∧ RepLs w' g' σ' ls cs.toList
 keepR:∀ l,kill l = false → ∀ r p,l.rowOf = some (r,p) → (get σ.row r).isSome → r ∈ DR → Stays w w' g g' σ σ' r p
 keepB:∀ l,kill l = false → ∀ b ∈ l.boxOf,(get σ.box b).isSome → b ∈ DB → (get nb b).isSome ∧ g'.bx b = g.bx b
section
variable {w w':World} {g g':Gh} {σ σ':St} {DR DB:List Nat} {nr:List (Nat × Row)} {nb:List (Nat × List L)} {kill:L → Bool}
theorem NewIn.owned (n:NewIn w w' g g' σ σ' DR DB nr nb kill) (m:Mem w g σ) {b:Nat} (h:Owned g' σ' b):(Owned g σ b ∨ w.heap.size ≤ b) ∧ b < w'.heap.size:=by
 have pl:∀ b,Pool g σ DR DB b → Owned g σ b:=fun b h=>h.elim (fun ⟨r,row,_,h1,h2,h3⟩=>Or.inr ⟨r,row,h1,h2,h3⟩) fun ⟨k,ls,_,h1,h2⟩=>Or.inl ⟨k,ls,h1,h2⟩;rcases h with ⟨k,ls,h1,h2⟩ | ⟨r,row,h1,h2,h3⟩
 ·rw[n.box,get_append] at h1;split at h1
  ·rename_i ls' hk
   have:=n.bxp k ls' hk;rw[h2] at this;exact ⟨this.1.imp (pl b) id,this.2⟩
  ·rw[fA,bq] at h1;split at h1
   ·cases h1
   ·rename_i hk
    simp only[Option.map_eq_some_iff] at h1;obtain ⟨ls0,h1,_⟩:=h1;rw[n.bx_ k hk (by simp[h1])] at h2;have ho:Owned g σ b:=Or.inl ⟨k,ls0,h1,h2⟩;exact ⟨Or.inl ho,Nat.lt_of_lt_of_le (m.lt b ho) n.siz⟩
 ·rw[n.row,get_append] at h1;split at h1
  ·rename_i row' hk
   simp only[Option.some.injEq] at h1;subst h1;have:=n.fp r row' b hk h2 h3;exact ⟨this.1.imp (pl b) id,this.2⟩
  ·rw[bq] at h1;split at h1
   ·cases h1
   ·rename_i hk
    rw[(n.rw_ r hk (by simp[h1])).2] at h3;have ho:Owned g σ b:=Or.inr ⟨r,row,h1,h2,h3⟩;exact ⟨Or.inl ho,Nat.lt_of_lt_of_le (m.lt b ho) n.siz⟩
theorem gM (m:Mem w g σ) {r:Nat} {row:Row} (h:get σ.row r = some row) (hp:row.pm ≠ .ro) (hr:r ∉ DR) {b:Nat} (hb:g.fp r b):¬ Pool g σ DR DB b:=by
 rintro (⟨r',row',h1,h2,h3,h4⟩ | ⟨k,ls,h1,h2,h3⟩)
 ·exact hr (m.rr r r' row row' b h h2 hp h3 hb h4 ▸ h1)
 ·subst h3;exact m.br k ls r row h2 h hp hb
theorem jK (m:Mem w g σ) {k:Nat} {ls:List L} (h:get σ.box k = some ls) (hk:k ∉ DB):¬ Pool g σ DR DB (g.bx k):=by
 rintro (⟨r',row',h1,h2,h3,h4⟩ | ⟨k',ls',h1,h2,h3⟩)
 ·exact m.br k ls r' row' h h2 h3 h4
 ·exact hk (m.bb k' k ls' ls h2 h h3 ▸ h1)
theorem fN {b:Nat} (h:Pool g σ DR DB b):Owned g σ b :=
 h.elim (fun ⟨r,row,_,h1,h2,h3⟩=>Or.inr ⟨r,row,h1,h2,h3⟩) fun ⟨k,ls,_,h1,h2⟩=>Or.inl ⟨k,ls,h1,h2⟩
theorem NewIn.stays (n:NewIn w w' g g' σ σ' DR DB nr nb kill) (m:Mem w g σ) {l:L} (hl:kill l = false):StaysL w w' g g' σ σ' l:=by
 refine ⟨fun r p hr=>?_,fun b hb hs=>?_⟩
 ·by_cases hd:r ∈ DR
  ·intro row h;exact n.keepR l hl r p hr (by simp[h]) hd row h
  ·refine .of_same m (fun row h=>?_) (fun row h=>?_) (fun row h b h1 h2 hlt=>n.old b hlt ?_)
   ·rw[n.row,get_append];cases hk:get nr r with
    | some row' =>
     rcases n.rn r row' hk with h' | h'
     ·exact absurd h' hd
     ·rw[h'] at h;cases h
    | none=>simp[bq,hd,h]
   ·exact (n.rw_ r hd (by simp[h])).1
   ·by_cases hp:row.pm = .ro
    ·exact fun h'=>h2 hp (fN h')
    ·rcases h1 hp with h1 | ⟨_,h1⟩
     ·exact gM m h hp hd h1
     ·exact fun h'=>h1 (fN h')
 ·by_cases hd:b ∈ DB
  ·obtain ⟨h1,h2⟩:=n.keepB l hl b hb hs hd;refine ⟨?_,h2⟩;obtain ⟨x,hx⟩:=Option.isSome_iff_exists.1 h1;rw[n.box,get_append,hx];rfl
  ·refine ⟨?_,n.bx_ b hd hs⟩;rw[n.box,get_append];split
   ·rfl
   ·obtain ⟨x,hx⟩:=Option.isSome_iff_exists.1 hs;simp[fA,bq,hd,hx]
theorem mC (n:NewIn w w' g g' σ σ' DR DB nr nb kill) (m:Mem w g σ):∀ {ls:List L} {vs:List Value},RepLs w g σ ls vs → RepLs w' g' σ' (killLs kill ls) vs
 | [],[],_=>trivial
 | l :: ls,v :: vs,h=>by
  refine ⟨?_,mC n m h.2⟩
  by_cases hk:kill l = true
  ·simp only[hk,if_true];exact h.1.one
  ·have hk':kill l = false:=by simpa using hk
   simp only[hk',Bool.false_eq_true,if_false]
   exact h.1.stays (n.stays m hk')
 | [],_ :: _,h=>h.elim
 | _ :: _,[],h=>h.elim
theorem NewIn.mem (n:NewIn w w' g g' σ σ' DR DB nr nb kill) (m:Mem w g σ):Mem w' g' σ':=by
 have rowC:∀ r row,get σ'.row r = some row → get nr r = some row ∨ (r ∉ DR ∧ get nr r = none ∧ get σ.row r = some row):=by
  intro r row h;rw[n.row,get_append] at h;split at h
  ·rename_i x hx;left;rw[hx];exact h
  ·rename_i hx
   rw[bq] at h;split at h
   ·cases h
   ·rename_i hd;exact Or.inr ⟨hd,hx,h⟩
 have boxC:∀ k ls,get σ'.box k = some ls → get nb k = some ls ∨ (k ∉ DB ∧ ∃ ls0,get σ.box k = some ls0 ∧ ls = killLs kill ls0):=by
  intro k ls h;rw[n.box,get_append] at h;split at h
  ·rename_i x hx;left;rw[hx];exact h
  ·rw[fA,bq] at h;split at h
   ·cases h
   ·rename_i hd
    simp only[Option.map_eq_some_iff] at h;obtain ⟨ls0,h1,h2⟩:=h;exact Or.inr ⟨hd,ls0,h1,h2.symm⟩
 have oldR:∀ {r:Nat} {row:Row},get σ.row r = some row → row.pm ≠ .ro → r ∉ DR → ∀ b,g.fp r b → w'.heap[b]? = w.heap[b]? :=
  fun h hp hd b hb=>n.old b (m.lt b (Or.inr ⟨_,_,h,hp,hb⟩)) (gM m h hp hd hb)
 have notNew:∀ b,b < w.heap.size → ¬ Owned g σ b → ¬ Owned g' σ' b:=fun b hlt h h'=>(n.owned m h').1.elim h fun h=>by omega
 have roF:∀ {o:Bool} {v:Value} {t:T},Rep w o v t (fun b=>¬ Owned g σ b) → Rep w' o v t fun b=>¬ Owned g' σ' b:=by
  intro o v t h;obtain ⟨G,hG,hs,hlt⟩:=h.lt;exact (hG.frame fun b hb=>n.old b (hlt b hb) fun h'=>hs b hb (fN h')).mono fun b hb=>notNew b (hlt b hb) (hs b hb)
 refine ⟨?_,?_,?_,?_,?_,?_,?_,fun b h=>(n.owned m h).2⟩
 ·intro k ls h;rcases boxC k ls h with h1 | ⟨hd,ls0,h1,e0⟩
  ·exact n.boxes k ls h1
  ·subst e0;obtain ⟨cs,e,hc,hr⟩:=m.box k ls0 h1;rw[n.bx_ k hd (by simp[h1])];exact ⟨cs,e,by rw[n.old _ (m.lt _ (Or.inl ⟨k,ls0,h1,rfl⟩)) (jK m h1 hd)];exact hc,mC n m hr⟩
 ·intro r row h hp;rcases rowC r row h with h | ⟨hd,_,h⟩
  ·exact n.own r row h hp
  ·obtain ⟨e1,e2⟩:=n.rw_ r hd (by simp[h]);rw[e1,e2];exact (m.own r row h hp).frame (oldR h (by simp[hp]) hd)
 ·intro r row h hp;rcases rowC r row h with h | ⟨hd,_,h⟩
  ·exact n.top r row h hp
  ·obtain ⟨e1,e2⟩:=n.rw_ r hd (by simp[h]);rw[e1,e2];rcases m.top r row h hp with h0 | ⟨a,cap,cs,hv,hl,hF,hc⟩
   ·exact Or.inl h0
   ·exact Or.inr ⟨a,cap,cs,hv,hl.frame (oldR h (by simp[hp]) hd _ hF),hF,fun i j x c hx hcc=>roF (hc i j x c hx hcc)⟩
 ·intro r row h hp;rcases rowC r row h with h | ⟨hd,_,h⟩
  ·exact n.ro r row h hp
  ·obtain ⟨e1,e2⟩:=n.rw_ r hd (by simp[h]);rw[e1];exact roF (m.ro r row h hp)
 ·intro k k' ls ls' h h' e;rcases boxC k ls h with h | ⟨hd,ls0,h,_⟩ <;> rcases boxC k' ls' h' with h' | ⟨hd',ls0',h',_⟩
  ·exact n.bb k k' ls ls' h h' e
  ·exfalso;rw[n.bx_ k' hd' (by simp[h'])] at e;have:=(n.bxp k ls h).1;rw[e] at this;exact this.elim (jK m h' hd') fun hge=>by have:=m.lt _ (Or.inl ⟨k',ls0',h',rfl⟩);omega
  ·exfalso;rw[n.bx_ k hd (by simp[h])] at e;have:=(n.bxp k' ls' h').1;rw[← e] at this;exact this.elim (jK m h hd) fun hge=>by have:=m.lt _ (Or.inl ⟨k,ls0,h,rfl⟩);omega
  ·rw[n.bx_ k hd (by simp[h]),n.bx_ k' hd' (by simp[h'])] at e;exact m.bb k k' ls0 ls0' h h' e
 ·intro k ls r row h h' hp hb;rcases boxC k ls h with h | ⟨hd,ls0,h,_⟩ <;> rcases rowC r row h' with h' | ⟨hd',_,h'⟩
  ·exact n.br k ls r row h h' hp hb
  ·rw[(n.rw_ r hd' (by simp[h'])).2] at hb;exact (n.bxp k ls h).1.elim (gM m h' hp hd' hb) fun hge=>by have:=m.lt _ (Or.inr ⟨r,row,h',hp,hb⟩);omega
  ·rw[n.bx_ k hd (by simp[h])] at hb;exact (n.fp r row _ h' hp hb).1.elim (jK m h hd) fun hge=>by have:=m.lt _ (Or.inl ⟨k,ls0,h,rfl⟩);omega
  ·rw[n.bx_ k hd (by simp[h]),(n.rw_ r hd' (by simp[h'])).2] at hb;exact m.br k ls0 r row h h' hp hb
 ·intro r r' row row' b h h' hp hp' hb hb';rcases rowC r row h with h | ⟨hd,_,h⟩ <;> rcases rowC r' row' h' with h' | ⟨hd',_,h'⟩
  ·exact n.rr r r' row row' b h h' hp hp' hb hb'
  ·exfalso;rw[(n.rw_ r' hd' (by simp[h'])).2] at hb';exact (n.fp r row b h hp hb).1.elim (gM m h' hp' hd' hb') fun hge=>by have:=m.lt _ (Or.inr ⟨r',row',h',hp',hb'⟩);omega
  ·exfalso;rw[(n.rw_ r hd (by simp[h])).2] at hb;exact (n.fp r' row' b h' hp' hb').1.elim (gM m h hp hd hb) fun hge=>by have:=m.lt _ (Or.inr ⟨r,row,h,hp,hb⟩);omega
  ·rw[(n.rw_ r hd (by simp[h])).2] at hb;rw[(n.rw_ r' hd' (by simp[h'])).2] at hb';exact m.rr r r' row row' b h h' hp hp' hb hb'
end
theorem Rep.view {w:World} {o:Bool} {u v:Value} {z off len:Nat} {es:Els} {F:Blks} (h:Rep w o u (.sl z es) F) (hv:View u z off len v) (hl:off + len ≤ es.length) :
  Rep w o v (.sl z ((es.drop off).take len)) F:=by
 obtain ⟨oa,n,cap,oa',rfl,rfl,hoa⟩:=hv
 have hcap:=h.cap_ge.1
 by_cases e:cap = off
 ·subst e
  have hlen:len = 0:=by omega
  subst hlen
  simp only[Nat.sub_self,List.take_zero]
  cases oa' with
  | none=>exact .nils
  | some a=>exact .bare
 ·have hoa:=hoa.resolve_left e
  cases h with
  | nils=>simp at hcap;simp at hl;exact absurd hl.1.symm e
  | bare=>simp at hl;exact absurd hl.1.symm e
  | @sl a _ _ _ _ cs f hlies hF hsub hd hdd hr =>
   subst hoa
   have hlen:((es.drop off).take len).length = len:=by simp;omega
   have hadd:a.add (off * z) = ⟨a.block,a.off + off * z,none⟩:=Addr.add_plain hlies.spot _
   rw[Option.map_some]
   have hres:Rep w o (.slice (some (a.add (off * z))) ((es.drop off).take len).length (cap - off)) (.sl z ((es.drop off).take len)) F:=by
    rw[hadd]
    refine .sl (fun i j=>f (i + off) j) (cs:=cs) ⟨hlies.blk,rfl,by rw[hlen];omega,?_,fun x hx=>hlies.each x (List.mem_of_mem_drop (List.mem_of_mem_take hx))⟩ hF (fun i j b h=>hsub _ _ b h) (fun ho i j=>hd ho _ _)
     (fun ho i j i' j' b h1 h2=>by have:=hdd ho _ _ _ _ b h1 h2;omega) ?_
    ·have:=hlies.room
     have e2:cap * z = off * z + (cap - off) * z:=by rw[← Nat.add_mul];congr 1;omega
     simp only
     omega
    ·intro i j x c hx hc
     rw[List.getElem?_take] at hx
     split at hx
     ·rw[List.getElem?_drop] at hx
      have:=hr (off + i) j x c hx hc
      rw[Nat.add_comm i off]
      simpa [Nat.add_mul,Nat.add_assoc] using this
     ·cases hx
   rw[hlen] at hres
   exact hres
def takeL (σ:St) (z:Nat):L → Option (Prop × T × List Nat)
 | .t (.int k n)=>some (True,.int k n,[])
 | .t (.bool b)=>some (True,.bool b,[])
 | .t (.str s)=>some (True,.str s,[])
 | .nil=>some (True,.sl z [],[])
 | .undef=>some (True,.hole,[])
 | .ref r [] z' off len=>match get σ.row r with
  | some row=>if row.pm = .own then some (z' = z,.sl z ((row.es.drop off).take len),[r]) else none
  | none=>none
 | _=>none
def takeLs (σ:St):List Nat → List L → Option (Prop × List T × List Nat)
 | [],[]=>some (True,[],[])
 | z :: zs,l :: ls=>match takeL σ z l,takeLs σ zs ls with
  | some (c,t,rs),some (c',ts,rs')=>if rs.all fun r=>!rs'.contains r then some (c ∧ c',t :: ts,rs ++ rs') else none
  | _,_=>none
 | _,_=>none
def shareL (σ:St) (z:Nat):L → Option (Prop × T × List Nat)
 | .t (.int k n)=>some (True,.int k n,[])
 | .t (.bool b)=>some (True,.bool b,[])
 | .t (.str s)=>some (True,.str s,[])
 | .nil=>some (True,.sl z [],[])
 | .undef=>some (True,.hole,[])
 | .ref r p z' off len=>match nodeOf σ r p with
  | some (_,es)=>some (z' = z,.sl z ((es.drop off).take len),[r])
  | none=>none
 | _=>none
def shareLs (σ:St):List Nat → List L → Option (Prop × List T × List Nat)
 | [],[]=>some (True,[],[])
 | z :: zs,l :: ls=>match shareL σ z l,shareLs σ zs ls with
  | some (c,t,rs),some (c',ts,rs')=>some (c ∧ c',t :: ts,rs ++ rs')
  | _,_=>none
 | _,_=>none
section
variable {w:World} {g:Gh} {σ:St}
def RowsFp (g:Gh) (σ:St) (rs:List Nat):Blks:=fun b=>∃ r row,r ∈ rs ∧ get σ.row r = some row ∧ row.pm ≠ .ro ∧ g.fp r b
theorem ti (m:Mem w g σ) {z:Nat} {l:L} {v:Value} {c:Prop} {t:T} {rs:List Nat} (h:takeL σ z l = some (c,t,rs)) (hc:c) (hv:RepL w g σ l v) :
  Rep w true v t (RowsFp g σ rs) ∧ ∀ r ∈ rs,∃ row,get σ.row r = some row ∧ row.pm = .own:=by
 unfold takeL at h
 split at h
 ·simp only[Option.some.injEq,Prod.mk.injEq] at h;obtain ⟨rfl,rfl,rfl⟩:=h;rw[bR hv];exact ⟨.int,by simp⟩
 ·simp only[Option.some.injEq,Prod.mk.injEq] at h;obtain ⟨rfl,rfl,rfl⟩:=h;rw[cu hv];exact ⟨.bool,by simp⟩
 ·simp only[Option.some.injEq,Prod.mk.injEq] at h;obtain ⟨rfl,rfl,rfl⟩:=h;rw[jI hv];exact ⟨.str,by simp⟩
 ·simp only[Option.some.injEq,Prod.mk.injEq] at h;obtain ⟨rfl,rfl,rfl⟩:=h
  obtain ⟨oa,rfl⟩:=hv
  cases oa with
  | none=>exact ⟨.nils,by simp⟩
  | some a=>exact ⟨.bare,by simp⟩
 ·simp only[Option.some.injEq,Prod.mk.injEq] at h;obtain ⟨rfl,rfl,rfl⟩:=h;exact ⟨.hole hv,by simp⟩
 ·rename_i r z' off len
  split at h
  ·rename_i row hrow
   split at h
   ·rename_i hpm
    simp only[Option.some.injEq,Prod.mk.injEq] at h
    obtain ⟨rfl,rfl,rfl⟩:=h
    subst hc
    obtain ⟨row',es,u,h1,h2,h3,h4,h5⟩:=hv
    rw[hrow] at h1
    cases h1
    simp only[T.at?,Option.some.injEq,T.sl.injEq,valAt] at h2 h3
    obtain ⟨hz,rfl⟩:=h2
    subst h3
    have:=m.own r row hrow hpm
    rw[Row.t,hz] at this
    refine ⟨(this.view h5 h4).mono fun b hb=>⟨r,row,by simp,hrow,by simp[hpm],hb⟩,fun r' hr'=>?_⟩
    simp only[List.mem_singleton] at hr'
    subst hr'
    exact ⟨row,hrow,hpm⟩
   ·cases h
  ·cases h
 ·cases h
theorem bM (m:Mem w g σ):∀ {zs:List Nat} {ls:List L} {vs:List Value} {c:Prop} {ts:List T} {rs:List Nat},takeLs σ zs ls = some (c,ts,rs) → c → RepLs w g σ ls vs →
  ts.length = ls.length ∧ (∀ r ∈ rs,∃ row,get σ.row r = some row ∧ row.pm = .own) ∧
   ∃ f:Nat → Blks,(∀ j t v,ts[j]? = some t → vs[j]? = some v → Rep w true v t (f j)) ∧ (∀ j b,f j b → RowsFp g σ rs b) ∧ (∀ j j' b,f j b → f j' b → j = j')
 | [],[],vs,c,ts,rs,h,hc,hv=>by
  simp only[takeLs,Option.some.injEq,Prod.mk.injEq] at h
  obtain ⟨_,rfl,rfl⟩:=h
  exact ⟨rfl,by simp,fun _ _=>False,by simp,fun _ _ h=>h.elim,fun _ _ _ h=>h.elim⟩
 | z :: zs,l :: ls,v :: vs,c,ts,rs,h,hc,hv=>by
  simp only[takeLs] at h
  split at h
  ·rename_i c1 t rs1 c2 ts2 rs2 h1 h2
   split at h
   ·rename_i hd
    simp only[Option.some.injEq,Prod.mk.injEq] at h
    obtain ⟨rfl,rfl,rfl⟩:=h
    obtain ⟨r1,o1⟩:=ti m h1 hc.1 hv.1
    obtain ⟨len,o2,f,r2,s2,d2⟩:=bM m h2 hc.2 hv.2
    have dis:∀ b,RowsFp g σ rs1 b → RowsFp g σ rs2 b → False:=by
     rintro b ⟨r,row,hr,hrow,hp,hb⟩ ⟨r',row',hr',hrow',hp',hb'⟩
     have:=m.rr r r' row row' b hrow hrow' hp hp' hb hb'
     subst this
     have:=List.all_eq_true.1 hd r hr
     simp[hr'] at this
    refine ⟨by simp[len],fun r hr=>(List.mem_append.1 hr).elim (o1 r) (o2 r),fun j=>match j with | 0=>RowsFp g σ rs1 | j + 1=>f j,?_,?_,?_⟩
    ·intro j t' v' ht hv'
     cases j with
     | zero=>simp at ht hv';subst ht;subst hv';exact r1
     | succ j=>exact r2 j t' v' (by simpa using ht) (by simpa using hv')
    ·intro j b hb
     cases j with
     | zero=>obtain ⟨r,row,hr,h3⟩:=hb;exact ⟨r,row,by simp[hr],h3⟩
     | succ j=>obtain ⟨r,row,hr,h3⟩:=s2 j b hb;exact ⟨r,row,by simp[hr],h3⟩
    ·intro j j' b hb hb'
     cases j with
     | zero =>
      cases j' with
      | zero=>rfl
      | succ j'=>exact (dis b hb (s2 j' b hb')).elim
     | succ j =>
      cases j' with
      | zero=>exact (dis b hb' (s2 j b hb)).elim
      | succ j'=>rw[d2 j j' b hb hb']
   ·cases h
  ·cases h
 | _ :: _,_ :: _,[],_,_,_,_,_,hv=>hv.elim
 | [],_ :: _,_,_,_,_,h,_,_=>by simp[takeLs] at h
 | _ :: _,[],_,_,_,_,h,_,_=>by simp[takeLs] at h
theorem qZ (m:Mem w g σ) {z:Nat} {l:L} {v:Value} {c:Prop} {t:T} {rs:List Nat} (h:shareL σ z l = some (c,t,rs)) (hc:c) (hv:RepL w g σ l v) :
  Rep w false v t fun b=>RowsFp g σ rs b ∨ ¬ Owned g σ b:=by
 unfold shareL at h
 split at h
 ·simp only[Option.some.injEq,Prod.mk.injEq] at h;obtain ⟨rfl,rfl,rfl⟩:=h;rw[bR hv];exact .int
 ·simp only[Option.some.injEq,Prod.mk.injEq] at h;obtain ⟨rfl,rfl,rfl⟩:=h;rw[cu hv];exact .bool
 ·simp only[Option.some.injEq,Prod.mk.injEq] at h;obtain ⟨rfl,rfl,rfl⟩:=h;rw[jI hv];exact .str
 ·simp only[Option.some.injEq,Prod.mk.injEq] at h;obtain ⟨rfl,rfl,rfl⟩:=h
  obtain ⟨oa,rfl⟩:=hv
  cases oa with
  | none=>exact .nils
  | some a=>exact .bare
 ·simp only[Option.some.injEq,Prod.mk.injEq] at h;obtain ⟨rfl,rfl,rfl⟩:=h;exact .hole hv
 ·rename_i r p z' off len
  split at h
  ·rename_i zz es hn
   simp only[Option.some.injEq,Prod.mk.injEq] at h
   obtain ⟨rfl,rfl,rfl⟩:=h
   subst hc
   obtain ⟨row',es',u,h1,h2,h3,h4,h5⟩:=hv
   have hn':nodeOf σ r p = some (z',es'):=by simp[nodeOf,h1,h2]
   rw[hn] at hn'
   simp only[Option.some.injEq,Prod.mk.injEq] at hn'
   obtain ⟨rfl,rfl⟩:=hn'
   have key:Rep w false (g.rw r) row'.t fun b=>RowsFp g σ [r] b ∨ ¬ Owned g σ b:=by
    cases hp:row'.pm with
    | own=>exact (m.own r row' h1 hp).lent.mono fun b hb=>Or.inl ⟨r,row',by simp,h1,by simp[hp],hb⟩
    | ro=>exact (m.ro r row' h1 hp).mono fun b hb=>Or.inr hb
    | top =>
     rcases m.top r row' h1 hp with ⟨e,oa,hv⟩ | ⟨a,cap,cs,hv,hl,hF,hc⟩
     ·rw[hv,Row.t,e]
      cases oa with
      | none=>exact .nils
      | some a=>exact .bare
     ·rw[hv]
      exact .sl (fun _ _ b=>RowsFp g σ [r] b ∨ ¬ Owned g σ b) ⟨let ⟨e,fr,h,_⟩:=hl.blk;⟨e,fr,h,fun h=>by cases h⟩,hl.spot,hl.len,hl.room,hl.each⟩ (Or.inl ⟨r,row',by simp,h1,by simp[hp],hF⟩)
       (fun _ _ _ h=>h) (fun h=>by cases h) (fun h=>by cases h) (fun i j x c hx hcc=>(hc i j x c hx hcc).mono fun b hb=>Or.inr hb)
   obtain ⟨u',hu',hru⟩:=key.focus_ro h2
   rw[h3] at hu'
   cases hu'
   exact hru.view h5 h4
  ·cases h
 ·cases h
theorem gN (m:Mem w g σ):∀ {zs:List Nat} {ls:List L} {vs:List Value} {c:Prop} {ts:List T} {rs:List Nat},shareLs σ zs ls = some (c,ts,rs) → c → RepLs w g σ ls vs →
  ts.length = ls.length ∧ ∀ (j:Nat) (t:T) (v:Value),ts[j]? = some t → vs[j]? = some v → Rep w false v t fun b=>RowsFp g σ rs b ∨ ¬ Owned g σ b
 | [],[],vs,c,ts,rs,h,hc,hv=>by
  simp only[shareLs,Option.some.injEq,Prod.mk.injEq] at h
  obtain ⟨_,rfl,rfl⟩:=h
  exact ⟨rfl,by simp⟩
 | z :: zs,l :: ls,v :: vs,c,ts,rs,h,hc,hv=>by
  simp only[shareLs] at h
  split at h
  ·rename_i c1 t rs1 c2 ts2 rs2 h1 h2
   simp only[Option.some.injEq,Prod.mk.injEq] at h
   obtain ⟨rfl,rfl,rfl⟩:=h
   obtain ⟨len,r2⟩:=gN m h2 hc.2 hv.2
   refine ⟨by simp[len],fun j t' v' ht hv'=>?_⟩
   cases j with
   | zero =>
    simp at ht hv';subst ht;subst hv'
    exact (qZ m h1 hc.1 hv.1).mono fun b hb=>hb.imp (fun ⟨r,row,hr,h3⟩=>⟨r,row,by simp[hr],h3⟩) id
   | succ j=>exact (r2 j t' v' (by simpa using ht) (by simpa using hv')).mono fun b hb=>hb.imp (fun ⟨r,row,hr,h3⟩=>⟨r,row,by simp[hr],h3⟩) id
  ·cases h
 | _ :: _,_ :: _,[],_,_,_,_,_,hv=>hv.elim
 | [],_ :: _,_,_,_,_,h,_,_=>by simp[shareLs] at h
 | _ :: _,[],_,_,_,_,h,_,_=>by simp[shareLs] at h
end
theorem bw {α:Type} (xs:List (Nat × α)):del [] xs = xs:=by
 unfold del;rw[List.filter_eq_self];intro x _;rfl
theorem tj (ls:List L):killLs (fun _=>false) ls = ls:=by simp[killLs]
theorem cD (bs:List (Nat × List L)):killB (fun _=>false) bs = bs:=by simp[killB,tj]
theorem bD (env:List (Nat × Bool × V)):killE (fun _=>false) env = env:=by
 unfold killE;rw[List.filter_eq_self];intro x _;simp
theorem bK (sav:List (List (Nat × Bool × V) × Act)):killS (fun _=>false) sav = sav:=by
 unfold killS;conv=>rhs;rw[← List.map_id sav]
 exact List.map_congr_left fun x _=>by rw[bD];rfl
structure Saved (w:World) (g:Gh) (σ:St) (env:List (Nat × Bool × V)) (a:Act):Prop where
 yes:∀ t c v,get env t = some (c,v) → c = true → RepV w g σ v (a.tmps.getD t undef)
 no:∀ t c v,get env t = some (c,v) → c = false → a.tmps.getD t undef = undef
 unq:env.Pairwise fun x y=>x.1 ≠ y.1
structure Rel (w0:World) (Al:Blks) (N:Nat) (σ:St) (a:Act) (w:World) (g:Gh):Prop where
 slots:Slots w g σ a
 unq:σ.env.Pairwise fun x y=>x.1 ≠ y.1
 mem:Mem w g σ
 own:∀ b,Owned g σ b → w0.heap.size ≤ b ∨ Al b
 frm:∀ b,b < w0.heap.size → ¬ Al b → w.heap[b]? = w0.heap[b]?
 siz:w0.heap.size ≤ w.heap.size
 os:w.os = w0.os
 tape:w.tape = w0.tape
 out:w.output = w0.output
 dfr:a.defers = []
 tsz:a.tmps.size = N
 sav:∀ x ∈ σ.sav,Saved w g σ x.1 x.2
def St.set (σ:St) (d:Option Nat) (c:Bool) (v:V):St:=match d with
 | some d=>{ σ with env:=(d,c,v) :: del [d] σ.env }
 | none=>σ
theorem eJ {α:Type}:∀ {xs:List (Nat × α)},xs.Pairwise (fun x y=>x.1 ≠ y.1) → ∀ {n:Nat} {x:α},(n,x) ∈ xs → get xs n = some x
 | [],_,_,_,h=>by simp at h
 | (k,y) :: xs,hp,n,x,h=>by
  obtain ⟨h1,h2⟩:=List.pairwise_cons.1 hp
  rcases List.mem_cons.1 h with h | h
  ·simp only[Prod.mk.injEq] at h
   obtain ⟨rfl,rfl⟩:=h
   simp[get]
  ·have:=h1 _ h
   simp only[get]
   rw[if_neg (fun e=>this e.symm)]
   exact eJ h2 h
theorem Slots.congr {w:World} {g:Gh} {σ σ':St} {a:Act} (h:Slots w g σ a) (he:σ'.env = σ.env) (hb:σ'.box = σ.box) (hr:σ'.row = σ.row):Slots w g σ' a:=by
 obtain ⟨h1,h2⟩:=h;obtain ⟨env,box,row,nxt,sav⟩:=σ;obtain ⟨env',box',row',nxt',sav'⟩:=σ';simp only at he hb hr;subst he hb hr;refine ⟨fun t c v hg hc=>?_,h2⟩;exact (h1 t c v hg hc).stays fun l _=>⟨fun r p _ row h=>⟨row,h,rfl,fun z es u h1 h2=>⟨es,h1,rfl,h2⟩⟩,fun b _ h=>⟨h,rfl⟩⟩
theorem iY {w:World} {g:Gh} {σ σ':St} (hb:σ'.box = σ.box) (hr:σ'.row = σ.row) (l:L):StaysL w w g g σ σ' l :=
 ⟨fun r p _ row h=>⟨row,by rw[hr];exact h,rfl,fun z es u h1 h2=>⟨es,h1,rfl,h2⟩⟩,fun b _ h=>⟨by rw[hb];exact h,rfl⟩⟩
theorem RepV.same {w:World} {g:Gh} {σ σ':St} {v:V} {x:Value} (h:RepV w g σ v x) (hb:σ'.box = σ.box) (hr:σ'.row = σ.row):RepV w g σ' v x:=h.stays fun l _=>iY hb hr l
theorem RepLs.same {w:World} {g:Gh} {σ σ':St} {v:List L} {x:List Value} (h:RepLs w g σ v x) (hb:σ'.box = σ.box) (hr:σ'.row = σ.row):RepLs w g σ' v x:=h.stays fun l _=>iY hb hr l
theorem Owned.same {g:Gh} {σ σ':St} (hb:σ'.box = σ.box) (hr:σ'.row = σ.row):Owned g σ' = Owned g σ:=by
 funext b;simp only[Owned,hb,hr]
theorem Mem.same {w:World} {g:Gh} {σ σ':St} (m:Mem w g σ) (hb:σ'.box = σ.box) (hr:σ'.row = σ.row):Mem w g σ':=by
 obtain ⟨h1,h2,h3,h4,h5,h6,h7,h8⟩:=m;have ho:=Owned.same (g:=g) hb hr;refine ⟨?_,?_,?_,?_,?_,?_,?_,?_⟩
 ·rw[hb];intro k ls h;obtain ⟨cs,e,hc,hl⟩:=h1 k ls h;exact ⟨cs,e,hc,hl.same hb hr⟩
 ·rw[hr];exact h2
 ·rw[hr,ho];exact h3
 ·rw[hr,ho];exact h4
 ·rw[hb];exact h5
 ·rw[hb,hr];exact h6
 ·rw[hr];exact h7
 ·rw[ho];exact h8
section
variable {w0 w w':World} {Al:Blks} {N:Nat} {g g':Gh} {σ σ' σ1:St} {a:Act} {DR DB:List Nat} {nr:List (Nat × Row)} {nb:List (Nat × List L)} {kill:L → Bool}
theorem ow {α:Type} {xs:List (Nat × α)} (h:xs.Pairwise fun x y=>x.1 ≠ y.1) (ns:List Nat):(del ns xs).Pairwise fun x y=>x.1 ≠ y.1:=h.sublist List.filter_sublist
theorem ox {α:Type} {xs:List (Nat × α)} (h:xs.Pairwise fun x y=>x.1 ≠ y.1) (d:Nat) (x:α):((d,x) :: del [d] xs).Pairwise fun x y=>x.1 ≠ y.1:=by
 refine List.pairwise_cons.2 ⟨fun y hy=>?_,ow h [d]⟩;have:=(List.mem_filter.1 hy).2;simp at this
 exact fun e=>this e.symm
theorem Rel.put (r:Rel w0 Al N σ a w g) {d:Option Nat} (hd:∀ t,d = some t → t < N) {c:Bool} {v:V} {x:Value} (hy:c = true → RepV w g σ v x) (hn:c = false → x = undef):Rel w0 Al N (σ.set d c v) (a.put d x) w g:=by
 cases d with
 | none =>
  exact r
 | some d =>
  have hlt:d < a.tmps.size:=r.tsz ▸ hd d rfl
  have hs:∀ t,(a.put (some d) x).tmps.getD t undef = if t = d then x else a.tmps.getD t undef:=by
   intro t;simp only[Act.put,Array.getD_eq_getD_getElem?,Array.getElem?_setIfInBounds];by_cases e:d = t
   ·subst e;simp[hlt]
   ·simp[e,Ne.symm e]
  refine ⟨⟨fun t c' v' h hc=>?_,fun t c' v' h hc=>?_⟩,ox r.unq d _,r.mem.same rfl rfl,?_,r.frm,r.siz,r.os,r.tape,r.out,r.dfr,by simp[Act.put,r.tsz],fun x hx=>?_⟩
  ·rw[hs];simp only[St.set,get] at h;split at h
   ·rename_i e
    simp only[Option.some.injEq,Prod.mk.injEq] at h;obtain ⟨rfl,rfl⟩:=h;rw[if_pos e];exact (hy hc).same rfl rfl
   ·rename_i e
    rw[if_neg e];rw[bq] at h;split at h
    ·cases h
    ·exact (r.slots.yes t c' v' h hc).same rfl rfl
  ·rw[hs];simp only[St.set,get] at h;split at h
   ·rename_i e
    simp only[Option.some.injEq,Prod.mk.injEq] at h;obtain ⟨rfl,rfl⟩:=h;rw[if_pos e];exact hn hc
   ·rename_i e
    rw[if_neg e];rw[bq] at h;split at h
    ·cases h
    ·exact r.slots.no t c' v' h hc
  ·rw[Owned.same (g:=g) (σ':=σ.set (some d) c v) (σ:=σ) rfl rfl];exact r.own
  ·obtain ⟨h1,h2,h3⟩:=r.sav x hx;exact ⟨fun t c' v' h hc=>(h1 t c' v' h hc).same rfl rfl,h2,h3⟩
theorem Rel.turn (r:Rel w0 Al N σ a w g) (n:NewIn w w' g g' σ σ1 DR DB nr nb kill) (hes:σ1.env = killE kill σ.env ∧ σ1.sav = killS kill σ.sav) (hos:w'.os = w.os) (ht:w'.tape = w.tape) (ho:w'.output = w.output):Rel w0 Al N σ1 a w' g':=by
 obtain ⟨he,hv⟩:=hes;refine ⟨⟨fun t c v h hc=>?_,fun t c v h hc=>?_⟩,?_,n.mem r.mem,fun b h=>?_,fun b hb hA=>?_,Nat.le_trans r.siz n.siz,hos.trans r.os,ht.trans r.tape,ho.trans r.out,r.dfr,r.tsz,fun x hx=>?_⟩
 ·rw[he] at h;obtain ⟨h1,h2⟩:=eo kill _ _ _ h;refine (r.slots.yes t c v (eJ r.unq h1) hc).stays fun l hl=>n.stays r.mem ?_;have:=List.any_eq_false.1 h2 l hl;simpa using this
 ·rw[he] at h;exact r.slots.no t c v (eJ r.unq (eo kill _ _ _ h).1) hc
 ·rw[he];exact r.unq.sublist List.filter_sublist
 ·rcases (n.owned r.mem h).1 with h | h
  ·exact r.own b h
  ·exact Or.inl (Nat.le_trans r.siz h)
 ·rw[← r.frm b hb hA];refine n.old b (Nat.lt_of_lt_of_le hb r.siz) fun hp=>?_;rcases r.own b (fN hp) with h | h
  ·omega
  ·exact hA h
 ·rw[hv] at hx;obtain ⟨y,hy,rfl⟩:=List.mem_map.1 hx;obtain ⟨h1,h2,h3⟩:=r.sav y hy;refine ⟨fun t c v h hc=>?_,fun t c v h hc=>?_,h3.sublist List.filter_sublist⟩
  ·obtain ⟨q1,q2⟩:=eo kill _ _ _ h;refine (h1 t c v (eJ h3 q1) hc).stays fun l hl=>n.stays r.mem ?_;have:=List.any_eq_false.1 q2 l hl;simpa using this
  ·exact h2 t c v (eJ h3 (eo kill _ _ _ h).1) hc
theorem Rel.drew (r:Rel w0 Al N σ a w g):Rel w0 Al N σ a { w with drawn:=w.drawn + 1 } g:=by
 have hn:NewIn w { w with drawn:=w.drawn + 1 } g g σ { σ with env:=killE (fun _=>false) σ.env } [] [] [] [] (fun _=>false):=by
  refine ⟨by simp[bw],by simp[bw,cD],fun b _ _=>rfl,Nat.le_refl _,fun _ _ _=>⟨rfl,rfl⟩,fun _ _ _=>rfl,?_,?_,?_,?_,?_,?_,?_,?_,?_,?_,?_,?_,?_⟩ <;> intros <;> simp_all [get]
 have:=r.turn hn ⟨rfl,(bK _).symm⟩ rfl rfl rfl;rwa [bD] at this
theorem tn (m:Mem w g σ) {k:Nat} (hk:get σ.box k = none) {cs:Array Value} {e:TypeId} {ls:List L} (hr:RepLs w g σ ls cs.toList) :
  NewIn w { w with heap:=w.heap.push (.cells cs e) } g { g with bx:=fun b=>if b = k then w.heap.size else g.bx b } σ { σ with box:=(k,ls) :: σ.box } [] [] [] [(k,ls)] (fun _=>false):=by
 have hold:∀ b,b < w.heap.size → (w.heap.push (.cells cs e))[b]? = w.heap[b]?:=fun b hb=>by rw[Array.getElem?_push,if_neg (by omega)]
 refine ⟨by simp[bw],by simp[bw,cD],fun b hb _=>hold b hb,by simp,fun r _ _=>⟨rfl,rfl⟩,fun b _ hb=>?_,?_,?_,?_,?_,?_,?_,?_,?_,?_,?_,?_,?_,?_⟩
 ·simp only
  rw[if_neg]
  intro e
  subst e
  rw[hk] at hb
  cases hb
 ·intro k row h;simp[get] at h
 ·intro k' ls' h
  simp only[get] at h
  split at h
  ·rename_i e;subst e;exact Or.inr hk
  ·cases h
 ·intro k row h;simp[get] at h
 ·intro k row h;simp[get] at h
 ·intro k row h;simp[get] at h
 ·intro k row b h;simp[get] at h
 ·intro k' ls' h
  simp only[get] at h
  split at h
  ·rename_i e;subst e;simp
  ·cases h
 ·intro r r' row row' b h;simp[get] at h
 ·intro k ls r row _ h;simp[get] at h
 ·intro k1 k2 l1 l2 h1 h2 _
  simp only[get] at h1 h2
  split at h1
  ·split at h2
   ·simp_all
   ·cases h2
  ·cases h1
 ·intro k' ls' h
  simp only[get] at h
  split at h
  ·rename_i e'
   simp only[Option.some.injEq] at h
   subst e';subst h
   refine ⟨cs,e,by simp,?_⟩
   refine hr.stays fun l hl=>⟨fun r p _=>?_,fun b _ hb=>?_⟩
   ·exact .of_same m (fun row h=>h) (fun _ _=>rfl) (fun row h b _ _ hlt=>hold b hlt)
   ·refine ⟨?_,?_⟩
    ·simp only[get];split
     ·rfl
     ·exact hb
    ·simp only
     rw[if_neg]
     intro e
     subst e
     rw[hk] at hb
     cases hb
  ·cases h
 ·intro l _ r p _ _ h;simp at h
 ·intro l _ b _ _ h;simp at h
end
section
variable {P:Program} {w:World}
def Holds (w:World) (z:Nat) (oa:Option Addr) (n cap:Nat) (olds:List Value):Prop :=
 (cap = 0 ∧ n = 0 ∧ olds = []) ∨ ∃ a cs e0,oa = some a ∧ a.spot = none ∧ w.heap[a.block]? = some (.cells cs e0 (0,0)) ∧ a.off + cap * z ≤ cs.size ∧ n ≤ cap ∧ olds = (cs.toList.drop a.off).take (n * z)
theorem fO {w:World} {g:Nat} {cs cs':Array Value} {e:TypeId} (h:w.heap[g]? = some (.cells cs e (0,0))):(w.setRow g cs').heap[g]? = some (.cells cs' e (0,0)):=setRow_heap w g cs cs' e (0,0) h
theorem kQ {w:World} {g b:Nat} {cs':Array Value} (h:b ≠ g):(w.setRow g cs').heap[b]? = w.heap[b]?:=by
 simp only[World.setRow,Array.getElem?_modify];rw[if_neg (Ne.symm h)]
theorem mD {t e ty:TypeId} (hu:(tyOf P t).u = .sl e) (hk:(tyOf P e).known = true) {z:Nat} (hz:(tyOf P e).sz = z) {oa ob:Option Addr} {n cap m c:Nat} {olds news:List Value}
  (ho:Holds w z oa n cap olds) (hl:news.length = m * z) (hn:m = 0 ∨ ∃ b,ob = some b ∧ ∀ j v,news[j]? = some v → w.cell? (b.add j) = some v) (h1:∀ v ∈ news,v.oneCell' = true)
  (hb:(n + m) * (tyOf P e).by_ ≤ 140737488355328) (hm:n + m ≤ 9223372036854775807) :
  ∃ r w',(Builtin.append_ #[t,t] ty #[.slice oa n cap,.slice ob m c]).run P w = .ok r w' ∧ w'.os = w.os ∧ w'.tape = w.tape ∧ w'.output = w.output ∧ w.heap.size ≤ w'.heap.size ∧
   ((m = 0 ∧ r = .slice oa n cap ∧ w' = w) ∨
   ∃ a' cap' cs' e',0 < m ∧ r = .slice (some a') (n + m) cap' ∧ a'.spot = none ∧ w'.heap[a'.block]? = some (.cells cs' e' (0,0)) ∧ a'.off + cap' * z ≤ cs'.size ∧ n + m ≤ cap' ∧
    (cs'.toList.drop a'.off).take ((n + m) * z) = olds ++ news ∧ (∀ b,b < w.heap.size → b ≠ a'.block → w'.heap[b]? = w.heap[b]?) ∧ a'.block < w'.heap.size ∧
    ((∃ a cs e0,oa = some a ∧ w.heap[a.block]? = some (.cells cs e0 (0,0)) ∧ a'.block = a.block ∧ cap ≠ 0) ∨ a'.block = w.heap.size)):=by
 obtain ⟨i,zv,hi,hzv,_,hsz,hby,_,hzs⟩:=bC hk
 have hsl:=gJ hu
 rw[hsz] at hz
 rw[hby] at hb
 subst hz
 have hncap:n ≤ cap:=by
  rcases ho with ⟨h1,h2,_⟩ | ⟨a,cs,e0,_,_,_,_,h,_⟩ <;> omega
 by_cases hm0:m = 0
 ·subst hm0
  have hnil:news = []:=List.eq_nil_of_length_eq_zero (by simpa using hl)
  refine ⟨.slice oa n cap,w,?_,rfl,rfl,rfl,Nat.le_refl _,Or.inl ⟨rfl,rfl,rfl⟩⟩
  have hf:(Builtin.firstCells i.size 0 (.slice ob 0 c)).run P w = .ok #[] w:=by
   cases ob with
   | none=>rfl
   | some b=>simp[Builtin.firstCells,loadCells,loadCellsFrom]
  cases oa with
  | none=>simp[Builtin.append_,run_underlying hsl,sizeOf,typeInfo,hi,Builtin.lenOf,hncap,hf]
  | some a=>simp[Builtin.append_,run_underlying hsl,sizeOf,typeInfo,hi,Builtin.lenOf,hncap,hf,storeCells]
 ·obtain ⟨b,rfl,hcell⟩:=hn.resolve_left hm0
  by_cases hroom:n + m ≤ cap
  ·
   rcases ho with ⟨h1,h2,_⟩ | ⟨a,cs,e0,rfl,hsp,hcs,hsize,_,rfl⟩
   ·omega
   ·have hmul:(n + m) * i.size ≤ cap * i.size:=Nat.mul_le_mul_right _ hroom
    have hnm:(n + m) * i.size = n * i.size + m * i.size:=Nat.add_mul ..
    have hf:=run_firstCells_some (P:=P) w i.size m b m c news hl hcell
    have hst:=run_storeCells_at P a.block (a.off + n * i.size) e0 news 0 cs w hcs (by rw[hl];omega) h1
    simp only[Nat.add_zero] at hst
    refine ⟨.slice (some a) (n + m) cap,w.setRow a.block (cs.toList.take (a.off + n * i.size) ++ news ++ cs.toList.drop (a.off + n * i.size + news.length)).toArray,?_,rfl,rfl,rfl,by simp[World.setRow],Or.inr ?_⟩
    ·have hadd:a.add (n * i.size) = ⟨a.block,a.off + n * i.size,none⟩:=Addr.add_plain hsp _
     simp[Builtin.append_,run_underlying hsl,sizeOf,typeInfo,hi,Builtin.lenOf,hroom,hf,hadd,hst]
    ·refine ⟨a,cap,_,e0,by omega,rfl,hsp,fO hcs,?_,hroom,?_,fun x _ hx=>kQ hx,?_,Or.inl ⟨a,cs,e0,rfl,hcs,rfl,by omega⟩⟩
     ·simp;omega
     ·simp only[]
      apply List.ext_getElem?
      intro j
      have hlen:((cs.toList.drop a.off).take (n * i.size)).length = n * i.size:=by simp;omega
      have hR:((cs.toList.drop a.off).take (n * i.size) ++ news)[j]? = if j < n * i.size then ((cs.toList.drop a.off).take (n * i.size))[j]? else news[j - n * i.size]?:=by
       rw[List.getElem?_append,hlen]
      rw[List.getElem?_take,List.getElem?_drop,hR]
      have hpg:=dD (ls:=cs.toList) (off:=a.off + n * i.size) (xs:=news) (by simp;omega) (a.off + j)
      rw[hpg]
      by_cases h1:j < n * i.size
      ·rw[if_pos (by omega),if_pos (by omega),if_pos h1,List.getElem?_take,if_pos h1,List.getElem?_drop]
      ·rw[if_neg h1]
       by_cases h2:j < n * i.size + m * i.size
       ·rw[if_pos (by omega),if_neg (by omega),if_pos (by omega)]
        congr 1
        omega
       ·rw[if_neg (by omega),List.getElem?_eq_none (by omega)]
     ·simp only[World.setRow,Array.size_modify]
      exact (Array.getElem?_eq_some_iff.1 hcs).1
  ·
   have main:∀ (olds:List Value) (r:Value) (cp:Nat),olds.length = n * i.size → n + m ≤ cp →
     ∀ w',w' = w.drew.alloc (.cells (olds.toArray ++ news.toArray ++ Builtin.zeroCells zv.cells (cp - (n + m))) e) → r = .slice (some ⟨w.heap.size,0,none⟩) (n + m) cp → zv.cells.size = i.size →
     w'.os = w.os ∧ w'.tape = w.tape ∧ w'.output = w.output ∧ w.heap.size ≤ w'.heap.size ∧ ((m = 0 ∧ r = .slice oa n cap ∧ w' = w) ∨
      ∃ a' cap' cs' e',0 < m ∧ r = .slice (some a') (n + m) cap' ∧ a'.spot = none ∧ w'.heap[a'.block]? = some (.cells cs' e' (0,0)) ∧ a'.off + cap' * i.size ≤ cs'.size ∧ n + m ≤ cap' ∧
       (cs'.toList.drop a'.off).take ((n + m) * i.size) = olds ++ news ∧ (∀ b,b < w.heap.size → b ≠ a'.block → w'.heap[b]? = w.heap[b]?) ∧ a'.block < w'.heap.size ∧
       ((∃ a cs e0,oa = some a ∧ w.heap[a.block]? = some (.cells cs e0 (0,0)) ∧ a'.block = a.block ∧ cap ≠ 0) ∨ a'.block = w.heap.size)):=by
    intro olds r cp hlo hcp w' hw' hr hzs
    subst hw' hr
    refine ⟨rfl,rfl,rfl,by simp,Or.inr ⟨⟨w.heap.size,0,none⟩,cp,_,e,by omega,rfl,rfl,heap_alloc_new w.drew _,?_,hcp,?_,fun x hx _=>heap_alloc_old w.drew _ x hx,by simp,Or.inr rfl⟩⟩
    ·simp only[Array.size_append,List.size_toArray,size_zeroCells,hzs,hlo,hl,Nat.zero_add]
     rw[← Nat.add_mul,← Nat.add_mul]
     exact Nat.mul_le_mul_right _ (by omega)
    ·have hlen:(olds ++ news).length = (n + m) * i.size:=by rw[List.length_append,hlo,hl,Nat.add_mul]
     simp only[Array.toList_append,List.append_assoc,List.drop_zero]
     rw[← List.append_assoc,← hlen]
     exact List.take_left
   rcases ho with ⟨hc0,hn0,rfl⟩ | ⟨a,cs,e0,rfl,hsp,hcs,hsize,_,rfl⟩
   ·subst hc0 hn0
    cases oa with
    | none =>
     have hr:=run_append_nil (P:=P) w t ty e i zv hsl hi hzv b m c news hl hcell (by omega) (by omega) (by have hb':=hb;simp only[Nat.zero_add] at hb';omega)
     obtain ⟨h2,h3,h4,h5,h6⟩:=main [] _ (grownCap w m 0 e) (by simp) (by simpa using grownCap_ge w m 0 e) _ (by simp;rfl) (by simp;rfl) hzs
     refine ⟨_,_,?_,h2,h3,h4,h5,h6⟩
     simpa using hr
    | some a =>
     have hr:=run_append_grow (P:=P) w t ty e i zv hsl hi hzv a 0 0 [] (by simp) (by simp) b m c news hl hcell (by omega) (by omega) (growslice_fits (by omega) hb)
     obtain ⟨h2,h3,h4,h5,h6⟩:=main [] _ (grownCap w (0 + m) 0 e) (by simp) (grownCap_ge w (0 + m) 0 e) _ rfl rfl hzs
     exact ⟨_,_,hr,h2,h3,h4,h5,h6⟩
   ·have hlo:((cs.toList.drop a.off).take (n * i.size)).length = n * i.size:=by
     have:n * i.size ≤ cap * i.size:=Nat.mul_le_mul_right _ hncap
     simp;omega
    have hr:=run_append_grow (P:=P) w t ty e i zv hsl hi hzv a n cap _ hlo (fun j v hv=>by
     rw[List.getElem?_take] at hv
     split at hv
     ·rw[List.getElem?_drop] at hv
      rw[Addr.add_plain hsp]
      simpa [World.cell?,hcs] using hv
     ·cases hv) b m c news hl hcell (by omega) (by omega) (growslice_fits (by omega) hb)
    obtain ⟨h2,h3,h4,h5,h6⟩:=main _ _ (grownCap w (n + m) cap e) hlo (grownCap_ge w (n + m) cap e) _ rfl rfl hzs
    exact ⟨_,_,hr,h2,h3,h4,h5,h6⟩
end
def upd {α:Type} (f:Nat → α) (k:Nat) (x:α):Nat → α:=fun n=>if n = k then x else f n
theorem bi {α:Type} (f:Nat → α) (k:Nat) (x:α):upd f k x k = x:=by simp[upd]
theorem upd_ne {α:Type} (f:Nat → α) {k n:Nat} (x:α) (h:n ≠ k):upd f k x n = f n:=by simp[upd,h]
def hits (rs:List Nat) (l:L):Bool:=match l.rowOf with
 | some (r,_)=>rs.contains r
 | none=>false
def St.swap (σ:St) (kill:L → Bool) (rs:List Nat) (k:Nat) (row:Row):St :=
 { σ with env:=killE kill σ.env,sav:=killS kill σ.sav,box:=killB kill σ.box,row:=(k,row) :: del rs σ.row }
def Gh.row (g:Gh) (k:Nat) (hv:Value) (F:Blks):Gh:={ g with rw:=upd g.rw k hv,fp:=upd g.fp k F }
section
variable {w w':World} {g:Gh} {σ:St}
theorem bz {α:Type} {k n:Nat} {x y:α} (h:get [(k,x)] n = some y):n = k ∧ x = y:=by
 simp only[get] at h;split at h
 ·rename_i e;simp only[Option.some.injEq] at h;exact ⟨e,h⟩
 ·cases h
theorem fb (m:Mem w g σ) {kill:L → Bool} {rs:List Nat} {k:Nat} {row:Row} {hv:Value} {F N:Blks} (hk:k ∈ rs ∨ get σ.row k = none) (hro:row.pm ≠ .ro)
  (hown:row.pm = .own → Rep w' true hv row.t F) (htop:row.pm = .top → RepTop w' hv row.z row.es F N) (hN:∀ b,N b → b < w.heap.size ∧ (¬ Owned g σ b ∨ RowsFp g σ rs b) ∧ ¬ F b)
  (hF:∀ b,F b → (RowsFp g σ rs b ∨ w.heap.size ≤ b) ∧ b < w'.heap.size) (hold:∀ b,b < w.heap.size → ¬ RowsFp g σ rs b → w'.heap[b]? = w.heap[b]?) (hsz:w.heap.size ≤ w'.heap.size)
  (hkeep:∀ l,kill l = false → ∀ r p,l.rowOf = some (r,p) → (get σ.row r).isSome → r ∈ rs → Stays w w' g (g.row k hv F) σ (σ.swap kill rs k row) r p) :
  NewIn w w' g (g.row k hv F) σ (σ.swap kill rs k row) rs [] [(k,row)] [] kill:=by
 have pool:∀ b,Pool g σ rs [] b ↔ RowsFp g σ rs b:=fun b=>by simp[Pool,RowsFp]
 have rne:∀ r,r ∉ rs → (get σ.row r).isSome → r ≠ k:=by
  rintro r h1 h2 rfl
  rcases hk with h | h
  ·exact h1 h
  ·rw[h] at h2;cases h2
 have own':∀ b,Owned (g.row k hv F) (σ.swap kill rs k row) b → (Owned g σ b ∧ ¬ RowsFp g σ rs b) ∨ F b:=by
  rintro b (⟨k',ls,h1,h2⟩ | ⟨r,row',h1,h2,h3⟩)
  ·simp only[St.swap,fA,Option.map_eq_some_iff] at h1
   obtain ⟨ls0,h1,_⟩:=h1
   refine Or.inl ⟨Or.inl ⟨k',ls0,h1,h2⟩,fun ⟨r,row,_,h4,h5,h6⟩=>?_⟩
   subst h2
   exact m.br k' ls0 r row h1 h4 h5 h6
  ·simp only[St.swap,get] at h1
   split at h1
   ·rename_i e
    subst e
    right
    simpa [Gh.row,bi] using h3
   ·rename_i e
    rw[bq] at h1
    split at h1
    ·cases h1
    ·rename_i hr
     simp only[Gh.row,upd_ne _ _ e] at h3
     exact Or.inl ⟨Or.inr ⟨r,row',h1,h2,h3⟩,fun ⟨r2,row2,h4,h5,h6,h7⟩=>hr (m.rr r r2 row' row2 b h1 h5 h2 h6 h3 h7 ▸ h4)⟩
 refine ⟨rfl,by simp[St.swap,bw],fun b hb hp=>hold b hb fun h=>hp ((pool b).2 h),hsz,fun r hr hs=>?_,fun _ _ _=>rfl,?_,?_,?_,?_,?_,?_,?_,?_,?_,?_,?_,hkeep,?_⟩
 ·have:=rne r hr hs
  exact ⟨by simp[Gh.row,upd_ne _ _ this],by simp[Gh.row,upd_ne _ _ this]⟩
 ·intro k' row' h
  obtain ⟨rfl,_⟩:=bz h
  exact hk
 ·intro k' ls h;simp[get] at h
 ·intro k' row' h hp
  obtain ⟨rfl,rfl⟩:=bz h
  simpa [Gh.row,bi] using hown hp
 ·intro k' row' h hp
  obtain ⟨rfl,rfl⟩:=bz h
  have:=htop hp
  simp only[Gh.row,bi]
  rcases this with h | ⟨a,cap,cs,h1,h2,h3,h4⟩
  ·exact Or.inl h
  ·refine Or.inr ⟨a,cap,cs,h1,h2,h3,fun i j x c hx hc=>(h4 i j x c hx hc).mono fun b hb ho=>?_⟩
   obtain ⟨_,h6,h7⟩:=hN b hb
   exact (own' b ho).elim (fun ⟨h8,h9⟩=>h6.elim (fun h=>h h8) h9) h7
 ·intro k' row' h hp
  obtain ⟨rfl,rfl⟩:=bz h
  exact absurd hp hro
 ·intro k' row' b h hp hb
  obtain ⟨rfl,rfl⟩:=bz h
  simp only[Gh.row,bi] at hb
  exact ⟨(hF b hb).1.imp (pool b).2 id,(hF b hb).2⟩
 ·intro k' ls h;simp[get] at h
 ·intro r r' row1 row2 b h h' _ _ _ _
  exact (bz h).1.trans (bz h').1.symm
 ·intro k' ls r row' h;simp[get] at h
 ·intro k1 k2 l1 l2 h;simp[get] at h
 ·intro k' ls h;simp[get] at h
 ·intro l _ b _ _ h;simp at h
def frz (rs:List Nat) (rows:List (Nat × Row)):List (Nat × Row):=(rows.filter fun x=>rs.contains x.1).map fun x=>(x.1,{ x.2 with pm:=.ro })
def St.freeze (σ:St) (rs:List Nat):St:={ σ with row:=frz rs σ.row ++ del rs σ.row }
theorem fP (rs:List Nat) (rows:List (Nat × Row)) (n:Nat):get (frz rs rows) n = if n ∈ rs then (get rows n).map fun x=>{ x with pm:=.ro } else none:=by
 induction rows with
 | nil=>simp[frz,get]
 | cons x xs ih =>
  obtain ⟨k,x⟩:=x;unfold frz at ih ⊢;simp only[List.filter_cons];by_cases hk:k ∈ rs
  ·(have:rs.contains k = true:=by simpa using hk);simp only[this,if_true,List.map_cons,get,ih];by_cases hn:n = k
   ·subst hn;simp[hk]
   ·simp[hn]
  ·(have:rs.contains k = false:=by simpa using hk);simp only[this,Bool.false_eq_true,if_false,ih,get];by_cases hn:n ∈ rs
   ·have:n ≠ k:=fun e=>hk (e ▸ hn);simp[hn,this]
   ·simp[hn]
theorem Mem.lentRow (m:Mem w g σ) {r:Nat} {row:Row} (h:get σ.row r = some row):Rep w false (g.rw r) row.t fun b=>RowsFp g σ [r] b ∨ ¬ Owned g σ b:=by
 cases hp:row.pm with
 | own=>exact (m.own r row h hp).lent.mono fun b hb=>Or.inl ⟨r,row,by simp,h,by simp[hp],hb⟩
 | ro=>exact (m.ro r row h hp).mono fun b hb=>Or.inr hb
 | top =>
  rcases m.top r row h hp with ⟨e,oa,hv⟩ | ⟨a,cap,cs,hv,hl,hF,hc⟩
  ·rw[hv,Row.t,e];cases oa with
   | none=>exact .nils
   | some a=>exact .bare
  ·rw[hv]
   exact .sl (fun _ _ b=>RowsFp g σ [r] b ∨ ¬ Owned g σ b) ⟨let ⟨e,fr,h,_⟩:=hl.blk;⟨e,fr,h,fun h=>by cases h⟩,hl.spot,hl.len,hl.room,hl.each⟩ (Or.inl ⟨r,row,by simp,h,by simp[hp],hF⟩)
    (fun _ _ _ h=>h) (fun h=>by cases h) (fun h=>by cases h) (fun i j x c hx hcc=>(hc i j x c hx hcc).mono fun b hb=>Or.inr hb)
theorem nK (m:Mem w g σ) (rs:List Nat):NewIn w w g g σ (σ.freeze rs) rs [] (frz rs σ.row) [] (fun _=>false):=by
 have ownS:∀ b,Owned g (σ.freeze rs) b → Owned g σ b ∧ ¬ RowsFp g σ rs b:=by
  rintro b (⟨k',ls,h1,h2⟩ | ⟨r,row',h1,h2,h3⟩)
  ·exact ⟨Or.inl ⟨k',ls,h1,h2⟩,fun ⟨r,row,_,h4,h5,h6⟩=>by subst h2;exact m.br k' ls r row h1 h4 h5 h6⟩
  ·simp only[St.freeze,get_append,fP,bq] at h1;by_cases hr:r ∈ rs
   ·simp only[hr,if_true] at h1;cases hg:get σ.row r with
    | none=>simp[hg] at h1
    | some row0 =>
     simp only[hg,Option.map_some,Option.some.injEq] at h1;subst h1;exact absurd rfl h2
   ·simp only[hr,if_false] at h1;exact ⟨Or.inr ⟨r,row',h1,h2,h3⟩,fun ⟨r2,row2,h4,h5,h6,h7⟩=>hr (m.rr r r2 row' row2 b h1 h5 h2 h6 h3 h7 ▸ h4)⟩
 have fro:∀ k row,get (frz rs σ.row) k = some row → k ∈ rs ∧ ∃ row0,get σ.row k = some row0 ∧ row = { row0 with pm:=.ro }:=by
  intro k row h;rw[fP] at h;split at h
  ·rename_i hk
   simp only[Option.map_eq_some_iff] at h;obtain ⟨row0,h1,h2⟩:=h;exact ⟨hk,row0,h1,h2.symm⟩
  ·cases h
 refine ⟨rfl,by simp[St.freeze,bw,cD],fun b hb hp=>rfl,Nat.le_refl _,fun r hr hs=>⟨rfl,rfl⟩,fun _ _ _=>rfl,?_,?_,?_,?_,?_,?_,?_,?_,?_,?_,?_,?_,?_⟩
 ·intro k row h;exact Or.inl (fro k row h).1
 ·intro k ls h;simp[get] at h
 ·intro k row h hp;obtain ⟨_,row0,_,rfl⟩:=fro k row h;cases hp
 ·intro k row h hp;obtain ⟨_,row0,_,rfl⟩:=fro k row h;cases hp
 ·intro k row h hp;obtain ⟨hk,row0,h0,rfl⟩:=fro k row h;refine (m.lentRow h0).mono fun b hb ho=>?_;obtain ⟨h1,h2⟩:=ownS b ho;rcases hb with ⟨r,row,hr,h3,h4,h5⟩ | hb
  ·simp only[List.mem_singleton] at hr;subst hr;exact h2 ⟨r,row,hk,h3,h4,h5⟩
  ·exact hb h1
 ·intro k row b h hp;obtain ⟨_,row0,_,rfl⟩:=fro k row h;exact absurd rfl hp
 ·intro k ls h;simp[get] at h
 ·intro r r' row row' b h _ hp;obtain ⟨_,row0,_,rfl⟩:=fro r row h;exact absurd rfl hp
 ·intro k ls r row h;simp[get] at h
 ·intro k k' l l' h;simp[get] at h
 ·intro k ls h;simp[get] at h
 ·intro l _ r p _ _ hr row h;refine ⟨{ row with pm:=.ro },?_,rfl,fun z es u h1 h2=>⟨es,h1,rfl,h2⟩⟩;simp[St.freeze,get_append,fP,hr,h]
 ·intro l _ b _ _ h;simp at h
end
end Go.Tw
