/- The layer: trees, states, rules; plain functions. -/
import Derived.Test.YtfajbeoajomljaaGreatBaseD
import Derived.Shelf.Spec.SlicesGrow
import Derived.Lib.Join
import Derived.Below
set_option linter.unusedSimpArgs false
set_option linter.unusedVariables false
set_option linter.unnecessarySimpa false
namespace Go.Tw
def eG (s:Int):List T:=[.int .i64 s,.hole]
def kept (xs:List GBlock) (page:Int) (j:Nat):Nat:=(purge (xs.take j) page).length
def Del (xs:List GBlock) (page:Int) (j:Nat) (es:Els):Prop :=
 ∃ gl:List Int,es = enc eBlock (purge (xs.take j) page) ++ enc eG gl ++ enc eBlock (xs.drop j) ∧ kept xs page j + gl.length = j ∧ 0 < gl.length
theorem qj {α:Type} {l X:List α} {k:Nat} (h:k ≤ l.length):List.take k (List.take k l ++ X) = List.take k l:=by
 rw[List.take_append_of_le_length (by simp;omega),List.take_take,Nat.min_self]
theorem ut (page:Int):purge [] page = []:=rfl
section
variable {xs:List GBlock} {page:Int} {j:Nat} {es:Els}
theorem Del.len (h:Del xs page j es) (hj:j ≤ xs.length):es.length = xs.length:=by
 obtain ⟨gl,rfl,h1,h2⟩:=h;simp only[List.length_append,aL,List.length_drop];unfold kept at h1;omega
theorem Del.lt (h:Del xs page j es):kept xs page j < j:=by
 obtain ⟨gl,-,h1,h2⟩:=h;omega
theorem Del.at (h:Del xs page j es) (hj:j < xs.length):es[j]? = some [.int .i64 xs[j].start,.sl 5 (enc eIns xs[j].list)]:=by
 obtain ⟨gl,rfl,h1,h2⟩:=h;unfold kept at h1;rw[List.getElem?_append_right (by simp only[List.length_append,aL];omega)];simp only[List.length_append,aL];rw[show j - ((purge (xs.take j) page).length + gl.length) = 0 from by omega,sM,List.getElem?_drop];simp[hj,eBlock]
theorem Del.gap (h:Del xs page j es):∃ s,es[kept xs page j]? = some [.int .i64 s,.hole]:=by
 obtain ⟨gl,rfl,h1,h2⟩:=h;match gl,h2 with
 | s :: gl,_ =>
  refine ⟨s,?_⟩;unfold kept;rw[List.append_assoc,List.getElem?_append_right (by simp[aL])];simp[aL,enc,eG]
theorem set_mid {α:Type} (a b c:List α) (x y:α):(a ++ (b ++ x :: c)).set (a.length + b.length) y = a ++ (b ++ y :: c):=by
 rw[List.set_append_right _ _ (by omega),Nat.add_sub_cancel_left,List.set_append_right _ _ (by omega),Nat.sub_self];rfl
theorem Del.skip (h:Del xs page j es) (hj:j < xs.length) (hp:pageOf xs[j] = page):Del xs page (j + 1) (es.set j [.int .i64 xs[j].start,.hole]) ∧ kept xs page (j + 1) = kept xs page j:=by
 obtain ⟨gl,rfl,h1,h2⟩:=h;(have hk:purge (xs.take (j + 1)) page = purge (xs.take j) page:=by rw[fX hj,if_pos hp,List.append_nil]);refine ⟨⟨gl ++ [xs[j].start],?_,?_,by simp⟩,by unfold kept;rw[hk]⟩
 ·rw[hk];unfold kept at h1;(have e1:enc eBlock (xs.drop j) = eBlock xs[j] :: enc eBlock (xs.drop (j + 1)):=by rw[List.drop_eq_getElem_cons hj];rfl);(have e2:(enc eBlock (purge (xs.take j) page)).length + (enc eG gl).length = j:=by simp only[aL];exact h1);rw[e1,List.append_assoc];have:=set_mid (enc eBlock (purge (xs.take j) page)) (enc eG gl) (enc eBlock (xs.drop (j + 1))) (eBlock xs[j]) [.int .i64 xs[j].start,.hole];rw[e2] at this;rw[this];simp[enc,eG]
 ·unfold kept at *;rw[hk];simp only[List.length_append,List.length_singleton];omega
theorem Del.keep (h:Del xs page j es) (hj:j < xs.length) (hp:¬ pageOf xs[j] = page) :
  Del xs page (j + 1) ((es.set j [.int .i64 xs[j].start,.hole]).set (kept xs page j) [.int .i64 xs[j].start,.sl 5 (enc eIns xs[j].list)]) ∧ kept xs page (j + 1) = kept xs page j + 1:=by
 obtain ⟨gl,rfl,h1,h2⟩:=h
 have hk:purge (xs.take (j + 1)) page = purge (xs.take j) page ++ [xs[j]]:=by rw[fX hj,if_neg hp]
 match gl,h2,h1 with
 | s :: gl,_,h1 =>
  refine ⟨⟨gl ++ [xs[j].start],?_,?_,by simp⟩,by unfold kept;rw[hk];simp⟩
  ·rw[hk]
   unfold kept at *
   have e1:enc eBlock (xs.drop j) = eBlock xs[j] :: enc eBlock (xs.drop (j + 1)):=by rw[List.drop_eq_getElem_cons hj];rfl
   have e2:(enc eBlock (purge (xs.take j) page)).length + (enc eG (s :: gl)).length = j:=by simp only[aL];exact h1
   rw[e1,List.append_assoc]
   have e3:(enc eBlock (purge (xs.take j) page) ++ (enc eG (s :: gl) ++ eBlock xs[j] :: enc eBlock (xs.drop (j + 1)))).set j [.int .i64 xs[j].start,.hole] =
     enc eBlock (purge (xs.take j) page) ++ (enc eG (s :: gl) ++ [.int .i64 xs[j].start,.hole] :: enc eBlock (xs.drop (j + 1))):=by
    have:=set_mid (enc eBlock (purge (xs.take j) page)) (enc eG (s :: gl)) (enc eBlock (xs.drop (j + 1))) (eBlock xs[j]) [.int .i64 xs[j].start,.hole]
    rwa [e2] at this
   rw[e3]
   have e4:enc eG (s :: gl) = eG s :: enc eG gl:=rfl
   rw[e4]
   have:=set_mid (enc eBlock (purge (xs.take j) page)) [] (enc eG gl ++ [.int .i64 xs[j].start,.hole] :: enc eBlock (xs.drop (j + 1))) (eG s) [.int .i64 xs[j].start,.sl 5 (enc eIns xs[j].list)]
   simp only[List.length_nil,Nat.add_zero,List.nil_append,aL] at this
   rw[List.cons_append,this]
   simp[enc,eG,eBlock]
  ·unfold kept at *
   rw[hk]
   simp only[List.length_append,List.length_cons,List.length_nil] at *
   omega
theorem Del.start {i:Nat} (hi:i < xs.length) (hp:pageOf xs[i] = page) (hall:∀ k,(hk:k < xs.length) → k < i → ¬ pageOf xs[k] = page) :
  Del xs page (i + 1) ((enc eBlock xs).set i [.int .i64 xs[i].start,.hole]) ∧ kept xs page (i + 1) = i:=by
 have h0:purge (xs.take i) page = xs.take i:=by
  unfold purge
  rw[List.filter_eq_self]
  intro a ha
  obtain ⟨k,hk,rfl⟩:=List.getElem_of_mem ha
  simp only[List.length_take] at hk
  simp only[List.getElem_take,decide_eq_true_eq]
  exact hall k (by omega) (by omega)
 have hk:purge (xs.take (i + 1)) page = xs.take i:=by rw[fX hi,if_pos hp,List.append_nil,h0]
 have hki:kept xs page (i + 1) = i:=by unfold kept;rw[hk];simp;omega
 refine ⟨⟨[xs[i].start],?_,by rw[hki];rfl,by simp⟩,hki⟩
 rw[hk]
 have e1:xs = xs.take i ++ xs[i] :: xs.drop (i + 1):=by rw[← List.drop_eq_getElem_cons hi,List.take_append_drop]
 have e2:enc eBlock xs = enc eBlock (xs.take i) ++ ([] ++ eBlock xs[i] :: enc eBlock (xs.drop (i + 1))):=by
  rw[List.nil_append]
  have e0:=congrArg (enc eBlock) e1
  rw[e0]
  unfold enc
  rw[List.map_append]
  rfl
 have e3:(enc eBlock (xs.take i)).length + ([]:Els).length = i:=by simp[aL];omega
 rw[e2]
 have:=set_mid (enc eBlock (xs.take i)) [] (enc eBlock (xs.drop (i + 1))) (eBlock xs[i]) [.int .i64 xs[i].start,.hole]
 rw[e3] at this
 rw[this]
 simp[enc,eG]
theorem Del.fin (h:Del xs page xs.length es):es.take (kept xs page xs.length) = enc eBlock (purge xs page) ∧ kept xs page xs.length = (purge xs page).length ∧ (purge xs page).length < xs.length:=by
 have hlt:=h.lt;obtain ⟨gl,rfl,h1,h2⟩:=h;(have hk:kept xs page xs.length = (purge xs page).length:=by unfold kept;rw[List.take_length]);refine ⟨?_,hk,by omega⟩;rw[hk,List.take_length,List.append_assoc,List.take_left' (by simp[aL])]
theorem so {xs:List GBlock} {page:Int} (h:idxOf (fun b=>decide (pageOf b = page)) xs = -1):purge xs page = xs:=by
 unfold purge;rw[List.filter_eq_self];intro a ha;unfold idxOf at h;split at h
 ·omega
 ·rename_i hn
  rw[List.findIdx?_eq_none_iff] at hn;simpa using hn a ha
theorem vF {α:Type} {p:α → Bool} {xs:List α} (h:¬ idxOf p xs = -1):∃ i:Nat,idxOf p xs = i ∧ ∃ hi:i < xs.length,p xs[i] = true ∧ ∀ k,(hk:k < xs.length) → k < i → p xs[k] = false:=by
 unfold idxOf at *;split at h
 ·rename_i i hi
  rw[List.findIdx?_eq_some_iff_getElem] at hi;obtain ⟨h1,h2,h3⟩:=hi;exact ⟨i,by simp,h1,h2,fun k hk hki=>by simpa using h3 k hki⟩
 ·omega
end
def coreHear (c:GCore) (m:GMsg):GCore:=if m.kind = 3 ∨ m.kind = 4 ∨ m.kind = 6 then ⟨c.hart,purge c.cache m.page⟩ else c
theorem fY {c:GCore} {m:GMsg} (h:m.kind = 3 ∨ m.kind = 4 ∨ m.kind = 6):coreHear c m = ⟨c.hart,purge c.cache m.page⟩:=if_pos h
theorem hU {c:GCore} {m:GMsg} (h:¬ (m.kind = 3 ∨ m.kind = 4 ∨ m.kind = 6)):coreHear c m = c:=if_neg h
def packetHd (p:GPacket) (n:Int):Bool:=inR n 1 4 && wofN p.from_ n && wofN p.to n && inR p.n 0 100000
def packetOk (p:GPacket) (n:Int):Bool:=packetHd p n && (if p.ack = true then decide (p.msg.kind = 0) && decide (p.msg.page = 0) && !p.msg.own && decide (p.msg.list.length = 0) else msgOk p.msg)
theorem lp {p:GPacket} {n:Int} (h:packetHd p n = false):packetOk p n = false:=by unfold packetOk;rw[h];rfl
theorem fZ {p:GPacket} {n:Int} (h:packetHd p n = true) (ha:p.ack = true):packetOk p n = (decide (p.msg.kind = 0) && decide (p.msg.page = 0) && !p.msg.own && decide (p.msg.list.length = 0)):=by unfold packetOk;rw[h,if_pos ha];rfl
theorem ga {p:GPacket} {n:Int} (h:packetHd p n = true) (ha:p.ack = false):packetOk p n = msgOk p.msg:=by unfold packetOk;rw[h,if_neg (by simp[ha])];rfl
def worldHd (w:GWorld):Bool:=inR w.size 1 4 && decide ((w.nodes.length:Int) = w.size) && decide ((w.net.length:Int) ≤ 40)
def nodeAt (s:Int) (i:Nat) (x:GNode):Bool:=nodeOk x s && decide (x.id = (i:Int))
def nodesAt (w:GWorld):Bool:=(List.range w.nodes.length).all fun i=>match w.nodes[i]? with
 | some x=>nodeAt w.size i x
 | none=>true
def worldOk (w:GWorld):Bool:=worldHd w && nodesAt w && w.net.all fun p=>packetOk p w.size
theorem dO {w:GWorld} (h:worldHd w = true):(1 ≤ w.size ∧ w.size ≤ 4) ∧ (w.nodes.length:Int) = w.size ∧ w.net.length ≤ 40:=by
 unfold worldHd at h;simp only[Bool.and_eq_true,decide_eq_true_eq] at h;exact ⟨(am _ _ _).1 h.1.1,h.1.2,by omega⟩
theorem mZ {w:GWorld} (h:worldHd w = false):worldOk w = false:=by unfold worldOk;rw[h];rfl
theorem qq {w:GWorld} {i:Nat} (h:i < w.nodes.length) (hb:nodeAt w.size i w.nodes[i] = false):nodesAt w = false:=by
 unfold nodesAt;rw[List.all_eq_false];exact ⟨i,by simpa using h,by simp[h,hb]⟩
theorem gb {w:GWorld} (h:∀ j,(hj:j < w.nodes.length) → nodeAt w.size j w.nodes[j] = true):nodesAt w = true:=by
 unfold nodesAt;rw[List.all_eq_true];intro j hj;(have hj:j < w.nodes.length:=by simpa using hj);simp[hj,h j hj]
theorem sp {w:GWorld} (h:nodesAt w = true) {i:Nat} (hi:i < w.nodes.length):nodeAt w.size i w.nodes[i] = true:=by
 unfold nodesAt at h;rw[List.all_eq_true] at h;have:=h i (by simpa using hi);simpa [hi] using this
theorem lq {w:GWorld} {i:Nat} (h:i < w.nodes.length) (hb:nodeAt w.size i w.nodes[i] = false):worldOk w = false:=by unfold worldOk;rw[qq h hb];simp
theorem oK {w:GWorld} {i:Nat} (h:i < w.net.length) (hb:packetOk w.net[i] w.size = false):worldOk w = false:=by
 unfold worldOk;rw[mY h hb];simp
theorem jY {w:GWorld} (h:worldHd w = true) (hn:nodesAt w = true):worldOk w = w.net.all fun p=>packetOk p w.size:=by unfold worldOk;rw[h,hn];rfl
theorem jZ {w:GWorld} (h:worldHd w = true) (hn:nodesAt w = true) (hp:∀ j,(hj:j < w.net.length) → packetOk w.net[j] w.size = true):worldOk w = true:=by
 rw[jY h hn,List.all_eq_true];intro x hx;obtain ⟨j,hj,rfl⟩:=List.getElem_of_mem hx;exact hp j hj
theorem iG {w:GWorld} (h:worldOk w = true):worldHd w = true ∧ nodesAt w = true:=by
 unfold worldOk at h;simp only[Bool.and_eq_true] at h;exact ⟨h.1.1,h.1.2⟩
theorem hX {α:Type} {xs:List α} {p:α → Bool} (h:xs.all p = true) {i:Nat} (hi:i < xs.length):p xs[i] = true:=by
 rw[List.all_eq_true] at h;exact h _ (List.getElem_mem hi)
theorem aH {x:GNode} {n:Int} (h:nodeOk x n = true):x.frames.length = 6 ∧ x.homes.length = 6 ∧ (x.out.length:Int) = n ∧ (x.in_.length:Int) = n ∧
  (∀ i,(hi:i < x.frames.length) → frameOk x.frames[i] = true) ∧ (∀ i,(hi:i < x.homes.length) → homeOk x.homes[i] n = true) ∧ (∀ i,(hi:i < x.out.length) → senderOk x.out[i] = true) ∧ (∀ i,(hi:i < x.in_.length) → gotOk x.in_[i] = true):=by
 unfold nodeOk at h
 simp only[Bool.and_eq_true] at h
 obtain ⟨⟨⟨⟨h0,h1⟩,h2⟩,h3⟩,h4⟩:=h
 unfold nodeHd at h0
 simp only[Bool.and_eq_true,decide_eq_true_eq] at h0
 exact ⟨by omega,by omega,by omega,by omega,fun i hi=>hX h1 hi,fun i hi=>hX h2 hi,fun i hi=>hX h3 hi,fun i hi=>hX h4 hi⟩
theorem bh {s:GSender} (h:senderOk s = true):(0 ≤ s.base ∧ s.base ≤ 100000) ∧ s.queue.length ≤ 30 ∧ ∀ i,(hi:i < s.queue.length) → msgOk s.queue[i] = true:=by
 unfold senderOk sendHd at h;simp only[Bool.and_eq_true,decide_eq_true_eq] at h;obtain ⟨⟨⟨h1,h2⟩,h3⟩,h4⟩:=h;exact ⟨(am _ _ _).1 h1,by omega,fun i hi=>hX h4 hi⟩
theorem bL {h:GHome} {n:Int} (q:homeOk h n = true):(1 ≤ n ∧ n ≤ 4) ∧ h.list.length = 4 ∧ (-1 ≤ h.owner ∧ h.owner < n) ∧ (h.readers.length:Int) = n ∧ (0 ≤ h.now.who ∧ h.now.who < n) ∧ (0 ≤ h.acks ∧ h.acks ≤ n) ∧ h.queue.length ≤ 12 ∧ ∀ i,(hi:i < h.queue.length) → (0 ≤ h.queue[i].who ∧ h.queue[i].who < n):=by
 unfold homeOk homeHd wofN at q;simp only[Bool.and_eq_true,decide_eq_true_eq,am] at q;obtain ⟨⟨⟨⟨⟨⟨⟨q1,q2⟩,q3⟩,q4⟩,q5⟩,q6⟩,q7⟩,q8⟩:=q;have hw:IntKind.wrap .i64 (n - 1) = n - 1:=ap (by omega) (by omega);rw[hw] at q3 q5;have hl:=dg q2;refine ⟨q1,by omega,by omega,by omega,by omega,by omega,by omega,fun i hi=>?_⟩;have:=hX q8 hi;simp only[am,hw] at this;omega
def comN (q:List GMsg) (base got:Int):Nat → List GMsg
 | 0=>[]
 | k + 1=>match q[k]? with
  | some m=>if got ≤ base + (k:Int) then comN q base got k ++ [m] else comN q base got k
  | none=>comN q base got k
def zNode:GNode:=⟨0,[],[],[],[]⟩
def zHome:GHome:=⟨[],0,[],false,⟨0,false⟩,0,[]⟩
def zFrame:GFrame:=⟨0,[],false⟩
def comingOf (w:GWorld) (a b:Nat):List GMsg :=
 comN ((w.nodes.getD a zNode).out.getD b ⟨0,[]⟩).queue ((w.nodes.getD a zNode).out.getD b ⟨0,[]⟩).base ((w.nodes.getD b zNode).in_.getD a ⟨0⟩).got ((w.nodes.getD a zNode).out.getD b ⟨0,[]⟩).queue.length
def lastL (p:GMsg → Bool) (l:List GMsg):List Int:=match l.reverse.find? p with
 | some m=>m.list
 | none=>[]
def lastP (kind page:Int) (m:GMsg):Bool:=decide (m.kind = kind) && decide (m.page = page) && (m.own || decide (kind = 7))
def truthOf (w:GWorld) (p:Nat):List Int :=
 let d:=p % w.size.toNat
 let h:=(w.nodes.getD d zNode).homes.getD p zHome
 if h.owner < 0 then h.list
 else
  let o:=h.owner.toNat
  let f:=(w.nodes.getD o zNode).frames.getD p zFrame
  if f.state = 2 then f.list
  else if 0 < (lastL (lastP 3 p) (comingOf w d o)).length then lastL (lastP 3 p) (comingOf w d o) else lastL (lastP 7 p) (comingOf w o d)
def truthR (w:GWorld) (page:Int):List Int:=if worldOk w = true ∧ 0 ≤ page ∧ page ≤ 5 then truthOf w page.toNat else []
def memN (w:GWorld):Nat → Option (List Int)
 | 0=>some []
 | k + 1=>match memN w k with
  | some m=>if (truthR w k).length = 4 then some (m ++ truthR w k) else none
  | none=>none
def memory (w:GWorld):List Int:=(memN w 6).getD []
def coreAt (f:GFlock) (i:Nat) (c:GCore):Bool:=nodeOk (f.world.nodes.getD i zNode) f.world.size && (hartOk c.hart && cacheOk c.cache (f.world.nodes.getD i zNode).frames)
def flockHd (f:GFlock):Bool:=worldOk f.world && decide ((f.cores.length:Int) = f.world.size)
def flockOk (f:GFlock):Bool:=flockHd f && (List.range f.cores.length).all fun i=>match f.cores[i]? with
 | some c=>coreAt f i c
 | none=>true
theorem na {f:GFlock} (h:flockHd f = false):flockOk f = false:=by unfold flockOk;rw[h];rfl
theorem fm {f:GFlock} (h:flockHd f = true):worldOk f.world = true ∧ (f.cores.length:Int) = f.world.size ∧ f.cores.length = f.world.nodes.length:=by
 unfold flockHd at h;simp only[Bool.and_eq_true,decide_eq_true_eq] at h;have:=(dO (iG h.1).1).2.1;exact ⟨h.1,h.2,by omega⟩
theorem lr {f:GFlock} {i:Nat} (h:i < f.cores.length) (hb:coreAt f i f.cores[i] = false):flockOk f = false:=by
 have:((List.range f.cores.length).all fun i=>match f.cores[i]? with | some c=>coreAt f i c | none=>true) = false:=by
  rw[List.all_eq_false];exact ⟨i,by simpa using h,by simp[h,hb]⟩
 unfold flockOk;rw[this,Bool.and_false]
theorem gc {f:GFlock} (hh:flockHd f = true) (h:∀ j,(hj:j < f.cores.length) → coreAt f j f.cores[j] = true):flockOk f = true:=by
 have:((List.range f.cores.length).all fun i=>match f.cores[i]? with | some c=>coreAt f i c | none=>true) = true:=by
  rw[List.all_eq_true];intro j hj;(have hj:j < f.cores.length:=by simpa using hj);simp[hj,h j hj]
 unfold flockOk;rw[hh,this];rfl
theorem ew {f:GFlock} {i:Nat} {c:GCore} {x:GNode} (h:i < f.world.nodes.length) (hx:f.world.nodes[i] = x):coreAt f i c = (nodeOk x f.world.size && (hartOk c.hart && cacheOk c.cache x.frames)):=by
 unfold coreAt;simp[h,hx]
def hartNew (pc:Int):GHart:=⟨[0,0,0,0],addr pc,0⟩
theorem vG {xs:List Int} {x:Int} (h:0 ≤ x ∧ (x < xs.length ∨ (xs.length:Int) ≤ 0 ∧ x = 0)) (hl:0 < xs.length):xs[x.toNat]?.getD 0 ∈ xs:=by
 (have:x.toNat < xs.length:=by omega);rw[List.getElem?_eq_getElem this];exact List.getElem_mem this
theorem oL (x:Int):isW x = true ↔ 0 ≤ x ∧ x ≤ 65535:=am _ _ _
theorem uu {xs:List Int} {n:Int} (h:wordsOk xs n = true) (j:Nat):0 ≤ xs.getD j 0 ∧ xs.getD j 0 ≤ 65535:=by
 rw[List.getD_eq_getElem?_getD];by_cases hj:j < xs.length
 ·rw[List.getElem?_eq_getElem hj];exact de h hj
 ·rw[List.getElem?_eq_none (by omega)];simp
theorem uv {M:GHart × Int → Prop} (h:GHart) (x:GIns) (got:Int) (h0:M (h,-1)) (hf:hartOk h = true → M (⟨h.regs,h.pc,2⟩,-1)) (hs:∀ r v p,hartOk h = true → isW v = true → M (⟨h.regs.set r v,addr p,0⟩,-1))
  (hj:∀ p,hartOk h = true → M (⟨h.regs,addr p,0⟩,-1)) (hst:∀ v,hartOk h = true → isW v = true → M (⟨h.regs,addr (h.pc + 1),0⟩,v)) (hsw:∀ r v u,hartOk h = true → isW v = true → isW u = true → M (⟨h.regs.set r v,addr (h.pc + 1),0⟩,u))
  (hh:hartOk h = true → M (⟨h.regs,h.pc,1⟩,-1)):M (work h x got):=by
 by_cases q:hartOk h = true ∧ h.state = 0 ∧ isW got = true
 ·by_cases qi:insOk x = true
  ·obtain ⟨qw,ql,-,-⟩:=cF q.1
   have hb:=(oL _).2 (uu qw x.b.toNat)
   have qn:isW x.n = true:=(oL _).2 (by have:=(cj qi).2.2.2.2;omega)
   unfold work
   rw[if_pos q,if_pos qi]
   by_cases e1:x.op = 1
   ·rw[if_pos e1];exact hs _ _ _ q.1 qn
   rw[if_neg e1]
   by_cases e2:x.op = 2
   ·rw[if_pos e2];exact hs _ _ _ q.1 (hE _)
   rw[if_neg e2]
   by_cases e10:x.op = 10
   ·rw[if_pos e10];exact hs _ _ _ q.1 (hE _)
   rw[if_neg e10]
   by_cases e3:x.op = 3
   ·rw[if_pos e3];exact hs _ _ _ q.1 (hE _)
   rw[if_neg e3]
   by_cases e4:x.op = 4
   ·rw[if_pos e4];exact hs _ _ _ q.1 q.2.2
   rw[if_neg e4]
   by_cases e5:x.op = 5
   ·rw[if_pos e5];exact hst _ q.1 hb
   rw[if_neg e5]
   by_cases e6:x.op = 6
   ·rw[if_pos e6];exact hsw _ _ _ q.1 q.2.2 (hE _)
   rw[if_neg e6]
   by_cases e7:x.op = 7
   ·rw[if_pos e7]
    by_cases ez:h.regs.getD x.a.toNat 0 = 0
    ·rw[if_pos ez];exact hj _ q.1
    ·rw[if_neg ez];exact hj _ q.1
   rw[if_neg e7]
   by_cases e8:x.op = 8
   ·rw[if_pos e8];exact hj _ q.1
   rw[if_neg e8]
   exact hh q.1
  ·have:work h x got = (⟨h.regs,h.pc,2⟩,-1):=by unfold work;rw[if_pos q,if_neg qi]
   rw[this];exact hf q.1
 ·rw[me q];exact h0
theorem ex {r:List Int} {p s:Int} (h1:wordsOk r 4 = true) (h2:0 ≤ p ∧ p ≤ 23) (h3:0 ≤ s ∧ s ≤ 2):hartOk ⟨r,p,s⟩ = true:=by
 unfold hartOk;rw[h1,(am _ _ _).2 h2,(am _ _ _).2 h3];rfl
theorem work_ok {h:GHart} (x:GIns) (got:Int) (q:hartOk h = true):hartOk (work h x got).1 = true:=by
 obtain ⟨q4,ql,qp,qs⟩:=cF q
 exact uv (M:=fun w=>hartOk w.1 = true) h x got q (fun _=>ex q4 qp (by omega)) (fun r v p _ hv=>ex (hP q4 hv) (dE _) (by omega)) (fun p _=>ex q4 (dE _) (by omega)) (fun v _ _=>ex q4 (dE _) (by omega))
  (fun r v u _ hv _=>ex (hP q4 hv) (dE _) (by omega)) (fun _=>ex q4 qp (by omega))
theorem vH {h:GHart} {x:GIns} {got:Int} (q:0 ≤ (work h x got).2):0 ≤ target x h.regs:=by
 obtain ⟨q1,-,-,q4,q5,-⟩:=qe q;obtain ⟨-,ql,-,-⟩:=cF q1;unfold target;rw[if_pos ⟨q4,by unfold aims;rcases q5 with q | q <;> simp[q],by omega⟩];exact (dE _).1
theorem getD_set_ne {m:List Int} {i j:Nat} {v:Int} (h:i ≠ j):(m.set i v).getD j 0 = m.getD j 0:=by
 rw[List.getD_eq_getElem?_getD,List.getD_eq_getElem?_getD,List.getElem?_set_ne h]
def codeOf (x:GIns):Int:=if insOk x = true then x.op + 16 * x.r + 64 * x.a + 256 * x.b + 1024 * x.n else 0
theorem uw {x:GIns} (q:insOk x = true):IntKind.wrap .i64 (IntKind.wrap .i64 (IntKind.wrap .i64 (IntKind.wrap .i64 (x.op + IntKind.wrap .i64 (16 * x.r)) + IntKind.wrap .i64 (64 * x.a)) + IntKind.wrap .i64 (256 * x.b)) + IntKind.wrap .i64 (1024 * x.n)) = codeOf x:=by
 obtain ⟨h0,h1,h2,h3,h4⟩:=cj q;unfold codeOf
 rw[if_pos q,ap (n:=16 * x.r) (by omega) (by omega),ap (n:=64 * x.a) (by omega) (by omega),ap (n:=256 * x.b) (by omega) (by omega),ap (n:=1024 * x.n) (by omega) (by omega),ap (n:=x.op + 16 * x.r) (by omega) (by omega),ap (n:=x.op + 16 * x.r + 64 * x.a) (by omega) (by omega),ap (n:=x.op + 16 * x.r + 64 * x.a + 256 * x.b) (by omega) (by omega),ap (by omega) (by omega)]
def longOf (n:Nat) (least most:Int):Int:=if most < least + (n:Int) / 4 then most else least + (n:Int) / 4
theorem ux (n:Nat) (least most:Int):longOf n least most ≤ most:=by unfold longOf;split <;> omega
def zIns:GIns:=⟨0,0,0,0,0⟩
def inBlk (b:GBlock) (pc:Int):Bool:=blockOk b && decide (b.start ≤ pc) && decide (pc < b.start + b.list.length)
def atI (b:GBlock) (pc:Int):GIns:=if inBlk b pc = true then b.list.getD (pc - b.start).toNat zIns else zIns
def cfI (l:List GBlock) (pc:Int):GIns:=match l.find? fun b=>inBlk b pc with
 | some b=>atI b pc
 | none=>zIns
def cfB (l:List GBlock) (pc:Int):Bool:=l.any fun b=>inBlk b pc
theorem sS {l:List GBlock} {pc:Int} (h:∀ i,(hi:i < l.length) → inBlk l[i] pc = false):cfI l pc = zIns ∧ cfB l pc = false:=by
 have hn:l.find? (fun b=>inBlk b pc) = none:=by
  rw[List.find?_eq_none];intro b hb;obtain ⟨i,hi,rfl⟩:=List.getElem_of_mem hb;simp[h i hi]
 refine ⟨by unfold cfI;rw[hn],?_⟩;unfold cfB;rw[List.any_eq_false];intro b hb;obtain ⟨i,hi,rfl⟩:=List.getElem_of_mem hb;simp[h i hi]
theorem cf_at {l:List GBlock} {pc:Int} {i:Nat} (hi:i < l.length) (h:∀ j,(hj:j < l.length) → j < i → inBlk l[j] pc = false) (ht:inBlk l[i] pc = true):cfI l pc = atI l[i] pc ∧ cfB l pc = true:=by
 have hn:l.find? (fun b=>inBlk b pc) = some l[i]:=by
  rw[List.find?_eq_some_iff_getElem];exact ⟨ht,i,hi,rfl,fun j hj=>by simp[h j (by omega) hj]⟩
 refine ⟨by unfold cfI;rw[hn],?_⟩;unfold cfB;rw[List.any_eq_true];exact ⟨l[i],List.getElem_mem hi,ht⟩
theorem dF {b:GBlock} (h:blockOk b = true):(0 ≤ b.start ∧ b.start ≤ 23) ∧ 1 ≤ (b.list.length:Int) ∧ (b.list.length:Int) ≤ 4 - b.start % 4:=by
 have:blockHd b = true:=by
  cases hh:blockHd b with
  | true=>rfl
  | false=>rw[je hh] at h;cases h
 unfold blockHd at this;rw[Bool.and_eq_true,am,am] at this;exact this
def zSender:GSender:=⟨0,[]⟩
def zWorld:GWorld:=⟨0,[],[]⟩
def zFlock:GFlock:=⟨zWorld,[]⟩
def homeNew (n:Int):GHome:=if 1 ≤ n ∧ n ≤ 4 then ⟨List.replicate 4 0,-1,List.replicate n.toNat false,false,⟨0,false⟩,0,[]⟩ else zHome
def nodeNewOk (id n:Int):Bool:=inR n 1 4 && inR id 0 (n - 1)
def nodeNew (id n:Int):GNode:=if nodeNewOk id n = true then ⟨id,List.replicate 6 zFrame,List.replicate 6 (homeNew n),List.replicate n.toNat zSender,List.replicate n.toNat ⟨0⟩⟩ else zNode
def nodesN (n:Int) (i:Nat):List GNode:=(List.range i).map fun (k:Nat)=>nodeNew k n
theorem lu (n:Int) (i:Nat):nodesN n (i + 1) = nodesN n i ++ [nodeNew i n]:=by unfold nodesN;rw[List.range_succ,List.map_append];rfl
theorem bc (n:Int) (i:Nat):(nodesN n i).length = i:=by unfold nodesN;simp
def worldNew (n:Int):GWorld:=if 1 ≤ n ∧ n ≤ 4 then ⟨n,nodesN n n.toNat,[]⟩ else zWorld
def pageW (mem:List Int) (p:Nat):List Int:=(mem.drop (p * 4)).take 4
def putPage (n:Nat) (mem:List Int) (nodes:List GNode) (p:Nat):List GNode :=
 match nodes[p % n]? with
 | some x=>match x.homes[p]? with
  | some h=>nodes.set (p % n) { x with homes:=x.homes.set p { h with list:=pageW mem p } }
  | none=>nodes
 | none=>nodes
def pagesN (n:Nat) (mem:List Int) (nodes:List GNode):Nat → List GNode
 | 0=>nodes
 | p + 1=>putPage n mem (pagesN n mem nodes p) p
def coresN (starts:List Int) (i:Nat):List GCore:=(List.range i).map fun k=>⟨hartNew (starts.getD k 0),[]⟩
theorem lv (starts:List Int) (i:Nat):coresN starts (i + 1) = coresN starts i ++ [⟨hartNew (starts.getD i 0),[]⟩]:=by unfold coresN;rw[List.range_succ,List.map_append];rfl
theorem bO (starts:List Int) (i:Nat):(coresN starts i).length = i:=by unfold coresN;simp
def flockNewOk (n:Int) (mem:List Int):Bool:=inR n 1 4 && wordsOk mem 24
def flockNew (n:Int) (mem starts:List Int):GFlock:=if flockNewOk n mem = true then ⟨⟨n,pagesN n.toNat mem (nodesN n n.toNat) 6,[]⟩,coresN starts n.toNat⟩ else zFlock
theorem qu (n:Nat) (mem:List Int) (nodes:List GNode) (p:Nat):(putPage n mem nodes p).length = nodes.length:=by
 unfold putPage;split
 ·split <;> simp
 ·rfl
theorem cG (n:Nat) (mem:List Int) (nodes:List GNode):∀ p,(pagesN n mem nodes p).length = nodes.length
 | 0=>rfl
 | p + 1=>by
  show (putPage n mem (pagesN n mem nodes p) p).length = _
  rw[qu,cG n mem nodes p]
theorem nG {n:Nat} {mem:List Int} {nodes:List GNode} {p:Nat} (h:∀ x ∈ nodes,x.homes.length = 6):∀ x ∈ putPage n mem nodes p,x.homes.length = 6:=by
 unfold putPage;split
 ·rename_i y hy
  split
  ·intro x hx;rcases List.mem_or_eq_of_mem_set hx with hx | rfl
   ·exact h x hx
   ·simpa using h y (List.mem_of_getElem? hy)
  ·exact h
 ·exact h
theorem gd {n:Nat} {mem:List Int} {nodes:List GNode} (h:∀ x ∈ nodes,x.homes.length = 6):∀ p,∀ x ∈ pagesN n mem nodes p,x.homes.length = 6
 | 0=>h
 | p + 1=>nG (gd h p)
theorem oM {n:Int} {i:Nat} (h1:1 ≤ n ∧ n ≤ 4) (hi:(i:Int) < n):nodeNewOk i n = true:=by
 unfold nodeNewOk inR;simp;omega
theorem jf {n:Int} {i:Nat} (h1:1 ≤ n ∧ n ≤ 4) (hi:(i:Int) < n):nodeNew i n = ⟨i,List.replicate 6 zFrame,List.replicate 6 (homeNew n),List.replicate n.toNat zSender,List.replicate n.toNat ⟨0⟩⟩:=if_pos (oM h1 hi)
theorem kb {n:Int} (h1:1 ≤ n ∧ n ≤ 4) {i:Nat} (hi:(i:Int) ≤ n):∀ x ∈ nodesN n i,x.homes.length = 6:=by
 intro x hx;unfold nodesN at hx;obtain ⟨k,hk,rfl⟩:=List.mem_map.1 hx;rw[jf h1 (by have:=List.mem_range.1 hk;omega)];simp
theorem nc {n:Nat} {mem:List Int} {nodes:List GNode} {p:Nat} (h1:p % n < nodes.length) (h2:p < nodes[p % n].homes.length) :
  putPage n mem nodes p = nodes.set (p % n) { nodes[p % n] with homes:=nodes[p % n].homes.set p { nodes[p % n].homes[p] with list:=pageW mem p } }:=by
 unfold putPage
 rw[List.getElem?_eq_getElem h1]
 simp only
 rw[List.getElem?_eq_getElem h2]
def zMsg:GMsg:=⟨0,0,false,[]⟩
def zWait:GWait:=⟨0,false⟩
def queueB (s:GSender) (m:GMsg):Bool:=senderOk s && msgOk m && decide (s.queue.length ≠ 30) && decide (s.base + s.queue.length ≠ 100000)
def queueS (s:GSender) (m:GMsg):GSender:=if queueB s m = true then ⟨s.base,s.queue ++ [m]⟩ else s
def acked (s:GSender) (n:Int):GSender:=if senderOk s = true ∧ s.base ≤ n ∧ n ≤ s.base + s.queue.length then ⟨n,s.queue.drop (n - s.base).toNat⟩ else s
def arrB (r:GReceiver) (n:Int):Bool:=decide (n = r.got) && inR r.got 0 99999
def arrR (r:GReceiver) (n:Int):GReceiver:=if arrB r n = true then ⟨r.got + 1⟩ else r
def frameHear (f:GFrame) (m:GMsg):GFrame × GMsg × Bool :=
 if frameOk f = true ∧ msgOk m = true then
  if m.kind = 3 then (⟨if m.own = true then 2 else 1,m.list,false⟩,zMsg,false)
  else if m.kind = 4 then (⟨0,[],f.asked⟩,⟨5,m.page,false,[]⟩,true)
  else if m.kind = 6 ∧ f.state = 2 then (if m.own = true then ⟨0,[],f.asked⟩ else ⟨1,f.list,f.asked⟩,⟨7,m.page,false,f.list⟩,true)
  else (f,zMsg,false)
 else (f,zMsg,false)
structure Kp where
 h:GHome
 told:List GTold
def kTell (k:Kp) (to:Int) (m:GMsg):Kp:=⟨k.h,k.told ++ [⟨to,m⟩]⟩
def kGive (page:Int) (k:Kp):Kp :=
 ⟨{ k.h with readers:=k.h.readers.set k.h.now.who.toNat (!k.h.now.own),owner:=if k.h.now.own = true then k.h.now.who else k.h.owner,busy:=false,now:=zWait },k.told ++ [⟨k.h.now.who,⟨3,page,k.h.now.own,k.h.list⟩⟩]⟩
def kGone (page:Int) (k:Kp) (i:Nat):Kp :=
 if k.h.now.own = true ∧ k.h.readers.getD i false = true ∧ (i:Int) ≠ k.h.now.who then
  ⟨{ k.h with readers:=k.h.readers.set i false,acks:=k.h.acks + 1 },k.told ++ [⟨i,⟨4,page,false,[]⟩⟩]⟩
 else k
def kGoneN (page:Int) (k:Kp):Nat → Kp
 | 0=>k
 | i + 1=>kGone page (kGoneN page k i) i
def kPick (k:Kp):Kp:=⟨{ k.h with now:=k.h.queue.headD zWait,queue:=k.h.queue.drop 1,busy:=true },k.told⟩
def kZero (k:Kp):Kp:=⟨{ k.h with acks:=0 },k.told⟩
def kBegin (page:Int) (k:Kp):Kp :=
 if 0 ≤ k.h.owner then kTell (kPick k) k.h.owner ⟨6,page,(kPick k).h.now.own,[]⟩
 else if (kGoneN page (kZero (kPick k)) k.h.readers.length).h.acks = 0 then kGive page (kGoneN page (kZero (kPick k)) k.h.readers.length)
 else kGoneN page (kZero (kPick k)) k.h.readers.length
def kNext (page:Int):Nat → Kp → Kp
 | 0,k=>k
 | n + 1,k=>if k.h.busy = false ∧ 0 < k.h.queue.length then kNext page n (kBegin page k) else k
def backR (v:Bool) (rs:List Bool) (o:Int) (own:Bool):List Bool:=if (v && own) = true then rs else rs.set o.toNat (!own)
def kHear (v:Bool) (page frm:Int) (m:GMsg) (k:Kp):Option Kp :=
 if m.kind = 1 ∨ m.kind = 2 then (if k.h.queue.length = 12 then none else some ⟨{ k.h with queue:=k.h.queue ++ [⟨frm,decide (m.kind = 2)⟩] },k.told⟩)
 else if m.kind = 5 then
  (if k.h.busy = true ∧ 0 < k.h.acks then
   (if k.h.acks - 1 = 0 then some (kGive page ⟨{ k.h with acks:=k.h.acks - 1 },k.told⟩) else some ⟨{ k.h with acks:=k.h.acks - 1 },k.told⟩) else none)
 else if m.kind = 7 then
  (if k.h.busy = true ∧ k.h.acks = 0 ∧ frm = k.h.owner then
   some (kGive page ⟨{ k.h with list:=m.list,readers:=backR v k.h.readers k.h.owner k.h.now.own,owner:=-1 },k.told⟩) else none)
 else none
def hearOk (h:GHome) (nodes page frm:Int) (m:GMsg):Bool:=homeOk h nodes && msgOk m && inR nodes 1 4 && inR frm 0 (nodes - 1) && decide (page = m.page)
def homeHear (v:Bool) (h:GHome) (nodes page frm:Int) (m:GMsg):GHome × List GTold :=
 if hearOk h nodes page frm m = true then
  match kHear v page frm m ⟨h,[]⟩ with
  | some k=>((kNext page (k.h.queue.length) k).h,(kNext page (k.h.queue.length) k).told)
  | none=>(h,[])
 else (h,[])
def lacks (f:GFrame) (own:Bool):Bool:=decide (f.state = 0) || (own && decide (f.state ≠ 2))
def wantMsg (page:Int) (own:Bool):GMsg:=⟨if own = true then 2 else 1,page,false,[]⟩
def setOut (n:GNode) (i:Nat) (s:GSender):GNode:={ n with out:=n.out.set i s }
def setFrame (n:GNode) (p:Nat) (f:GFrame):GNode:={ n with frames:=n.frames.set p f }
def setHome (n:GNode) (p:Nat) (h:GHome):GNode:={ n with homes:=n.homes.set p h }
def wantOk (n:GNode) (nodes page:Int) (own:Bool):Bool :=
 nodeOk n nodes && inR page 0 5 && !(n.frames.getD page.toNat zFrame).asked && lacks (n.frames.getD page.toNat zFrame) own && queueB (n.out.getD (page % nodes).toNat zSender) (wantMsg page own)
def want (n:GNode) (nodes page:Int) (own:Bool):GNode :=
 if wantOk n nodes page own = true then
  { n with out:=n.out.set (page % nodes).toNat (queueS (n.out.getD (page % nodes).toNat zSender) (wantMsg page own)),frames:=n.frames.set page.toNat { n.frames.getD page.toNat zFrame with asked:=true } }
 else n
def tellAll:List GTold → List GSender → Option (List GSender)
 | [],out=>some out
 | t :: ts,out=>if queueB (out.getD t.to.toNat zSender) t.msg = true then tellAll ts (out.set t.to.toNat (queueS (out.getD t.to.toNat zSender) t.msg)) else none
def nodeHearOk (n:GNode) (nodes frm:Int) (m:GMsg):Bool:=nodeOk n nodes && msgOk m && inR frm 0 (nodes - 1)
def nodeGot (v:Bool) (n:GNode) (nodes frm:Int) (m:GMsg):GNode × List GTold :=
 if m.kind = 1 ∨ m.kind = 2 ∨ m.kind = 5 ∨ m.kind = 7 then
  (if m.page % nodes = n.id then (setHome n m.page.toNat (homeHear v (n.homes.getD m.page.toNat zHome) nodes m.page frm m).1,(homeHear v (n.homes.getD m.page.toNat zHome) nodes m.page frm m).2) else (n,[]))
 else
  (if m.page % nodes = frm then (setFrame n m.page.toNat (frameHear (n.frames.getD m.page.toNat zFrame) m).1,if (frameHear (n.frames.getD m.page.toNat zFrame) m).2.2 = true then [⟨frm,(frameHear (n.frames.getD m.page.toNat zFrame) m).2.1⟩] else []) else (n,[]))
def nodeHear (v:Bool) (n:GNode) (nodes frm:Int) (m:GMsg):GNode × Bool :=
 if nodeHearOk n nodes frm m = true then
  match tellAll (nodeGot v n nodes frm m).2 (nodeGot v n nodes frm m).1.out with
  | some out=>({ (nodeGot v n nodes frm m).1 with out:=out },true)
  | none=>(n,false)
 else (n,false)
def zPacket:GPacket:=⟨0,0,false,0,zMsg⟩
def zCore:GCore:=⟨⟨[],0,0⟩,[]⟩
def nodeAtI (w:GWorld) (i:Int):GNode:=w.nodes.getD i.toNat zNode
def heardB (v:Bool) (w:GWorld) (p:GPacket):Bool :=
 !p.ack && arrB ((nodeAtI w p.to).in_.getD p.from_.toNat ⟨0⟩) p.n && (nodeHear v (nodeAtI w p.to) w.size p.from_ p.msg).2
def heardN (v:Bool) (w:GWorld) (p:GPacket):GNode :=
 { (nodeHear v (nodeAtI w p.to) w.size p.from_ p.msg).1 with
  in_:=(nodeHear v (nodeAtI w p.to) w.size p.from_ p.msg).1.in_.set p.from_.toNat (arrR ((nodeAtI w p.to).in_.getD p.from_.toNat ⟨0⟩) p.n) }
def wGive (v:Bool) (w:GWorld) (p:GPacket):GWorld :=
 if p.ack = true then { w with nodes:=w.nodes.set p.to.toNat (setOut (nodeAtI w p.to) p.from_.toNat (acked ((nodeAtI w p.to).out.getD p.from_.toNat zSender) p.n)) }
 else if heardB v w p = true then { w with nodes:=w.nodes.set p.to.toNat (heardN v w p) }
 else w
def wPut (w:GWorld) (p:GPacket):GWorld × Int:=if w.net.length = 40 then (w,4) else ({ w with net:=w.net ++ [p] },0)
def wLine (w:GWorld) (d:GDeed):GWorld × Int :=
 if inR d.b 0 (w.size - 1) = true then
  if d.kind = 1 then
   if inR d.c 0 ((((nodeAtI w d.a).out.getD d.b.toNat zSender).queue.length:Int) - 1) = true then
    wPut w ⟨d.a,d.b,false,((nodeAtI w d.a).out.getD d.b.toNat zSender).base + d.c,((nodeAtI w d.a).out.getD d.b.toNat zSender).queue.getD d.c.toNat zMsg⟩
   else (w,3)
  else wPut w ⟨d.a,d.b,true,((nodeAtI w d.a).in_.getD d.b.toNat ⟨0⟩).got,zMsg⟩
 else (w,2)
def netCut (net:List GPacket) (i:Nat):List GPacket:=net.take i ++ net.drop (i + 1)
def wNet (v:Bool) (w:GWorld) (d:GDeed):GWorld × Int :=
 if inR d.a 0 ((w.net.length:Int) - 1) = true then
  if d.kind = 5 then (if w.net.length = 40 then (w,4) else ({ w with net:=w.net ++ [w.net.getD d.a.toNat zPacket] },0))
  else if d.kind = 4 then ({ w with net:=netCut w.net d.a.toNat },0)
  else (wGive v { w with net:=netCut w.net d.a.toNat } (w.net.getD d.a.toNat zPacket),0)
 else (w,2)
def wDo (v:Bool) (w:GWorld) (d:GDeed):GWorld × Int :=
 if d.kind = 3 ∨ d.kind = 4 ∨ d.kind = 5 then wNet v w d
 else if inR d.a 0 (w.size - 1) = true then
  if d.kind = 6 then
   if wantOk (nodeAtI w d.a) w.size d.b (decide (d.c = 1)) = true then ({ w with nodes:=w.nodes.set d.a.toNat (want (nodeAtI w d.a) w.size d.b (decide (d.c = 1))) },0) else (w,3)
  else wLine w d
 else (w,2)
def coreOkB (c:GCore) (n:GNode) (nodes:Int):Bool:=nodeOk n nodes && (hartOk c.hart && cacheOk c.cache n.frames)
def frameAtI (n:GNode) (p:Int):GFrame:=n.frames.getD p.toNat zFrame
def csCache (c:GCore) (n:GNode):List GBlock:=if cfB c.cache c.hart.pc = true then c.cache else cacheAdd c.cache (blockOf (frameAtI n (c.hart.pc / 4)).list c.hart.pc)
def csIns (c:GCore) (n:GNode):GIns:=cfI (csCache c n) c.hart.pc
def csAt (c:GCore) (n:GNode):Int:=target (csIns c n) c.hart.regs
def csOwn (c:GCore) (n:GNode):Bool:=decide ((csIns c n).op ≠ 4)
def csGot (c:GCore) (n:GNode):Int:=if 0 ≤ csAt c n then (frameAtI n (csAt c n / 4)).list.getD (csAt c n % 4).toNat 0 else 0
def csWork (c:GCore) (n:GNode):GHart × Int:=work c.hart (csIns c n) (csGot c n)
def csPut (c:GCore) (n:GNode):GNode :=
 if 0 ≤ (csWork c n).2 then setFrame n (csAt c n / 4).toNat { frameAtI n (csAt c n / 4) with list:=(frameAtI n (csAt c n / 4)).list.set (csAt c n % 4).toNat (csWork c n).2 } else n
def csCore (c:GCore) (n:GNode):GCore:=⟨(csWork c n).1,if 0 ≤ (csWork c n).2 then purge (csCache c n) (csAt c n / 4) else csCache c n⟩
def coreDo (c:GCore) (n:GNode) (nodes:Int):GCore × GNode × Int :=
 if c.hart.state ≠ 0 then (c,n,2)
 else if (frameAtI n (c.hart.pc / 4)).state = 0 then (c,want n nodes (c.hart.pc / 4) false,3)
 else if 0 ≤ csAt c n ∧ lacks (frameAtI n (csAt c n / 4)) (csOwn c n) = true then (⟨c.hart,csCache c n⟩,want n nodes (csAt c n / 4) (csOwn c n),3)
 else (csCore c n,csPut c n,0)
def coreStep (c:GCore) (n:GNode) (nodes:Int):GCore × GNode × Int:=if coreOkB c n nodes = true then coreDo c n nodes else (zCore,zNode,1)
def coreAtI (f:GFlock) (i:Int):GCore:=f.cores.getD i.toNat zCore
def fRun (f:GFlock) (a:Int):GFlock × Int × Int :=
 if inR a 0 ((f.cores.length:Int) - 1) = true then
  if (coreStep (coreAtI f a) (nodeAtI f.world a) f.world.size).2.2 = 2 then (f,3,2)
  else ({ world:={ f.world with nodes:=f.world.nodes.set a.toNat (coreStep (coreAtI f a) (nodeAtI f.world a) f.world.size).2.1 },cores:=f.cores.set a.toNat (coreStep (coreAtI f a) (nodeAtI f.world a) f.world.size).1 },0,(coreStep (coreAtI f a) (nodeAtI f.world a) f.world.size).2.2)
 else (f,2,1)
def fCores (v:Bool) (f:GFlock) (d:GDeed):List GCore :=
 if d.kind = 3 ∧ inR d.a 0 ((f.world.net.length:Int) - 1) = true ∧ heardB v { f.world with net:=netCut f.world.net d.a.toNat } (f.world.net.getD d.a.toNat zPacket) = true then
  f.cores.set (f.world.net.getD d.a.toNat zPacket).to.toNat (coreHear (coreAtI f (f.world.net.getD d.a.toNat zPacket).to) (f.world.net.getD d.a.toNat zPacket).msg)
 else f.cores
def fDo (v:Bool) (f:GFlock) (d:GDeed):GFlock × Int × Int :=
 if d.kind = 7 then fRun f d.a else (⟨(wDo v f.world d).1,fCores v f d⟩,(wDo v f.world d).2,1)
def flockDo (v:Bool) (f:GFlock) (d:GDeed):GFlock × Int:=if (flockOk f && inR d.kind 1 7) = true then ((fDo v f d).1,(fDo v f d).2.1) else (zFlock,1)
@[ext] structure Gkeeper where
 home:GHome
 page:Int
 told:List GTold
def ekeeper (x:Gkeeper):List T:=[.sl 1 (enc eI x.home.list),.int .i64 x.home.owner,.sl 1 (enc eB x.home.readers),.bool x.home.busy,.int .i64 x.home.now.who,.bool x.home.now.own,.int .i64 x.home.acks,.sl 2 (enc eWait x.home.queue),.int .i64 x.page,.sl 5 (enc eTold x.told)]
theorem qv (x:Gkeeper):ekeeper x = [.sl 1 (enc eI x.home.list),.int .i64 x.home.owner,.sl 1 (enc eB x.home.readers),.bool x.home.busy,.int .i64 x.home.now.who,.bool x.home.now.own,.int .i64 x.home.acks,.sl 2 (enc eWait x.home.queue),.int .i64 x.page,.sl 5 (enc eTold x.told)]:=rfl
def Gkeeper.kp (k:Gkeeper):Kp:=⟨k.home,k.told⟩
def Gkeeper.put (k:Gkeeper) (q:Kp):Gkeeper:=⟨q.h,k.page,q.told⟩
@[ext] structure Gl4Work where
 h:GHome
 page:Int
 told:List GTold
def el4Work (x:Gl4Work):List T:=[.sl 1 (enc eI x.h.list),.int .i64 x.h.owner,.sl 1 (enc eB x.h.readers),.bool x.h.busy,.int .i64 x.h.now.who,.bool x.h.now.own,.int .i64 x.h.acks,.sl 2 (enc eWait x.h.queue),.int .i64 x.page,.sl 5 (enc eTold x.told)]
theorem qx (x:Gl4Work):el4Work x = [.sl 1 (enc eI x.h.list),.int .i64 x.h.owner,.sl 1 (enc eB x.h.readers),.bool x.h.busy,.int .i64 x.h.now.who,.bool x.h.now.own,.int .i64 x.h.acks,.sl 2 (enc eWait x.h.queue),.int .i64 x.page,.sl 5 (enc eTold x.told)]:=rfl
def Gl4Work.kp (k:Gl4Work):Kp:=⟨k.h,k.told⟩
def Gl4Work.put (k:Gl4Work) (q:Kp):Gl4Work:=⟨q.h,k.page,q.told⟩
theorem sq (xs:List GTold) (a b c:Int) (o:Bool):enc eTold xs ++ [[.int .i64 a,.int .i64 b,.int .i64 c,.bool o,.sl 1 []]] = enc eTold (xs ++ [⟨a,⟨b,c,o,[]⟩⟩]):=mS xs a b c o []
theorem oN (xs:List GPacket) (a b n k p:Int) (c o:Bool):enc ePacket xs ++ [[.int .i64 a,.int .i64 b,.bool c,.int .i64 n,.int .i64 k,.int .i64 p,.bool o,.sl 1 []]] = enc ePacket (xs ++ [⟨a,b,c,n,⟨k,p,o,[]⟩⟩]):=jT xs a b c n k p o []
attribute [go_sem] sq oN qv qx
def lessB (f:GFrame) (own:Bool):Bool:=decide (f.state = 0) || (own && decide (f.state = 1))
theorem eP {f:GFrame} (h:frameOk f = true):f.state = 0 ∧ f.list.length = 0 ∨ (f.state = 1 ∨ f.state = 2) ∧ f.list.length = 4:=by
 by_cases h0:f.state = 0
 ·rw[fW h0] at h;simp at h;exact Or.inl ⟨h0,by simp[h]⟩
 ·rw[cL h0] at h;simp only[Bool.and_eq_true,am] at h;have:=dg h.2;exact Or.inr ⟨by omega,by omega⟩
theorem kd {f:GFrame} (h:frameOk f = true) (own:Bool):lessB f own = lacks f own:=by
 unfold lessB lacks;rcases eP h with ⟨h0,-⟩ | ⟨h1 | h1,-⟩ <;> simp[*]
theorem cH {s:GSender} (h:senderOk s = true):IntKind.wrap .i64 (s.base + s.queue.length) = s.base + s.queue.length:=by
 obtain ⟨h1,h2,-⟩:=bh h;exact ap (by omega) (by omega)
theorem fh (s:GSender) (m:GMsg):queueB s m = !(!senderOk s || !msgOk m || decide ((s.queue.length:Int) = 30) || decide (IntKind.wrap .i64 (s.base + s.queue.length) = 100000)):=by
 unfold queueB;cases hk:senderOk s with
 | false=>rfl
 | true =>
  rw[cH hk];cases msgOk m with
  | false=>rfl
  | true =>
   rw[Bool.eq_iff_iff];simp;omega
theorem gf {s:GSender} {m:GMsg} (h:queueB s m = true):queueS s m = ⟨s.base,s.queue ++ [m]⟩:=if_pos h
theorem ir {s:GSender} {m:GMsg} (h:queueB s m = false):queueS s m = s:=if_neg (by simp[h])
theorem is {s:GSender} {m:GMsg} (h:queueB s m = true):senderOk s = true ∧ msgOk m = true ∧ s.queue.length < 30 ∧ s.base + s.queue.length < 100000:=by
 unfold queueB at h;simp only[Bool.and_eq_true,decide_eq_true_eq] at h;obtain ⟨⟨⟨h1,h2⟩,h3⟩,h4⟩:=h;obtain ⟨k1,k2,-⟩:=bh h1;have k3:=h1;unfold senderOk sendHd at k3;simp only[Bool.and_eq_true,decide_eq_true_eq] at k3;rw[cH h1] at k3;exact ⟨h1,h2,by omega,by omega⟩
theorem getD_at {α:Type} {xs:List α} {i:Nat} {z:α} (h:i < xs.length):xs.getD i z = xs[i]:=by
 rw[List.getD_eq_getElem?_getD,List.getElem?_eq_getElem h];rfl
theorem jg (n:GNode) (nodes page:Int):nodeOk n nodes = false ∨ (nodeOk n nodes = true ∧ inR page 0 5 = false) ∨
  (nodeOk n nodes = true ∧ inR page 0 5 = true ∧ ∃ p d:Nat,page = (p:Int) ∧ p < n.frames.length ∧ d < n.out.length ∧ (page % nodes).toNat = d ∧ page.tmod nodes = (d:Int) ∧ n.frames.length = 6 ∧ (n.out.length:Int) ≤ 4 ∧ nodes ≠ 0 ∧ p < 6 ∧ page.toNat = p):=by
 cases hk:nodeOk n nodes with
 | false=>exact Or.inl rfl
 | true =>
  refine Or.inr ?_
  cases hp:inR page 0 5 with
  | false=>exact Or.inl ⟨rfl,rfl⟩
  | true =>
   refine Or.inr ⟨rfl,rfl,page.toNat,(page % nodes).toNat,?_⟩
   rw[am] at hp
   obtain ⟨h1,h2,h3,-⟩:=aH hk
   have hn:1 ≤ nodes ∧ nodes ≤ 4:=by
    unfold nodeOk nodeHd at hk
    simp only[Bool.and_eq_true,am] at hk
    exact hk.1.1.1.1.1.1.1.1.1
   have hm:=Int.emod_nonneg page (b:=nodes) (by omega)
   have hl:=Int.emod_lt_of_pos page (b:=nodes) (by omega)
   refine ⟨by omega,by omega,by omega,rfl,?_,h1,by omega,by omega,by omega,rfl⟩
   rw[Int.tmod_eq_emod_of_nonneg (by omega)]
   omega
theorem jh {n:GNode} {nodes page:Int} {own:Bool} (h:nodeOk n nodes = false):wantOk n nodes page own = false:=by unfold wantOk;rw[h];rfl
theorem ji {n:GNode} {nodes page:Int} {own:Bool} (h:inR page 0 5 = false):wantOk n nodes page own = false:=by unfold wantOk;rw[h,Bool.and_false];rfl
theorem nW {n:GNode} {nodes page:Int} {own:Bool} {p d:Nat} (h1:nodeOk n nodes = true) (h2:inR page 0 5 = true) (h3:page.toNat = p) (h4:p < n.frames.length) (h5:(page % nodes).toNat = d) (h6:d < n.out.length) :
  wantOk n nodes page own = (!n.frames[p].asked && lacks n.frames[p] own && queueB n.out[d] (wantMsg page own)):=by
 unfold wantOk
 rw[h1,h2,h3,h5,getD_at h4,getD_at h6]
 rfl
theorem cn {n:GNode} {nodes page:Int} {own:Bool} (h:wantOk n nodes page own = false):want n nodes page own = n:=if_neg (by simp[h])
theorem dt {n:GNode} {nodes page:Int} {own:Bool} {p d:Nat} (h:wantOk n nodes page own = true) (h3:page.toNat = p) (h4:p < n.frames.length) (h5:(page % nodes).toNat = d) (h6:d < n.out.length) :
  want n nodes page own = ⟨n.id,n.frames.set p ⟨n.frames[p].state,n.frames[p].list,true⟩,n.homes,n.out.set d (queueS n.out[d] (wantMsg page own)),n.in_⟩:=by
 unfold want
 rw[if_pos h,h3,h5,getD_at h4,getD_at h6]
def frB (f:GFrame) (i:Int):Bool:=frameOk f && inR i 0 (IntKind.wrap .i64 (f.list.length - 1))
def frV (f:GFrame) (i:Int):Int:=if frB f i = true then f.list.getD i.toNat 0 else 0
def fwB (f:GFrame) (i w:Int):Bool:=frameOk f && decide (f.state = 2) && inR i 0 3 && inR w 0 65535
theorem vI {f:GFrame} {i w:Int} (h:fwB f i w = true):0 ≤ i ∧ i ≤ 3 ∧ i < (f.list.length:Int) ∧ i.toNat < f.list.length:=by
 unfold fwB at h;simp only[Bool.and_eq_true,am,decide_eq_true_eq] at h;obtain ⟨⟨⟨h1,h2⟩,h3⟩,-⟩:=h;rcases eP h1 with h4 | h4 <;> omega
def fwF (f:GFrame) (i w:Int):GFrame:=if fwB f i w = true then { f with list:=f.list.set i.toNat w } else f
def Gkeeper.give (k:Gkeeper):Gkeeper:=k.put (kGive k.page k.kp)
def Gkeeper.begin_ (k:Gkeeper):Gkeeper:=k.put (kBegin k.page k.kp)
def Gl4Work.give (k:Gl4Work):Gl4Work:=k.put (kGive k.page k.kp)
def Gl4Work.next (k:Gl4Work):Gl4Work:=k.put (kBegin k.page k.kp)
theorem lw (k:Gkeeper):k.give = ⟨⟨k.home.list,if k.home.now.own = true then k.home.now.who else k.home.owner,k.home.readers.set k.home.now.who.toNat (!k.home.now.own),false,⟨0,false⟩,k.home.acks,k.home.queue⟩,k.page,k.told ++ [⟨k.home.now.who,⟨3,k.page,k.home.now.own,k.home.list⟩⟩]⟩:=rfl
theorem nX (k:Gl4Work):k.give = ⟨⟨k.h.list,if k.h.now.own = true then k.h.now.who else k.h.owner,k.h.readers.set k.h.now.who.toNat (!k.h.now.own),false,⟨0,false⟩,k.h.acks,k.h.queue⟩,k.page,k.told ++ [⟨k.h.now.who,⟨3,k.page,k.h.now.own,k.h.list⟩⟩]⟩:=rfl
theorem nd {s:GSender} {n:Int} (h:¬ (senderOk s = true ∧ s.base ≤ n ∧ n ≤ s.base + s.queue.length)):acked s n = s:=if_neg h
theorem nY {s:GSender} {n:Int} (h1:senderOk s = true) (h2:s.base ≤ n) (h3:n ≤ s.base + s.queue.length) {j:Nat} (hj:n - s.base = j):acked s n = ⟨n,s.queue.drop j⟩:=by
 unfold acked;rw[if_pos ⟨h1,h2,h3⟩,hj];rfl
theorem ss {s:GSender} {n:Int} (h:n = s.base):acked s n = s:=by
 unfold acked;split
 ·subst h;simp
 ·rfl
theorem lx (s:GSender) (n:Int):(senderOk s = true ∧ inR n s.base (IntKind.wrap .i64 (s.base + s.queue.length)) = true) ↔ (senderOk s = true ∧ s.base ≤ n ∧ n ≤ s.base + s.queue.length):=by
 constructor
 ·rintro ⟨h1,h2⟩;rw[cH h1,am] at h2;exact ⟨h1,h2.1,h2.2⟩
 ·rintro ⟨h1,h2,h3⟩;exact ⟨h1,by rw[cH h1,am];exact ⟨h2,h3⟩⟩
theorem ly (s:GSender) (n:Int):((!senderOk s || decide (n ≤ s.base) || decide (IntKind.wrap .i64 (s.base + s.queue.length) < n)) = true → acked s n = s) ∧
  ((!senderOk s || decide (n ≤ s.base) || decide (IntKind.wrap .i64 (s.base + s.queue.length) < n)) = false → senderOk s = true ∧ s.base ≤ n ∧ n ≤ s.base + s.queue.length):=by
 cases hk:senderOk s with
 | false=>exact ⟨fun _=>nd (by simp[hk]),fun h=>by simp at h⟩
 | true =>
  rw[cH hk]
  constructor
  ·intro h
   by_cases hb:n = s.base
   ·exact ss hb
   ·exact nd (by simp at h;omega)
  ·intro h
   simp at h
   exact ⟨rfl,by omega,by omega⟩
theorem sT {r:GReceiver} {n:Int} (h:arrB r n = true):arrR r n = ⟨r.got + 1⟩ ∧ IntKind.wrap .i64 (r.got + 1) = r.got + 1:=by
 refine ⟨if_pos h,?_⟩;unfold arrB at h;simp only[Bool.and_eq_true,am] at h;exact ap (by omega) (by omega)
theorem vJ {r:GReceiver} {n:Int} (h:arrB r n = false):arrR r n = r:=if_neg (by simp[h])
section
variable {f:GFrame} {m:GMsg}
theorem vK (h:¬ (frameOk f = true ∧ msgOk m = true)):frameHear f m = (f,zMsg,false):=if_neg h
theorem aQ (h1:frameOk f = true) (h2:msgOk m = true) (h:m.kind = 3):frameHear f m = (⟨if m.own = true then 2 else 1,m.list,false⟩,zMsg,false):=by
 unfold frameHear;rw[if_pos ⟨h1,h2⟩,if_pos h]
theorem aR (h1:frameOk f = true) (h2:msgOk m = true) (h:m.kind = 4):frameHear f m = (⟨0,[],f.asked⟩,⟨5,m.page,false,[]⟩,true):=by
 unfold frameHear;rw[if_pos ⟨h1,h2⟩,if_neg (by omega),if_pos h]
theorem au (h1:frameOk f = true) (h2:msgOk m = true) (h:m.kind = 6) (hs:f.state = 2):frameHear f m = (if m.own = true then ⟨0,[],f.asked⟩ else ⟨1,f.list,f.asked⟩,⟨7,m.page,false,f.list⟩,true):=by
 unfold frameHear;rw[if_pos ⟨h1,h2⟩,if_neg (by omega),if_neg (by omega),if_pos ⟨h,hs⟩]
theorem aS (h3:¬ m.kind = 3) (h4:¬ m.kind = 4) (h6:¬ (m.kind = 6 ∧ f.state = 2)):frameHear f m = (f,zMsg,false):=by
 unfold frameHear;by_cases hk:frameOk f = true ∧ msgOk m = true
 ·rw[if_pos hk,if_neg h3,if_neg h4,if_neg h6]
 ·rw[if_neg hk]
end
section
variable {page:Int} {q:Kp}
theorem su (i:Nat):(kGone page q i).h.list = q.h.list ∧ (kGone page q i).h.owner = q.h.owner ∧ (kGone page q i).h.busy = q.h.busy ∧ (kGone page q i).h.now = q.h.now ∧ (kGone page q i).h.queue = q.h.queue ∧ (kGone page q i).h.readers.length = q.h.readers.length ∧
  (kGone page q i).told.length ≤ q.told.length + 1 ∧ q.h.acks ≤ (kGone page q i).h.acks ∧ (kGone page q i).h.acks ≤ q.h.acks + 1:=by
 unfold kGone
 split
 ·simp;omega
 ·simp;omega
theorem qy (i:Nat):(kGoneN page q i).h.list = q.h.list ∧ (kGoneN page q i).h.owner = q.h.owner ∧ (kGoneN page q i).h.busy = q.h.busy ∧ (kGoneN page q i).h.now = q.h.now ∧ (kGoneN page q i).h.queue = q.h.queue ∧ (kGoneN page q i).h.readers.length = q.h.readers.length ∧
  (kGoneN page q i).told.length ≤ q.told.length + i ∧ q.h.acks ≤ (kGoneN page q i).h.acks ∧ (kGoneN page q i).h.acks ≤ q.h.acks + i:=by
 induction i with
 | zero=>exact ⟨rfl,rfl,rfl,rfl,rfl,rfl,by simp[kGoneN],Int.le_refl _,by simp[kGoneN]⟩
 | succ i ih =>
  obtain ⟨a1,a2,a3,a4,a5,a6,a7,a8,a9⟩:=ih
  obtain ⟨b1,b2,b3,b4,b5,b6,b7,b8,b9⟩:=su (page:=page) (q:=kGoneN page q i) i
  simp only[kGoneN]
  exact ⟨b1.trans a1,b2.trans a2,b3.trans a3,b4.trans a4,b5.trans a5,b6.trans a6,by omega,by omega,by omega⟩
end
def Kp.g (page:Int) (q:Kp) (i:Nat):Kp:=kGoneN page (kZero (kPick q)) i
section
variable {page:Int} {q:Kp}
theorem sU:q.g page 0 = kZero (kPick q):=rfl
theorem fF (i:Nat) {w:GWait} {qs:List GWait} (hq:q.h.queue = w :: qs):(q.g page i).h.list = q.h.list ∧ (q.g page i).h.owner = q.h.owner ∧ (q.g page i).h.busy = true ∧ (q.g page i).h.now = w ∧ (q.g page i).h.queue = qs ∧ (q.g page i).h.readers.length = q.h.readers.length ∧
  (q.g page i).told.length ≤ q.told.length + i ∧ 0 ≤ (q.g page i).h.acks ∧ (q.g page i).h.acks ≤ i:=by
 obtain ⟨a1,a2,a3,a4,a5,a6,a7,a8,a9⟩:=qy (page:=page) (q:=kZero (kPick q)) i
 have e4:(kZero (kPick q)).h.now = w:=by simp[kZero,kPick,hq]
 have e5:(kZero (kPick q)).h.queue = qs:=by simp[kZero,kPick,hq]
 have e8:(kZero (kPick q)).h.acks = 0:=rfl
 refine ⟨a1,a2,a3,a4.trans e4,a5.trans e5,a6,a7,?_,?_⟩
 ·rw[e8] at a8;exact a8
 ·rw[e8] at a9;unfold Kp.g;omega
theorem vL {i:Nat} {w:GWait} {qs:List GWait} (hq:q.h.queue = w :: qs) (h1:w.own = true) (hi:i < (q.g page i).h.readers.length) (h2:(q.g page i).h.readers[i] = true) (h3:(i:Int) ≠ w.who) :
  q.g page (i + 1) = ⟨{ (q.g page i).h with readers:=(q.g page i).h.readers.set i false,acks:=(q.g page i).h.acks + 1 },(q.g page i).told ++ [⟨i,⟨4,page,false,[]⟩⟩]⟩:=by
 obtain ⟨-,-,-,e4,-⟩:=fF (page:=page) i hq
 show kGone page (q.g page i) i = _
 unfold kGone
 rw[if_pos ⟨by rw[e4];exact h1,by rw[getD_at hi];exact h2,by rw[e4];exact h3⟩]
theorem kg_no {i:Nat} {w:GWait} {qs:List GWait} (hq:q.h.queue = w :: qs) (hi:i < (q.g page i).h.readers.length) (h:¬ (w.own = true ∧ (q.g page i).h.readers[i] = true ∧ (i:Int) ≠ w.who)):q.g page (i + 1) = q.g page i:=by
 obtain ⟨-,-,-,e4,-⟩:=fF (page:=page) i hq;(show kGone page (q.g page i) i = _);unfold kGone;rw[if_neg];rintro ⟨a,b,c⟩;rw[e4] at a c;rw[getD_at hi] at b;exact h ⟨a,b,c⟩
theorem du {w:GWait} {qs:List GWait} (hq:q.h.queue = w :: qs) (h:0 ≤ q.h.owner):kBegin page q = ⟨⟨q.h.list,q.h.owner,q.h.readers,true,w,q.h.acks,qs⟩,q.told ++ [⟨q.h.owner,⟨6,page,w.own,[]⟩⟩]⟩:=by
 unfold kBegin;rw[if_pos h];simp[kTell,kPick,hq]
theorem dU {w:GWait} {qs:List GWait} (hq:q.h.queue = w :: qs) (h:¬ 0 ≤ q.h.owner):kBegin page q = if (q.g page q.h.readers.length).h.acks = 0 then kGive page (q.g page q.h.readers.length) else q.g page q.h.readers.length:=by
 unfold kBegin;rw[if_neg h];rfl
end
theorem aT (x y:Int):(x == y) = decide (x = y):=by rw[Bool.eq_iff_iff];simp
section
variable {page:Int} {q:Kp}
theorem lz:(kGive page q).h.list = q.h.list ∧ (kGive page q).h.queue = q.h.queue ∧ (kGive page q).h.readers.length = q.h.readers.length ∧ (kGive page q).told.length = q.told.length + 1:=by
 unfold kGive;simp
theorem ek {w:GWait} {qs:List GWait} (hq:q.h.queue = w :: qs):(kBegin page q).h.list = q.h.list ∧ (kBegin page q).h.queue = qs ∧ (kBegin page q).h.readers.length = q.h.readers.length ∧ (kBegin page q).told.length ≤ q.told.length + q.h.readers.length + 1:=by
 by_cases h:0 ≤ q.h.owner
 ·rw[du hq h];exact ⟨rfl,rfl,rfl,by simp only[List.length_append,List.length_cons,List.length_nil];omega⟩
 ·rw[dU hq h];obtain ⟨e1,-,-,-,e5,e6,e7,-,-⟩:=fF (page:=page) q.h.readers.length hq;obtain ⟨g1,g2,g3,g4⟩:=lz (page:=page) (q:=q.g page q.h.readers.length);split
  ·exact ⟨g1.trans e1,g2.trans e5,g3.trans e6,by omega⟩
  ·exact ⟨e1,e5,e6,by omega⟩
theorem nf {n:Nat} (h:¬ (q.h.busy = false ∧ 0 < q.h.queue.length)):kNext page n q = q:=by
 cases n with
 | zero=>rfl
 | succ n=>unfold kNext;rw[if_neg h]
theorem qA {w:GWait} {qs:List GWait} (hq:q.h.queue = w :: qs) (hb:q.h.busy = false):kNext page q.h.queue.length q = kNext page (kBegin page q).h.queue.length (kBegin page q):=by
 obtain ⟨-,e2,-⟩:=ek (page:=page) hq;rw[e2,hq,List.length_cons];(show (if q.h.busy = false ∧ 0 < q.h.queue.length then kNext page qs.length (kBegin page q) else q) = _);rw[if_pos ⟨hb,by rw[hq];simp⟩]
end
structure KpI (n:Nat) (q:Kp):Prop where
 list:q.h.list.length ≤ 1048576
 readers:q.h.readers.length = n
 queue:∀ w ∈ q.h.queue,0 ≤ w.who ∧ w.who < (n:Int)
 told:q.told.length + 5 * q.h.queue.length ≤ 100
theorem KpI.of {n:Nat} {q:Kp} (h1:q.h.list.length ≤ 1048576) (h2:q.h.readers.length = n) (h3:∀ w ∈ q.h.queue,0 ≤ w.who ∧ w.who < (n:Int)) (h4:q.told.length ≤ 1) (h5:q.h.queue.length ≤ 13):KpI n q:=⟨h1,h2,h3,by omega⟩
theorem KpI.give {n:Nat} {q:Kp} {page:Int} (h1:q.h.list.length ≤ 1048576) (h2:q.h.readers.length = n) (h3:∀ w ∈ q.h.queue,0 ≤ w.who ∧ w.who < (n:Int)) (h4:q.told.length = 0) (h5:q.h.queue.length ≤ 13):KpI n (kGive page q):=by
 obtain ⟨e1,e2,e3,e4⟩:=lz (page:=page) (q:=q);exact KpI.of (by rw[e1];exact h1) (e3.trans h2) (by rw[e2];exact h3) (by omega) (by rw[e2];exact h5)
theorem KpI.next {n:Nat} {q:Kp} {page:Int} (h:KpI n q) (hn:n ≤ 4) {w:GWait} {qs:List GWait} (hq:q.h.queue = w :: qs):KpI n (kBegin page q):=by
 obtain ⟨e1,e2,e3,e4⟩:=ek (page:=page) hq;have h4:=h.told;have h2:=h.readers;rw[hq,List.length_cons] at h4;refine ⟨by rw[e1];exact h.list,e3.trans h2,fun x hx=>h.queue x (by rw[hq];rw[e2] at hx;exact List.mem_cons_of_mem _ hx),by rw[e2];omega⟩
section
variable {v:Bool} {h:GHome} {nodes page frm:Int} {m:GMsg}
theorem dV (hk:hearOk h nodes page frm m = false):homeHear v h nodes page frm m = (h,[]):=by
 unfold homeHear;rw[if_neg (by simp[hk])]
theorem cQ (hn:kHear v page frm m ⟨h,[]⟩ = none):homeHear v h nodes page frm m = (h,[]):=by
 unfold homeHear;split
 ·rw[hn]
 ·rfl
theorem cR (hk:hearOk h nodes page frm m = true) {k:Kp} (hs:kHear v page frm m ⟨h,[]⟩ = some k):homeHear v h nodes page frm m = ((kNext page k.h.queue.length k).h,(kNext page k.h.queue.length k).told):=by
 unfold homeHear;rw[if_pos hk,hs]
theorem dv (hk:hearOk h nodes page frm m = true):homeOk h nodes = true ∧ msgOk m = true ∧ (1 ≤ nodes ∧ nodes ≤ 4) ∧ (0 ≤ frm ∧ frm < nodes) ∧ page = m.page:=by
 unfold hearOk at hk;simp only[Bool.and_eq_true,decide_eq_true_eq,am] at hk;obtain ⟨⟨⟨⟨h1,h2⟩,h3⟩,h4⟩,h5⟩:=hk;exact ⟨h1,h2,h3,by omega,h5⟩
theorem hY (h:GHome) (nodes page frm:Int) (m:GMsg):hearOk h nodes page frm m = (homeOk h nodes && msgOk m && (inR nodes 1 4 && inR frm 0 (IntKind.wrap .i64 (nodes - 1))) && decide (page = m.page)):=by
 unfold hearOk;cases hh:homeOk h nodes with
 | false=>rfl
 | true =>
  have hn:=(bL hh).1;rw[ap (show -9223372036854775808 ≤ nodes - 1 by omega) (by omega)];cases msgOk m <;> cases inR nodes 1 4 <;> cases inR frm 0 (nodes - 1) <;> rfl
theorem hZ {k:Kp} (hq:m.kind = 1 ∨ m.kind = 2) (hl:k.h.queue.length < 12):kHear v page frm m k = some ⟨{ k.h with queue:=k.h.queue ++ [⟨frm,decide (m.kind = 2)⟩] },k.told⟩:=by
 unfold kHear;rw[if_pos hq,if_neg (by omega)]
theorem ng {k:Kp} (hq:m.kind = 5) (h1:k.h.busy = true ∧ 0 < k.h.acks) (h0:k.h.acks - 1 = 0):kHear v page frm m k = some (kGive page ⟨{ k.h with acks:=k.h.acks - 1 },k.told⟩):=by
 unfold kHear;rw[if_neg (by omega),if_pos hq,if_pos h1,if_pos h0]
theorem nZ {k:Kp} (hq:m.kind = 5) (h1:k.h.busy = true ∧ 0 < k.h.acks) (h0:¬ k.h.acks - 1 = 0):kHear v page frm m k = some ⟨{ k.h with acks:=k.h.acks - 1 },k.told⟩:=by
 unfold kHear;rw[if_neg (by omega),if_pos hq,if_pos h1,if_neg h0]
theorem nh {k:Kp} (hq:m.kind = 7) (h1:k.h.busy = true ∧ k.h.acks = 0 ∧ frm = k.h.owner):kHear v page frm m k = some (kGive page ⟨{ k.h with list:=m.list,readers:=backR v k.h.readers k.h.owner k.h.now.own,owner:=-1 },k.told⟩):=by
 unfold kHear;rw[if_neg (by omega),if_neg (by omega),if_pos hq,if_pos h1]
theorem dG {k:Kp} (h1:¬ ((m.kind = 1 ∨ m.kind = 2) ∧ k.h.queue.length < 12)) (h0:k.h.queue.length ≤ 12) (h5:¬ (m.kind = 5 ∧ k.h.busy = true ∧ 0 < k.h.acks)) (h7:¬ (m.kind = 7 ∧ k.h.busy = true ∧ k.h.acks = 0 ∧ frm = k.h.owner)):kHear v page frm m k = none:=by
 unfold kHear;by_cases a:m.kind = 1 ∨ m.kind = 2
 ·rw[if_pos a,if_pos];by_cases b:k.h.queue.length < 12
  ·exact absurd ⟨a,b⟩ h1
  ·omega
 ·rw[if_neg a];by_cases b:m.kind = 5
  ·rw[if_pos b,if_neg (fun c=>h5 ⟨b,c⟩)]
  ·rw[if_neg b];by_cases c:m.kind = 7
   ·rw[if_pos c,if_neg (fun d=>h7 ⟨c,d⟩)]
   ·rw[if_neg c]
end
structure KpT (N:Nat) (q:Kp):Prop where
 owner:q.h.owner < (N:Int)
 who:0 ≤ q.h.now.who ∧ q.h.now.who < (N:Int)
 readers:q.h.readers.length = N
 queue:∀ w ∈ q.h.queue,0 ≤ w.who ∧ w.who < (N:Int)
 list:q.h.list.length ≤ 1048576
 told:∀ t ∈ q.told,(0 ≤ t.to ∧ t.to < (N:Int)) ∧ t.msg.small
section
variable {N:Nat} {q:Kp} {page:Int}
theorem kY {N:Nat} {xs:List GTold} {y:GTold} (h:∀ t ∈ xs,(0 ≤ t.to ∧ t.to < (N:Int)) ∧ t.msg.small) (hy:(0 ≤ y.to ∧ y.to < (N:Int)) ∧ y.msg.small):∀ t ∈ xs ++ [y],(0 ≤ t.to ∧ t.to < (N:Int)) ∧ t.msg.small:=by
 intro t ht;rcases List.mem_append.1 ht with ht | ht
 ·exact h t ht
 ·obtain rfl:=List.mem_singleton.1 ht;exact hy
theorem KpT.give (h:KpT N q) (hN:0 < N):KpT N (kGive page q):=by
 refine ⟨?_,⟨Int.le_refl _,by simp only[kGive,zWait];omega⟩,by simp only[kGive,List.length_set];exact h.readers,h.queue,h.list,kY h.told ⟨h.who,h.list⟩⟩;simp only[kGive];split
 ·exact h.who.2
 ·exact h.owner
theorem KpT.gone (h:KpT N q) {i:Nat} (hi:i < N):KpT N (kGone page q i):=by
 unfold kGone;split
 ·exact ⟨h.owner,h.who,by simp only[List.length_set];exact h.readers,h.queue,h.list,kY h.told ⟨⟨by simp only;omega,by simp only;omega⟩,by unfold GMsg.small;simp⟩⟩
 ·exact h
theorem KpT.goneN (h:KpT N q):∀ i,i ≤ N → KpT N (kGoneN page q i)
 | 0,_=>h
 | i + 1,hi=>(KpT.goneN h i (by omega)).gone (by omega)
theorem KpT.begin_ (h:KpT N q) (hN:0 < N) {w:GWait} {qs:List GWait} (hq:q.h.queue = w :: qs):KpT N (kBegin page q):=by
 have hw:=h.queue w (by rw[hq];simp);have hqs:∀ x ∈ qs,0 ≤ x.who ∧ x.who < (N:Int):=fun x hx=>h.queue x (by rw[hq];exact List.mem_cons_of_mem _ hx);by_cases ho:0 ≤ q.h.owner
 ·rw[du hq ho];exact ⟨h.owner,hw,h.readers,hqs,h.list,kY h.told ⟨⟨ho,h.owner⟩,by unfold GMsg.small;simp⟩⟩
 ·rw[dU hq ho];have h0:KpT N (kZero (kPick q)):=⟨h.owner,by simp only[kZero,kPick,hq,List.headD_cons];exact hw,h.readers,by simp only[kZero,kPick,hq,List.drop_succ_cons,List.drop_zero];exact hqs,h.list,h.told⟩;have h1:KpT N (q.g page q.h.readers.length):=h0.goneN _ (by rw[h.readers];exact Nat.le_refl _);split
  ·exact h1.give hN
  ·exact h1
theorem KpT.next (hN:0 < N):∀ (n:Nat) (q:Kp),KpT N q → KpT N (kNext page n q)
 | 0,_,h=>h
 | n + 1,q,h=>by
  unfold kNext
  split
  ·rename_i hc
   obtain ⟨w,qs,hq⟩:∃ w qs,q.h.queue = w :: qs:=by
    cases hx:q.h.queue with
    | nil=>rw[hx] at hc;simp at hc
    | cons w qs=>exact ⟨w,qs,rfl⟩
   exact KpT.next hN n _ (h.begin_ hN hq)
  ·exact h
theorem iH {v:Bool} {h:GHome} {nodes frm:Int} {m:GMsg} (hs:h.small) (hm:m.small) (hN:nodes = (N:Int)) (h0:0 < N) :
  (∀ t ∈ (homeHear v h nodes page frm m).2,(0 ≤ t.to ∧ t.to < (N:Int)) ∧ t.msg.small):=by
 cases hk:hearOk h nodes page frm m with
 | false=>rw[dV hk];intro t ht;cases ht
 | true =>
  cases hs':kHear v page frm m ⟨h,[]⟩ with
  | none=>rw[cQ hs'];intro t ht;cases ht
  | some k =>
   rw[cR hk hs']
   have hT:KpT N k:=by
    obtain ⟨k1,k2,k3,k4,k5⟩:=dv hk
    obtain ⟨-,l2,l3,l4,l5,l6,l7,l8⟩:=bL k1
    have l9:∀ w ∈ h.queue,0 ≤ w.who ∧ w.who < (N:Int):=fun w hw=>by
     obtain ⟨i,hi,rfl⟩:=List.getElem_of_mem hw
     have:=l8 i hi;omega
    have hb:KpT N ⟨h,[]⟩:=⟨by simp only;omega,⟨l5.1,by simp only;omega⟩,by simp only;omega,l9,hs.1,fun t ht=>by cases ht⟩
    unfold kHear at hs'
    split at hs'
    ·split at hs'
     ·cases hs'
     ·cases hs'
      refine ⟨hb.owner,hb.who,hb.readers,fun w hw=>?_,hb.list,hb.told⟩
      rcases List.mem_append.1 hw with hw | hw
      ·exact l9 w hw
      ·obtain rfl:=List.mem_singleton.1 hw
       simp only;omega
    ·split at hs'
     ·split at hs'
      ·split at hs'
       ·cases hs'
        exact KpT.give ⟨hb.owner,hb.who,hb.readers,hb.queue,hb.list,hb.told⟩ h0
       ·cases hs'
        exact ⟨hb.owner,hb.who,hb.readers,hb.queue,hb.list,hb.told⟩
      ·cases hs'
     ·split at hs'
      ·split at hs'
       ·cases hs'
        refine KpT.give ⟨by simp only;omega,hb.who,?_,hb.queue,hm,hb.told⟩ h0
        simp only[backR]
        split
        ·exact hb.readers
        ·rw[List.length_set];exact hb.readers
       ·cases hs'
      ·cases hs'
   exact (KpT.next h0 _ _ hT).told
end
def tellRun:List GTold → List GSender → List GSender × Bool
 | [],out=>(out,true)
 | t :: ts,out=>if queueB (out.getD t.to.toNat zSender) t.msg = true then tellRun ts (out.set t.to.toNat (queueS (out.getD t.to.toNat zSender) t.msg)) else (out,false)
theorem ia:∀ (ts:List GTold) (out:List GSender),tellAll ts out = if (tellRun ts out).2 = true then some (tellRun ts out).1 else none
 | [],out=>rfl
 | t :: ts,out=>by
  unfold tellAll tellRun
  split
  ·exact ia ts _
  ·rfl
def fhAt (n:GNode) (m:GMsg):GFrame × GMsg × Bool:=frameHear (n.frames.getD m.page.toNat zFrame) m
def hhAt (v:Bool) (n:GNode) (nodes frm:Int) (m:GMsg):GHome × List GTold:=homeHear v (n.homes.getD m.page.toNat zHome) nodes m.page frm m
def toFrameN (n:GNode) (frm:Int) (m:GMsg):GNode :=
 { n with frames:=n.frames.set m.page.toNat (fhAt n m).1,out:=if (fhAt n m).2.2 = true then n.out.set frm.toNat (queueS (n.out.getD frm.toNat zSender) (fhAt n m).2.1) else n.out }
def toFrameB (n:GNode) (frm:Int) (m:GMsg):Bool:=!(fhAt n m).2.2 || queueB (n.out.getD frm.toNat zSender) (fhAt n m).2.1
def toHomeN (v:Bool) (n:GNode) (nodes frm:Int) (m:GMsg):GNode:={ n with homes:=n.homes.set m.page.toNat (hhAt v n nodes frm m).1,out:=(tellRun (hhAt v n nodes frm m).2 n.out).1 }
def toHomeB (v:Bool) (n:GNode) (nodes frm:Int) (m:GMsg):Bool:=(tellRun (hhAt v n nodes frm m).2 n.out).2
section
variable {v:Bool} {n:GNode} {nodes frm:Int} {m:GMsg}
abbrev homeKind (m:GMsg):Prop:=m.kind = 1 ∨ m.kind = 2 ∨ m.kind = 5 ∨ m.kind = 7
theorem en (h:nodeHearOk n nodes frm m = false):nodeHear v n nodes frm m = (n,false):=by unfold nodeHear;rw[if_neg (by simp[h])]
theorem bt (h:nodeHearOk n nodes frm m = true) (hk:homeKind m) (hp:m.page % nodes = n.id):nodeHear v n nodes frm m = if toHomeB v n nodes frm m = true then (toHomeN v n nodes frm m,true) else (n,false):=by
 unfold nodeHear;rw[if_pos h];(have hg:nodeGot v n nodes frm m = (setHome n m.page.toNat (hhAt v n nodes frm m).1,(hhAt v n nodes frm m).2):=by unfold nodeGot;rw[if_pos hk,if_pos hp];rfl);rw[hg,ia];(show (match (if toHomeB v n nodes frm m = true then some (tellRun (hhAt v n nodes frm m).2 n.out).1 else none) with | some out=>_ | none=>_) = _);split
 ·rename_i heq;split at heq
  ·rename_i hb;cases heq;rw[if_pos hb];rfl
  ·cases heq
 ·rename_i heq;split at heq
  ·cases heq
  ·rename_i hb;rw[if_neg hb]
theorem eQ (h:nodeHearOk n nodes frm m = true) (hk:¬ homeKind m) (hp:m.page % nodes = frm):nodeHear v n nodes frm m = if toFrameB n frm m = true then (toFrameN n frm m,true) else (n,false):=by
 unfold nodeHear;rw[if_pos h];(have hg:nodeGot v n nodes frm m = (setFrame n m.page.toNat (fhAt n m).1,if (fhAt n m).2.2 = true then [⟨frm,(fhAt n m).2.1⟩] else []):=by unfold nodeGot;rw[if_neg hk,if_pos hp];rfl);rw[hg];unfold toFrameB toFrameN;cases hb:(fhAt n m).2.2 with
 | false=>simp[tellAll,setFrame]
 | true =>
  simp only[if_true,tellAll];cases hq:queueB (n.out.getD frm.toNat zSender) (fhAt n m).2.1 with
  | false =>
   have:queueB ((setFrame n m.page.toNat (fhAt n m).1).out.getD frm.toNat zSender) (fhAt n m).2.1 = false:=hq;rw[this];rfl
  | true =>
   have:queueB ((setFrame n m.page.toNat (fhAt n m).1).out.getD frm.toNat zSender) (fhAt n m).2.1 = true:=hq;rw[this];rfl
theorem co (h:nodeHearOk n nodes frm m = true) (h1:homeKind m → ¬ m.page % nodes = n.id) (h2:¬ homeKind m → ¬ m.page % nodes = frm):nodeHear v n nodes frm m = (n,true):=by
 unfold nodeHear;rw[if_pos h]
 have hg:nodeGot v n nodes frm m = (n,[]):=by
  unfold nodeGot;by_cases hk:homeKind m
  ·rw[if_pos hk,if_neg (h1 hk)]
  ·rw[if_neg hk,if_neg (h2 hk)]
 rw[hg];rfl
theorem bZ (h:nodeHearOk n nodes frm m = true):nodeOk n nodes = true ∧ msgOk m = true ∧ (0 ≤ frm ∧ frm < nodes) ∧ (0 ≤ m.page ∧ m.page ≤ 5) ∧ (1 ≤ nodes ∧ nodes ≤ 4):=by
 unfold nodeHearOk at h;simp only[Bool.and_eq_true,am] at h;obtain ⟨⟨h1,h2⟩,h3⟩:=h
 have h4:0 ≤ m.page ∧ m.page ≤ 5:=by
  unfold msgOk msgHd at h2;simp only[Bool.and_eq_true,am] at h2;exact h2.1.1.2
 have hn:1 ≤ nodes ∧ nodes ≤ 4:=by
  unfold nodeOk nodeHd at h1;simp only[Bool.and_eq_true,am] at h1;exact h1.1.1.1.1.1.1.1.1.1
 exact ⟨h1,h2,by omega,h4,hn⟩
end
theorem ke {s:GSender} {m:GMsg} (hs:s.small) (hm:m.small):(queueS s m).small:=by
 cases hq:queueB s m with
 | false=>rw[ir hq];exact hs
 | true =>
  rw[gf hq];obtain ⟨-,-,h3,-⟩:=is hq;refine ⟨by simp;omega,fun a ha=>?_⟩;rcases List.mem_append.1 ha with ha | ha
  ·exact hs.2 a ha
  ·obtain rfl:=List.mem_singleton.1 ha;exact hm
theorem gu {f:GFrame} {m:GMsg} (hf:f.small) (hm:m.small):(frameHear f m).1.small ∧ (frameHear f m).2.1.small:=by
 unfold frameHear;split
 ·split
  ·exact ⟨hm,by unfold GMsg.small zMsg;simp⟩
  ·split
   ·exact ⟨by unfold GFrame.small;simp,by unfold GMsg.small;simp⟩
   ·split
    ·refine ⟨?_,hf⟩;split
     ·unfold GFrame.small;simp
     ·exact hf
    ·exact ⟨hf,by unfold GMsg.small zMsg;simp⟩
 ·exact ⟨hf,by unfold GMsg.small zMsg;simp⟩
theorem KpI.nextN {N:Nat} {page:Int} (hN:N ≤ 4):∀ (n:Nat) (q:Kp),KpI N q → KpI N (kNext page n q)
 | 0,_,h=>h
 | n + 1,q,h=>by
  unfold kNext
  split
  ·rename_i hc
   obtain ⟨w,qs,hq⟩:∃ w qs,q.h.queue = w :: qs:=by
    cases hx:q.h.queue with
    | nil=>rw[hx] at hc;simp at hc
    | cons w qs=>exact ⟨w,qs,rfl⟩
   exact KpI.nextN hN n _ (h.next hN hq)
  ·exact h
theorem kg {v:Bool} {h:GHome} {nodes page frm:Int} {m:GMsg} (hs:h.small) (hm:m.small):(homeHear v h nodes page frm m).2.length ≤ 100:=by
 cases hk:hearOk h nodes page frm m with
 | false=>rw[dV hk];simp
 | true =>
  cases hs':kHear v page frm m ⟨h,[]⟩ with
  | none=>rw[cQ hs'];simp
  | some k =>
   rw[cR hk hs'];obtain ⟨k1,k2,k3,k4,k5⟩:=dv hk;obtain ⟨-,l2,l3,l4,l5,l6,l7,l8⟩:=bL k1;obtain ⟨N,hN⟩:∃ N:Nat,nodes = (N:Int):=⟨nodes.toNat,by omega⟩
   have l9:∀ w ∈ h.queue,0 ≤ w.who ∧ w.who < (N:Int):=fun w hw=>by
    obtain ⟨i,hi,rfl⟩:=List.getElem_of_mem hw;have:=l8 i hi;omega
   have l10:h.readers.length = N:=by omega
   have hT:KpI N k:=by
    unfold kHear at hs';split at hs'
    ·split at hs'
     ·cases hs'
     ·cases hs'
      exact KpI.of hs.1 l10 (fun w hw=>by rcases List.mem_append.1 hw with hw | hw;exact l9 w hw;(obtain rfl:=List.mem_singleton.1 hw;simp only;omega)) (by simp) (by simp;omega)
    ·split at hs'
     ·split at hs'
      ·split at hs'
       ·cases hs'
        exact KpI.give hs.1 l10 l9 rfl (by simp only;omega)
       ·cases hs'
        exact KpI.of hs.1 l10 l9 (by simp) (by simp only;omega)
      ·cases hs'
     ·split at hs'
      ·split at hs'
       ·cases hs'
        refine KpI.give hm ?_ l9 rfl (by simp only;omega);simp only[backR];split
        ·exact l10
        ·rw[List.length_set];exact l10
       ·cases hs'
      ·cases hs'
   have:=(KpI.nextN (page:=page) (by omega) k.h.queue.length k hT).told;(show (kNext page k.h.queue.length k).told.length ≤ 100);omega
section
variable {ts:List GTold} {out0 out:List GSender} {i d:Nat}
theorem lA (h:tellRun ts out0 = tellRun (ts.drop i) out) (hi:i = ts.length):tellRun ts out0 = (out,true):=by
 rw[h,hi,List.drop_length];rfl
theorem ni (h:tellRun ts out0 = tellRun (ts.drop i) out) (hi:i < ts.length) (hd:ts[i].to.toNat = d) (hl:d < out.length) (hq:queueB out[d] ts[i].msg = false):tellRun ts out0 = (out,false):=by
 rw[h,List.drop_eq_getElem_cons hi];unfold tellRun;rw[hd,getD_at hl,if_neg (by simp[hq])]
theorem nj (h:tellRun ts out0 = tellRun (ts.drop i) out) (hi:i < ts.length) (hd:ts[i].to.toNat = d) (hl:d < out.length) (hq:queueB out[d] ts[i].msg = true):tellRun ts out0 = tellRun (ts.drop (i + 1)) (out.set d (queueS out[d] ts[i].msg)):=by
 rw[h,List.drop_eq_getElem_cons hi];(show (if _ then _ else _:List GSender × Bool) = _);rw[hd,getD_at hl,if_pos hq]
end
theorem ee (n:GNode) (nodes frm:Int) (m:GMsg):nodeHearOk n nodes frm m = (nodeOk n nodes && msgOk m && (inR nodes 1 4 && inR frm 0 (IntKind.wrap .i64 (nodes - 1)))):=by
 unfold nodeHearOk;cases hh:nodeOk n nodes with
 | false=>rfl
 | true =>
  have hn:1 ≤ nodes ∧ nodes ≤ 4:=by
   unfold nodeOk nodeHd at hh;simp only[Bool.and_eq_true,am] at hh;exact hh.1.1.1.1.1.1.1.1.1
  rw[ap (show -9223372036854775808 ≤ nodes - 1 by omega) (by omega),(am nodes 1 4).2 hn];rfl
def outAt (w:GWorld) (d:GDeed):GSender:=(nodeAtI w d.a).out.getD d.b.toNat zSender
def sendAt (w:GWorld) (d:GDeed):GWorld × Int :=
 if inR d.c 0 (((outAt w d).queue.length:Int) - 1) = true then wPut w ⟨d.a,d.b,false,(outAt w d).base + d.c,(outAt w d).queue.getD d.c.toNat zMsg⟩ else (w,3)
theorem qB {w:GWorld} {d:GDeed} (h:¬ (0 ≤ d.c ∧ d.c < ((outAt w d).queue.length:Int))):sendAt w d = (w,3):=by
 unfold sendAt;rw[if_neg];rw[am];omega
theorem sv {w:GWorld} {d:GDeed} (h:0 ≤ d.c ∧ d.c < ((outAt w d).queue.length:Int)) {c:Nat} (hc:d.c = (c:Int)) (hl:c < (outAt w d).queue.length):sendAt w d = if w.net.length = 40 then (w,4) else (⟨w.size,w.nodes,w.net ++ [⟨d.a,d.b,false,(outAt w d).base + d.c,(outAt w d).queue[c]⟩]⟩,0):=by
 unfold sendAt;rw[if_pos ((am _ _ _).2 (by omega)),show d.c.toNat = c by omega,getD_at hl];unfold wPut;split <;> rfl
section
variable {v:Bool} {w:GWorld} {p:GPacket} {t fr:Nat}
theorem aY {i:Int} (ht:i.toNat = t) (hl:t < w.nodes.length):nodeAtI w i = w.nodes[t]:=by unfold nodeAtI;rw[ht,getD_at hl]
theorem kZ (h:p.ack = true) (ht:p.to.toNat = t) (hl:t < w.nodes.length) (hf:p.from_.toNat = fr) (hfl:fr < w.nodes[t].out.length) :
  wGive v w p = ⟨w.size,w.nodes.set t ⟨w.nodes[t].id,w.nodes[t].frames,w.nodes[t].homes,w.nodes[t].out.set fr (acked w.nodes[t].out[fr] p.n),w.nodes[t].in_⟩,w.net⟩ ∧ heardB v w p = false:=by
 refine ⟨?_,by unfold heardB;rw[h];rfl⟩
 unfold wGive setOut
 rw[if_pos h,aY ht hl,ht,hf,getD_at hfl]
theorem dH (h:p.ack = false) (ht:p.to.toNat = t) (hl:t < w.nodes.length) (hf:p.from_.toNat = fr) (hfl:fr < w.nodes[t].in_.length) (ha:arrB w.nodes[t].in_[fr] p.n = false):wGive v w p = w ∧ heardB v w p = false:=by
 (have hb:heardB v w p = false:=by unfold heardB;rw[aY ht hl,hf,getD_at hfl,ha];simp);refine ⟨?_,hb⟩;unfold wGive;rw[if_neg (by simp[h]),if_neg (by simp[hb])]
theorem cI (h:p.ack = false) (ht:p.to.toNat = t) (hl:t < w.nodes.length) (hn:(nodeHear v w.nodes[t] w.size p.from_ p.msg).2 = false):wGive v w p = w ∧ heardB v w p = false:=by
 (have hb:heardB v w p = false:=by unfold heardB;rw[aY ht hl,hn,Bool.and_false]);refine ⟨?_,hb⟩;unfold wGive;rw[if_neg (by simp[h]),if_neg (by simp[hb])]
theorem ck (h:p.ack = false) (ht:p.to.toNat = t) (hl:t < w.nodes.length) (hf:p.from_.toNat = fr) (hfl:fr < w.nodes[t].in_.length) (ha:arrB w.nodes[t].in_[fr] p.n = true) (hn:(nodeHear v w.nodes[t] w.size p.from_ p.msg).2 = true) :
  wGive v w p = ⟨w.size,w.nodes.set t ⟨(nodeHear v w.nodes[t] w.size p.from_ p.msg).1.id,(nodeHear v w.nodes[t] w.size p.from_ p.msg).1.frames,(nodeHear v w.nodes[t] w.size p.from_ p.msg).1.homes,(nodeHear v w.nodes[t] w.size p.from_ p.msg).1.out,(nodeHear v w.nodes[t] w.size p.from_ p.msg).1.in_.set fr (arrR w.nodes[t].in_[fr] p.n)⟩,w.net⟩ ∧ heardB v w p = true:=by
 have hb:heardB v w p = true:=by unfold heardB;rw[aY ht hl,hf,getD_at hfl,ha,hn,h];rfl
 refine ⟨?_,hb⟩
 unfold wGive heardN
 rw[if_neg (by simp[h]),if_pos hb,aY ht hl,ht,hf,getD_at hfl]
end
theorem ib {v:Bool} {n:GNode} {nodes frm:Int} {m:GMsg}:(nodeHear v n nodes frm m).1.in_ = n.in_:=by
 unfold nodeHear;split
 ·split
  ·(show (nodeGot v n nodes frm m).1.in_ = n.in_);unfold nodeGot;split
   ·split <;> rfl
   ·split <;> rfl
  ·rfl
 ·rfl
theorem aI (es:Els) (a:Nat) (x:List T):(es.set a x).take a = es.take a:=by
 rw[List.take_set];exact List.set_eq_of_length_le (by simp;omega)
theorem aJ (es:Els) (a:Nat) (x:List T):(es.set a x).drop (a + 1) = es.drop (a + 1):=by
 rw[List.drop_set];simp
theorem bJ {E H Z:Els} {k m:Nat} (h:E.length = k) (hm:m = k):List.take k (List.take m (E ++ H) ++ Z) = E:=by
 subst hm;rw[← h,List.take_left,List.take_left]
theorem ki {α:Type} {p:α → Bool} {xs:List α} {i:Nat} {y:α} (h:xs.all p = true) (hy:p y = true):(xs.set i y).all p = true:=by
 rw[List.all_eq_true] at *;intro x hx;rcases List.mem_or_eq_of_mem_set hx with hx | rfl
 ·exact h x hx
 ·exact hy
theorem vM {α:Type} {p:α → Bool} {xs:List α} {y:α} (h:xs.all p = true) (hy:p y = true):(xs ++ [y]).all p = true:=by
 rw[List.all_append,h];simp[hy]
theorem la {s:GSender} {m:GMsg} (h:senderOk s = true):senderOk (queueS s m) = true:=by
 cases hq:queueB s m with
 | false=>rw[ir hq];exact h
 | true =>
  rw[gf hq];obtain ⟨-,h2,h3,h4⟩:=is hq;have h0:=h;unfold senderOk sendHd at h ⊢;simp only[Bool.and_eq_true,decide_eq_true_eq] at h ⊢;obtain ⟨⟨⟨a1,a2⟩,a3⟩,a4⟩:=h;have hb:=(am _ _ _).1 a1;(have hl:((s.queue ++ [m]).length:Int) = (s.queue.length:Int) + 1:=by simp);refine ⟨⟨⟨a1,by rw[hl];omega⟩,?_⟩,vM a4 h2⟩;rw[hl,ap (by omega) (by omega)];omega
theorem qC {s:GSender} {n:Int} (h:senderOk s = true):senderOk (acked s n) = true:=by
 unfold acked;split
 ·rename_i hc
  obtain ⟨-,h1,h2⟩:=hc;have h0:=bh h;have hw:=cH h;unfold senderOk sendHd at h ⊢;simp only[Bool.and_eq_true,decide_eq_true_eq] at h ⊢;obtain ⟨⟨⟨a1,a2⟩,a3⟩,a4⟩:=h;rw[hw] at a3;(have hl:((s.queue.drop (n - s.base).toNat).length:Int) = s.base + s.queue.length - n:=by simp;omega);refine ⟨⟨⟨(am _ _ _).2 (by omega),by rw[hl];omega⟩,?_⟩,?_⟩
  ·rw[hl,ap (by omega) (by omega)];omega
  ·rw[List.all_eq_true] at *
   exact fun x hx=>a4 x (List.mem_of_mem_drop hx)
 ·exact h
theorem sV {r:GReceiver} {n:Int} (h:gotOk r = true):gotOk (arrR r n) = true:=by
 unfold arrR;split
 ·rename_i hb
  unfold arrB at hb;simp only[Bool.and_eq_true,am] at hb;unfold gotOk;exact (am _ _ _).2 (by simp only;omega)
 ·exact h
theorem oO {f:GFrame} {m:GMsg} (h:frameOk f = true):frameOk (frameHear f m).1 = true ∧ ((frameHear f m).2.2 = true → msgOk (frameHear f m).2.1 = true):=by
 unfold frameHear;split
 ·rename_i hc
  have hm:=hc.2;(have hpg:inR m.page 0 5 = true:=by unfold msgOk msgHd at hm;simp only[Bool.and_eq_true] at hm;exact hm.1.1.2);have hp2:=(am _ _ _).1 hpg;split
  ·rename_i h3
   refine ⟨?_,fun h=>by cases h⟩
   have hw:wordsOk m.list 4 = true:=by
    unfold msgOk at hm;rw[if_pos (Or.inl h3)] at hm;simp only[Bool.and_eq_true] at hm;exact hm.2
   cases ho:m.own
   ·simp[frameOk,inR,hw]
   ·simp[frameOk,inR,hw]
  ·split
   ·refine ⟨by simp[frameOk],fun _=>?_⟩;simp[msgOk,msgHd,inR,wordsOk,hp2.1,hp2.2]
   ·split
    ·rename_i h6
     have hw:wordsOk f.list 4 = true:=by
      rw[cL (by omega)] at h;simp only[Bool.and_eq_true] at h;exact h.2
     refine ⟨?_,fun _=>?_⟩
     ·cases ho:m.own
      ·simp[frameOk,inR,hw]
      ·simp[frameOk]
     ·simp[msgOk,msgHd,inR,hw,hp2.1,hp2.2]
    ·exact ⟨h,fun h=>by cases h⟩
 ·exact ⟨h,fun h=>by cases h⟩
section
variable {x:GNode} {n:Int}
theorem gg {d:Nat} {s:GSender} (h:nodeOk x n = true) (hs:senderOk s = true):nodeOk { x with out:=x.out.set d s } n = true:=by
 unfold nodeOk nodeHd at *;simp only[Bool.and_eq_true,List.length_set] at *;exact ⟨⟨h.1.1,ki h.1.2 hs⟩,h.2⟩
theorem gh {p:Nat} {f:GFrame} (h:nodeOk x n = true) (hf:frameOk f = true):nodeOk { x with frames:=x.frames.set p f } n = true:=by
 unfold nodeOk nodeHd at *;simp only[Bool.and_eq_true,List.length_set] at *;exact ⟨⟨⟨⟨h.1.1.1.1,ki h.1.1.1.2 hf⟩,h.1.1.2⟩,h.1.2⟩,h.2⟩
theorem lB {p:Nat} {k:GHome} (h:nodeOk x n = true) (hk:homeOk k n = true):nodeOk { x with homes:=x.homes.set p k } n = true:=by
 unfold nodeOk nodeHd at *;simp only[Bool.and_eq_true,List.length_set] at *;exact ⟨⟨⟨h.1.1.1,ki h.1.1.2 hk⟩,h.1.2⟩,h.2⟩
theorem oc {d:Nat} {r:GReceiver} (h:nodeOk x n = true) (hr:gotOk r = true):nodeOk { x with in_:=x.in_.set d r } n = true:=by
 unfold nodeOk nodeHd at *;simp only[Bool.and_eq_true,List.length_set] at *;exact ⟨h.1,ki h.2 hr⟩
theorem sW {page:Int} {own:Bool} (h:nodeOk x n = true):nodeOk (want x n page own) n = true:=by
 cases hk:wantOk x n page own with
 | false=>rw[cn hk];exact h
 | true =>
  rcases jg x n page with h1 | ⟨-,h1⟩ | ⟨k1,k2,p,d,e1,e2,e3,e4,e5,e6,-⟩
  ·rw[jh h1] at hk;cases hk
  ·rw[ji h1] at hk;cases hk
  ·rw[dt hk (by omega) e2 e4 e3];obtain ⟨-,-,-,-,f1,-,f3,-⟩:=aH h;have a:=gg (d:=d) h (la (m:=wantMsg page own) (f3 d e3));have hf:frameOk ⟨x.frames[p].state,x.frames[p].list,true⟩ = true:=f1 p e2;exact gh (p:=p) a hf
end
structure KpO (N:Nat) (q:Kp):Prop where
 words:wordsOk q.h.list 4 = true
 owner:-1 ≤ q.h.owner ∧ q.h.owner < (N:Int)
 who:0 ≤ q.h.now.who ∧ q.h.now.who < (N:Int)
 readers:q.h.readers.length = N
 acks:0 ≤ q.h.acks ∧ q.h.acks ≤ (N:Int)
 len:q.h.queue.length ≤ 12
 queue:∀ w ∈ q.h.queue,0 ≤ w.who ∧ w.who < (N:Int)
section
variable {N:Nat} {q:Kp} {page:Int}
theorem KpO.give (h:KpO N q) (hN:0 < N):KpO N (kGive page q):=by
 refine ⟨h.words,?_,⟨Int.le_refl _,by simp only[kGive,zWait];omega⟩,by simp only[kGive,List.length_set];exact h.readers,h.acks,h.len,h.queue⟩;simp only[kGive];split
 ·have:=h.who;omega
 ·exact h.owner
theorem KpO.begin_ (h:KpO N q) (hN:0 < N) {w:GWait} {qs:List GWait} (hq:q.h.queue = w :: qs):KpO N (kBegin page q):=by
 have hw:=h.queue w (by rw[hq];simp);have hqs:∀ x ∈ qs,0 ≤ x.who ∧ x.who < (N:Int):=fun x hx=>h.queue x (by rw[hq];exact List.mem_cons_of_mem _ hx);(have hl:qs.length ≤ 12:=by have:=h.len;rw[hq,List.length_cons] at this;omega);by_cases ho:0 ≤ q.h.owner
 ·rw[du hq ho];exact ⟨h.words,h.owner,hw,h.readers,h.acks,hl,hqs⟩
 ·rw[dU hq ho];obtain ⟨e1,e2,e3,e4,e5,e6,e7,e8,e9⟩:=fF (page:=page) q.h.readers.length hq;have h1:KpO N (q.g page q.h.readers.length):=⟨by rw[e1];exact h.words,by rw[e2];exact h.owner,by rw[e4];exact hw,e6.trans h.readers,⟨e8,by rw[h.readers] at e9;rw[h.readers];exact e9⟩,by rw[e5];exact hl,by rw[e5];exact hqs⟩;split
  ·exact h1.give hN
  ·exact h1
theorem KpO.next (hN:0 < N):∀ (n:Nat) (q:Kp),KpO N q → KpO N (kNext page n q)
 | 0,_,h=>h
 | n + 1,q,h=>by
  unfold kNext
  split
  ·rename_i hc
   obtain ⟨w,qs,hq⟩:∃ w qs,q.h.queue = w :: qs:=by
    cases hx:q.h.queue with
    | nil=>rw[hx] at hc;simp at hc
    | cons w qs=>exact ⟨w,qs,rfl⟩
   exact KpO.next hN n _ (h.begin_ hN hq)
  ·exact h
theorem KpO.of {h:GHome} {nodes:Int} (hk:homeOk h nodes = true) (hN:nodes = (N:Int)):KpO N ⟨h,[]⟩:=by
 obtain ⟨k0,l2,l3,l4,l5,l6,l7,l8⟩:=bL hk
 have hw:wordsOk h.list 4 = true:=by
  unfold homeOk homeHd at hk;simp only[Bool.and_eq_true] at hk;exact hk.1.1.1.1.1.1.2
 refine ⟨hw,by simp only;omega,by simp only;omega,by simp only;omega,by simp only;omega,l7,fun w hw=>?_⟩;have hw2:w ∈ h.queue:=hw;obtain ⟨i,hi,rfl⟩:=List.getElem_of_mem hw2;have:=l8 i hi;omega
theorem KpO.ok (h:KpO N q) {nodes:Int} (hN:nodes = (N:Int)) (hn:1 ≤ nodes ∧ nodes ≤ 4):homeOk q.h nodes = true:=by
 have hwn:IntKind.wrap .i64 (nodes - 1) = nodes - 1:=ap (by omega) (by omega);have h2:=h.owner;have h3:=h.who;have h4:=h.readers;have h5:=h.acks;have h6:=h.len;refine ln ?_ fun j hj=>?_
 ·unfold homeHd wofN;simp only[Bool.and_eq_true,decide_eq_true_eq,am,hwn];exact ⟨⟨⟨⟨⟨⟨hn,h.words⟩,by omega⟩,by omega⟩,by omega⟩,by omega⟩,by omega⟩
 ·have:=h.queue _ (List.getElem_mem hj);unfold wofN;rw[hwn,am];omega
theorem lC {v:Bool} {h:GHome} {nodes frm:Int} {m:GMsg} (hk:homeOk h nodes = true):homeOk (homeHear v h nodes page frm m).1 nodes = true:=by
 cases ho:hearOk h nodes page frm m with
 | false=>rw[dV ho];exact hk
 | true =>
  cases hs':kHear v page frm m ⟨h,[]⟩ with
  | none=>rw[cQ hs'];exact hk
  | some k =>
   rw[cR ho hs'];obtain ⟨k1,k2,k3,k4,k5⟩:=dv ho;obtain ⟨N,hN⟩:∃ N:Nat,nodes = (N:Int):=⟨nodes.toNat,by omega⟩;have hb:=KpO.of k1 hN;(have h0:0 < N:=by omega);have b5:=hb.acks
   have hT:KpO N k:=by
    unfold kHear at hs';split at hs'
    ·split at hs'
     ·cases hs'
     ·rename_i hl
      cases hs'
      have hl2:=hb.len;refine ⟨hb.words,hb.owner,hb.who,hb.readers,hb.acks,?_,fun w hw=>?_⟩
      ·simp only[List.length_append,List.length_cons,List.length_nil] at hl hl2 ⊢;omega
      ·rcases List.mem_append.1 hw with hw | hw
       ·exact hb.queue w hw
       ·obtain rfl:=List.mem_singleton.1 hw;simp only;omega
    ·split at hs'
     ·split at hs'
      ·rename_i hc
       have hc2:0 < h.acks:=hc.2;(have b6:(0:Int) ≤ h.acks - 1 ∧ h.acks - 1 ≤ (N:Int):=by simp only at b5;omega);split at hs'
       ·cases hs'
        exact KpO.give ⟨hb.words,hb.owner,hb.who,hb.readers,b6,hb.len,hb.queue⟩ h0
       ·cases hs'
        exact ⟨hb.words,hb.owner,hb.who,hb.readers,b6,hb.len,hb.queue⟩
      ·cases hs'
     ·split at hs'
      ·rename_i h7
       split at hs'
       ·cases hs'
        have hw:wordsOk m.list 4 = true:=by
         unfold msgOk at k2;rw[if_pos (Or.inr h7)] at k2;simp only[Bool.and_eq_true] at k2;exact k2.2
        refine KpO.give ⟨hw,by simp only;omega,hb.who,?_,hb.acks,hb.len,hb.queue⟩ h0;simp only[backR];split
        ·exact hb.readers
        ·rw[List.length_set];exact hb.readers
       ·cases hs'
      ·cases hs'
   exact (KpO.next h0 _ _ hT).ok hN k3
end
theorem kj:∀ (ts:List GTold) (out:List GSender),out.all senderOk = true → (tellRun ts out).1.all senderOk = true ∧ (tellRun ts out).1.length = out.length
 | [],out,h=>⟨h,rfl⟩
 | t :: ts,out,h=>by
  unfold tellRun
  split
  ·have h2:(out.set t.to.toNat (queueS (out.getD t.to.toNat zSender) t.msg)).all senderOk = true:=by
    by_cases hd:t.to.toNat < out.length
    ·refine ki h (la ?_)
     rw[getD_at hd]
     exact hX h hd
    ·rw[List.set_eq_of_length_le (by omega)];exact h
   obtain ⟨a,b⟩:=kj ts _ h2
   exact ⟨a,b.trans (List.length_set ..)⟩
  ·exact ⟨h,rfl⟩
section
variable {v:Bool} {x:GNode} {nodes frm:Int} {m:GMsg}
theorem qD {o:List GSender} (h:nodeOk x nodes = true) (hl:o.length = x.out.length) (ho:o.all senderOk = true):nodeOk { x with out:=o } nodes = true:=by
 unfold nodeOk nodeHd at *;simp only[Bool.and_eq_true,hl] at *;exact ⟨⟨h.1.1,ho⟩,h.2⟩
theorem sw (h:nodeOk x nodes = true):x.out.all senderOk = true:=by
 unfold nodeOk at h;simp only[Bool.and_eq_true] at h;exact h.1.2
theorem lD (h:nodeOk x nodes = true):nodeOk (nodeHear v x nodes frm m).1 nodes = true:=by
 cases hk:nodeHearOk x nodes frm m with
 | false=>rw[en hk];exact h
 | true =>
  obtain ⟨k1,k2,k3,k4,k5⟩:=bZ hk;obtain ⟨l1,l2,l3,l4,l5,l6,l7,l8⟩:=aH h;by_cases hh:homeKind m
  ·by_cases hp:m.page % nodes = x.id
   ·rw[bt hk hh hp];split
    ·have e1:m.page.toNat < x.homes.length:=by omega
     have hhome:homeOk (hhAt v x nodes frm m).1 nodes = true:=by
      unfold hhAt;rw[getD_at e1];exact lC (l6 _ e1)
     obtain ⟨t1,t2⟩:=kj (hhAt v x nodes frm m).2 x.out (sw h);exact qD (lB (p:=m.page.toNat) h hhome) t2 t1
    ·exact h
   ·rw[co hk (fun _=>hp) (fun q=>absurd hh q)];exact h
  ·by_cases hp:m.page % nodes = frm
   ·rw[eQ hk hh hp];split
    ·have e1:m.page.toNat < x.frames.length:=by omega
     have hf:frameOk (fhAt x m).1 = true:=by
      unfold fhAt;rw[getD_at e1];exact (oO (l5 _ e1)).1
     have a:=gh (p:=m.page.toNat) h hf;unfold toFrameN;(show nodeOk ⟨x.id,x.frames.set m.page.toNat (fhAt x m).1,x.homes,(if _ then _ else _),x.in_⟩ nodes = true);split
     ·(have e2:frm.toNat < x.out.length:=by omega);(have hs0:senderOk (x.out.getD frm.toNat zSender) = true:=by rw[getD_at e2];exact l7 _ e2);have hs:senderOk (queueS (x.out.getD frm.toNat zSender) (fhAt x m).2.1) = true:=la hs0;have b:=gg (x:=⟨x.id,x.frames.set m.page.toNat (fhAt x m).1,x.homes,x.out,x.in_⟩) (d:=frm.toNat) (s:=queueS (x.out.getD frm.toNat zSender) (fhAt x m).2.1) a hs;exact b
     ·exact a
    ·exact h
   ·rw[co hk (fun q=>absurd q hh) (fun _=>hp)];exact h
end
structure WOk (w:GWorld):Prop where
 size:1 ≤ w.size ∧ w.size ≤ 4
 len:(w.nodes.length:Int) = w.size
 net:w.net.length ≤ 40
 node:∀ i,(hi:i < w.nodes.length) → nodeOk w.nodes[i] w.size = true ∧ w.nodes[i].id = (i:Int)
 pkt:∀ p ∈ w.net,packetOk p w.size = true
theorem lE (w:GWorld):worldOk w = true ↔ WOk w:=by
 constructor
 ·intro h;obtain ⟨h1,h2⟩:=iG h;obtain ⟨a,b,c⟩:=dO h1;refine ⟨a,b,c,fun i hi=>?_,fun p hp=>?_⟩
  ·have:=sp h2 hi;unfold nodeAt at this;simp only[Bool.and_eq_true,decide_eq_true_eq] at this;exact this
  ·unfold worldOk at h;simp only[Bool.and_eq_true,List.all_eq_true] at h;exact h.2 p hp
 ·rintro ⟨a,b,c,d,e⟩;refine jZ ?_ (gb fun j hj=>?_) fun j hj=>e _ (List.getElem_mem hj)
  ·unfold worldHd;simp only[Bool.and_eq_true,decide_eq_true_eq];exact ⟨⟨(am _ _ _).2 a,b⟩,by omega⟩
  ·unfold nodeAt;simp only[Bool.and_eq_true,decide_eq_true_eq];exact d j hj
section
variable {w:GWorld}
theorem WOk.setNode (h:WOk w) {t:Nat} {x:GNode} (hx:nodeOk x w.size = true) (hid:x.id = (t:Int)):WOk { w with nodes:=w.nodes.set t x }:=by
 refine ⟨h.size,by simp only[List.length_set];exact h.len,h.net,fun i hi=>?_,h.pkt⟩;simp only[List.length_set] at hi;by_cases e:t = i
 ·subst e;simp only[List.getElem_set_self];exact ⟨hx,hid⟩
 ·simp only[List.getElem_set_ne e];exact h.node i hi
theorem WOk.setNet (h:WOk w) {ps:List GPacket} (hl:ps.length ≤ 40) (hp:∀ p ∈ ps,packetOk p w.size = true):WOk { w with net:=ps }:=⟨h.size,h.len,hl,h.node,hp⟩
theorem WOk.cut (h:WOk w) (i:Nat):WOk { w with net:=netCut w.net i }:=by
 refine h.setNet ?_ fun p hp=>h.pkt p ?_
 ·have:=h.net;unfold netCut;simp;omega
 ·unfold netCut at hp;rcases List.mem_append.1 hp with hp | hp
  ·exact List.mem_of_mem_take hp
  ·exact List.mem_of_mem_drop hp
theorem WOk.put (h:WOk w) {p:GPacket} (hp:packetOk p w.size = true):WOk (wPut w p).1:=by
 unfold wPut;split
 ·exact h
 ·refine h.setNet ?_ fun q hq=>?_
  ·have:=h.net;simp;omega
  ·rcases List.mem_append.1 hq with hq | hq
   ·exact h.pkt q hq
   ·obtain rfl:=List.mem_singleton.1 hq;exact hp
theorem gi {p:GPacket} {n:Int} (h:packetOk p n = true) (hn:1 ≤ n ∧ n ≤ 4):(0 ≤ p.from_ ∧ p.from_ < n) ∧ (0 ≤ p.to ∧ p.to < n):=by
 unfold packetOk packetHd wofN at h;simp only[Bool.and_eq_true,am] at h;rw[ap (show -9223372036854775808 ≤ n - 1 by omega) (by omega)] at h;obtain ⟨⟨⟨⟨-,a⟩,b⟩,-⟩,-⟩:=h;exact ⟨by omega,by omega⟩
theorem nodeHear_id {v:Bool} {n:GNode} {nodes frm:Int} {m:GMsg}:(nodeHear v n nodes frm m).1.id = n.id:=by
 unfold nodeHear;split
 ·split
  ·(show (nodeGot v n nodes frm m).1.id = n.id);unfold nodeGot;split
   ·split <;> rfl
   ·split <;> rfl
  ·rfl
 ·rfl
theorem WOk.give {v:Bool} (h:WOk w) {p:GPacket} (hp:packetOk p w.size = true):WOk (wGive v w p):=by
 obtain ⟨hf,ht⟩:=gi hp h.size;have hl:=h.len;(have e1:p.to.toNat < w.nodes.length:=by omega);obtain ⟨n1,n2⟩:=h.node _ e1;obtain ⟨-,-,l3,l4,-,-,l7,l8⟩:=aH n1;(have e2:p.from_.toNat < w.nodes[p.to.toNat].out.length:=by omega);(have e3:p.from_.toNat < w.nodes[p.to.toNat].in_.length:=by omega);have hna:nodeAtI w p.to = w.nodes[p.to.toNat]:=aY rfl e1;unfold wGive;split
 ·rw[hna];unfold setOut;refine h.setNode ?_ n2;have hs:senderOk (acked (w.nodes[p.to.toNat].out.getD p.from_.toNat zSender) p.n) = true:=qC (by rw[getD_at e2];exact l7 _ e2);have b:=gg (x:=w.nodes[p.to.toNat]) (d:=p.from_.toNat) (s:=acked (w.nodes[p.to.toNat].out.getD p.from_.toNat zSender) p.n) n1 hs;exact b
 ·split
  ·unfold heardN;rw[hna];refine h.setNode ?_ (nodeHear_id.trans n2);have hr:gotOk (arrR (w.nodes[p.to.toNat].in_.getD p.from_.toNat ⟨0⟩) p.n) = true:=sV (by rw[getD_at e3];exact l8 _ e3);have b:=oc (x:=(nodeHear v w.nodes[p.to.toNat] w.size p.from_ p.msg).1) (d:=p.from_.toNat) (r:=arrR (w.nodes[p.to.toNat].in_.getD p.from_.toNat ⟨0⟩) p.n) (lD n1) hr;exact b
  ·exact h
end
section
variable {w:GWorld} {d:GDeed} {v:Bool}
theorem oP {a n:Int} (h:0 ≤ a ∧ a < n) (hn:1 ≤ n ∧ n ≤ 4):wofN a n = true:=by
 unfold wofN;rw[ap (show -9223372036854775808 ≤ n - 1 by omega) (by omega),am];omega
theorem WOk.line (h:WOk w) (ha:0 ≤ d.a ∧ d.a < w.size):WOk (wLine w d).1:=by
 have hl:=h.len;(have e1:d.a.toNat < w.nodes.length:=by omega);obtain ⟨n1,-⟩:=h.node _ e1;obtain ⟨-,-,l3,l4,-,-,l7,l8⟩:=aH n1;have hna:nodeAtI w d.a = w.nodes[d.a.toNat]:=aY rfl e1;unfold wLine;split
 ·rename_i hb
  rw[am] at hb;(have hb2:0 ≤ d.b ∧ d.b < w.size:=by omega);(have e2:d.b.toNat < w.nodes[d.a.toNat].out.length:=by omega);(have e3:d.b.toNat < w.nodes[d.a.toNat].in_.length:=by omega);split
  ·split
   ·rename_i hc
    rw[hna,getD_at e2,am] at hc;have hs:=l7 _ e2;obtain ⟨s1,s2,s3⟩:=bh hs;(have e4:d.c.toNat < w.nodes[d.a.toNat].out[d.b.toNat].queue.length:=by omega);have hm:=s3 _ e4
    have hN:w.nodes[d.a.toNat].out[d.b.toNat].base + d.c ≤ 100000:=by
     have hw:=cH hs;unfold senderOk sendHd at hs;simp only[Bool.and_eq_true,decide_eq_true_eq] at hs;rw[hw] at hs;omega
    rw[hna,getD_at e2,getD_at e4];refine h.put ?_;rw[ga ?_ rfl]
    ·exact hm
    ·unfold packetHd;simp only[Bool.and_eq_true];exact ⟨⟨⟨(am _ _ _).2 h.size,oP ha h.size⟩,oP hb2 h.size⟩,(am _ _ _).2 (by omega)⟩
   ·exact h
  ·have hg:=l8 _ e3;unfold gotOk at hg;rw[hna,getD_at e3];refine h.put ?_;rw[fZ ?_ rfl]
   ·rfl
   ·unfold packetHd;simp only[Bool.and_eq_true];exact ⟨⟨⟨(am _ _ _).2 h.size,oP ha h.size⟩,oP hb2 h.size⟩,hg⟩
 ·exact h
theorem WOk.netDo (h:WOk w):WOk (wNet v w d).1:=by
 unfold wNet;split
 ·rename_i ha
  rw[am] at ha;(have e1:d.a.toNat < w.net.length:=by omega);have hp:=h.pkt _ (List.getElem_mem e1);rw[getD_at e1];split
  ·split
   ·exact h
   ·refine h.setNet ?_ fun q hq=>?_
    ·have:=h.net;simp;omega
    ·rcases List.mem_append.1 hq with hq | hq
     ·exact h.pkt q hq
     ·obtain rfl:=List.mem_singleton.1 hq;exact hp
  ·split
   ·exact h.cut _
   ·exact (h.cut d.a.toNat).give hp
 ·exact h
theorem want_id {x:GNode} {n page:Int} {own:Bool}:(want x n page own).id = x.id:=by unfold want;split <;> rfl
theorem WOk.do_ (h:WOk w):WOk (wDo v w d).1:=by
 unfold wDo;split
 ·exact h.netDo
 ·split
  ·rename_i ha
   rw[am] at ha;split
   ·split
    ·have hl:=h.len;(have e1:d.a.toNat < w.nodes.length:=by omega);obtain ⟨n1,n2⟩:=h.node _ e1;rw[show nodeAtI w d.a = w.nodes[d.a.toNat] from aY rfl e1];exact h.setNode (sW n1) (want_id.trans n2)
    ·exact h
   ·exact h.line (by omega)
  ·exact h
end
theorem uy {b:GBlock} (h:blockOk b = true):pageOf b = b.start / 4:=if_pos h
theorem km {l:List GBlock} {fs fs':List GFrame} {P:Int} (h:cacheOk l fs = true) (hl:fs'.length = 6) (hf:fs'.all frameOk = true) (hs:∀ q:Nat,(q:Int) ≠ P → (fs'.getD q ⟨0,[],false⟩).list = (fs.getD q ⟨0,[],false⟩).list) :
  cacheOk (purge l P) fs' = true:=by
 unfold cacheOk at h ⊢
 simp only[Bool.and_eq_true,decide_eq_true_eq] at h ⊢
 obtain ⟨⟨⟨h1,h2⟩,h3⟩,h4⟩:=h
 have hp:=nV l P
 refine ⟨⟨⟨by omega,hl⟩,hf⟩,?_⟩
 rw[List.all_eq_true] at h4 ⊢
 intro b hb
 have hbl:=ur hb
 have hk:=h4 b hbl
 unfold bOk at hk ⊢
 simp only[Bool.and_eq_true,decide_eq_true_eq] at hk ⊢
 refine ⟨hk.1,?_⟩
 have hpg:pageOf b ≠ P:=by
  unfold purge at hb
  simpa using (List.mem_filter.1 hb).2
 rw[uy hk.1] at hpg
 have hst:=dN hk.1
 have e:(((b.start / 4).toNat:Nat):Int) = b.start / 4:=by omega
 rw[hs _ (by rw[e];exact hpg)]
 exact hk.2
theorem oQ {l:List GBlock} {fs fs':List GFrame} (h:cacheOk l fs = true) (hl:fs'.length = 6) (hf:fs'.all frameOk = true) (hs:∀ q:Nat,(fs'.getD q ⟨0,[],false⟩).list = (fs.getD q ⟨0,[],false⟩).list):cacheOk l fs' = true:=by
 unfold cacheOk at h ⊢;simp only[Bool.and_eq_true,decide_eq_true_eq] at h ⊢;obtain ⟨⟨⟨h1,h2⟩,h3⟩,h4⟩:=h;refine ⟨⟨⟨h1,hl⟩,hf⟩,?_⟩;rw[List.all_eq_true] at h4 ⊢;intro b hb;have hk:=h4 b hb;unfold bOk at hk ⊢;rw[hs];exact hk
theorem mf (x y:Int):(x != y) = !decide (x = y):=by rw[Bool.eq_iff_iff];simp
theorem bl {c:GCore} {n:GNode} {nodes:Int} (h:coreOkB c n nodes = true):nodeOk n nodes = true ∧ hartOk c.hart = true ∧ cacheOk c.cache n.frames = true:=by
 unfold coreOkB at h;simp only[Bool.and_eq_true] at h;exact h
theorem eR {x:Int} (h0:0 ≤ x) (h1:x ≤ 23) {n:GNode} (hf:n.frames.length = 6):∃ k r:Nat,∃ hk:k < n.frames.length,x.tdiv 4 = (k:Int) ∧ IntKind.wrap .i64 (k:Int) = (k:Int) ∧ x / 4 = (k:Int) ∧ x.tmod 4 = (r:Int) ∧ (x % 4).toNat = r ∧ r < 4 ∧ frameAtI n (x / 4) = n.frames[k] ∧ k ≤ 5 ∧ (x / 4).toNat = k ∧ IntKind.wrap .i64 (x.tdiv 4) = (k:Int):=by
 refine ⟨(x / 4).toNat,(x % 4).toNat,by omega,?_,ap (by omega) (by omega),by omega,?_,rfl,by omega,?_,by omega,rfl,?_⟩
 ·rw[bY h0];omega
 ·rw[ba h0];omega
 ·unfold frameAtI;rw[getD_at (by omega)]
 ·rw[bY h0,ap (by omega) (by omega)];omega
theorem fr_at {f:GFrame} {r:Nat} (h1:frameOk f = true) (h3:r < 4) (h:r < f.list.length):frV f (r:Int) = f.list[r]:=by
 have hl:f.list.length = 4:=by rcases eP h1 with h4 | h4 <;> omega
 have hk:frB f (r:Int) = true:=by
  unfold frB;rw[h1,ap (by omega) (by omega),(am _ _ _).2 (show (0:Int) ≤ r ∧ (r:Int) ≤ (f.list.length:Int) - 1 by omega)];rfl
 unfold frV;rw[if_pos hk];exact getD_at h
theorem fw_at {f:GFrame} {r:Nat} {w:Int} (h1:frameOk f = true) (h2:f.state = 2) (h3:r < 4) (h4:isW w = true):fwF f (r:Int) w = ⟨f.state,f.list.set r w,f.asked⟩:=by
 have hk:fwB f (r:Int) w = true:=by
  unfold fwB;rw[h1,(am _ _ _).2 (show (0:Int) ≤ r ∧ (r:Int) ≤ 3 by omega),(am _ _ _).2 ((oL _).1 h4)];simp[h2]
 unfold fwF;rw[if_pos hk];rfl
section
variable {c:GCore} {n:GNode} {nodes:Int}
theorem ko (h:coreOkB c n nodes = false):coreStep c n nodes = (zCore,zNode,1):=if_neg (by simp[h])
theorem fq (h:coreOkB c n nodes = true) (hs:¬ c.hart.state = 0):coreStep c n nodes = (c,n,2):=by
 unfold coreStep coreDo;rw[if_pos h,if_pos hs]
theorem eS (h:coreOkB c n nodes = true) (hs:c.hart.state = 0) (h1:(frameAtI n (c.hart.pc / 4)).state = 0):coreStep c n nodes = (c,want n nodes (c.hart.pc / 4) false,3):=by
 unfold coreStep coreDo;rw[if_pos h,if_neg (by simp[hs]),if_pos h1]
theorem eT (h:coreOkB c n nodes = true) (hs:c.hart.state = 0) (h1:¬ (frameAtI n (c.hart.pc / 4)).state = 0) (h2:0 ≤ csAt c n) (h3:lacks (frameAtI n (csAt c n / 4)) (csOwn c n) = true) :
  coreStep c n nodes = (⟨c.hart,csCache c n⟩,want n nodes (csAt c n / 4) (csOwn c n),3):=by
 unfold coreStep coreDo;rw[if_pos h,if_neg (by simp[hs]),if_neg h1,if_pos ⟨h2,h3⟩]
theorem cS (h:coreOkB c n nodes = true) (hs:c.hart.state = 0) (h1:¬ (frameAtI n (c.hart.pc / 4)).state = 0) (h2:0 ≤ csAt c n → lacks (frameAtI n (csAt c n / 4)) (csOwn c n) = false) :
  coreStep c n nodes = (csCore c n,csPut c n,0):=by
 unfold coreStep coreDo
 rw[if_pos h,if_neg (by simp[hs]),if_neg h1,if_neg]
 rintro ⟨h3,h4⟩
 rw[h2 h3] at h4;cases h4
theorem ic {f:GFrame} {own:Bool} (h:lacks f own = false) (hf:frameOk f = true):f.state ≠ 0 ∧ f.list.length = 4 ∧ (own = true → f.state = 2):=by
 unfold lacks at h;simp only[Bool.or_eq_false_iff,decide_eq_false_iff_not,Bool.and_eq_false_iff] at h;obtain ⟨h1,h2⟩:=h;rcases eP hf with h3 | h3
 ·exact absurd h3.1 h1
 ·refine ⟨h1,h3.2,fun ho=>?_⟩;rcases h2 with h2 | h2
  ·rw[ho] at h2;cases h2
  ·omega
theorem jj (hp:0 ≤ (csWork c n).2):0 ≤ csAt c n ∧ csOwn c n = true ∧ isW (csWork c n).2 = true:=by
 have h1:=vH (h:=c.hart) (x:=csIns c n) (got:=csGot c n) hp;have h2:=qe (h:=c.hart) (x:=csIns c n) (got:=csGot c n) hp;refine ⟨h1,?_,h2.2.2.2.2.2⟩;unfold csOwn;simp only[decide_eq_true_eq];rcases h2.2.2.2.2.1 with h3 | h3 <;> omega
theorem jk (c:GCore) (n:GNode):csAt c n = -1 ∨ (0 ≤ csAt c n ∧ csAt c n ≤ 23):=oI _ _
theorem jl (hp:0 ≤ (csWork c n).2) {k:Nat} (hk:csAt c n / 4 = (k:Int)):csCore c n = ⟨(csWork c n).1,purge (csCache c n) (k:Int)⟩:=by
 unfold csCore;rw[if_pos hp,hk]
theorem ie (hp:¬ 0 ≤ (csWork c n).2):csCore c n = ⟨(csWork c n).1,csCache c n⟩:=by
 unfold csCore;rw[if_neg hp]
theorem lb (hp:0 ≤ (csWork c n).2) {k r:Nat} (hk:(csAt c n / 4).toNat = k) (hl:k < n.frames.length) (hr:(csAt c n % 4).toNat = r) (hf:frameAtI n (csAt c n / 4) = n.frames[k]) :
  csPut c n = ⟨n.id,n.frames.set k ⟨n.frames[k].state,n.frames[k].list.set r (csWork c n).2,n.frames[k].asked⟩,n.homes,n.out,n.in_⟩:=by
 unfold csPut setFrame;rw[if_pos hp,hk,hr,hf]
theorem jm (hp:¬ 0 ≤ (csWork c n).2):csPut c n = n:=by unfold csPut;rw[if_neg hp]
theorem lF (h:cfB c.cache c.hart.pc = true):c.cache = csCache c n:=(if_pos h).symm
theorem kq (h:cfB c.cache c.hart.pc = false) {k:Nat} (hl:k < n.frames.length) (hf:frameAtI n (c.hart.pc / 4) = n.frames[k]):cacheAdd c.cache (blockOf n.frames[k].list c.hart.pc) = csCache c n:=by
 unfold csCache;rw[if_neg (by simp[h]),hf]
theorem lG (c:GCore) (n:GNode):(csCache c n).length ≤ max c.cache.length 5:=by
 unfold csCache;split
 ·omega
 ·exact ei _ _
theorem oR {n:GNode} {p:Int} {m:Nat} (h:∀ a ∈ n.frames,a.list.length ≤ m):(frameAtI n p).list.length ≤ m:=by
 unfold frameAtI;by_cases hp:p.toNat < n.frames.length
 ·rw[getD_at hp];exact h _ (List.getElem_mem hp)
 ·rw[List.getD_eq_getElem?_getD,List.getElem?_eq_none (by omega)];exact Nat.zero_le _
theorem iI (hc:∀ a ∈ c.cache,a.small) (hn:n.small):∀ a ∈ csCache c n,a.small:=by
 intro a ha;unfold csCache at ha;split at ha
 ·exact hc a ha
 ·rcases ej ha with h | h
  ·exact hc a h
  ·rw[h];unfold GBlock.small;refine fg (oR fun f hf=>?_);have:=hn.2.1 f hf;exact this
end
theorem qE {l:List GBlock} {fs:List GFrame} {s:Int} (h:cacheOk l fs = true):cacheOk (cacheAdd l (blockOf (fs.getD (s / 4).toNat ⟨0,[],false⟩).list s)) fs = true:=by
 cases hb:blockOk (blockOf (fs.getD (s / 4).toNat ⟨0,[],false⟩).list s) with
 | false=>rw[hD hb];exact h
 | true =>
  have hst:(blockOf (fs.getD (s / 4).toNat ⟨0,[],false⟩).list s).start = s:=by
   unfold blockOf at hb ⊢;split
   ·rfl
   ·rename_i hc
    rw[if_neg hc] at hb;have:=(dF hb).2.1;simp at this
  unfold cacheOk at h ⊢;simp only[Bool.and_eq_true,decide_eq_true_eq] at h ⊢;obtain ⟨⟨⟨h1,h2⟩,h3⟩,h4⟩:=h;have hl:=ei l (blockOf (fs.getD (s / 4).toNat ⟨0,[],false⟩).list s);refine ⟨⟨⟨by omega,h2⟩,h3⟩,?_⟩;rw[List.all_eq_true] at h4 ⊢;intro b hm;rcases ej hm with hm | rfl
  ·exact h4 b hm
  ·unfold bOk;simp only[Bool.and_eq_true,decide_eq_true_eq];exact ⟨hb,by rw[hst]⟩
theorem jn {c:GCore} {n:GNode} (h:cacheOk c.cache n.frames = true):cacheOk (csCache c n) n.frames = true:=by
 unfold csCache;split
 ·exact h
 ·exact qE h
theorem sx {n:GNode} {nodes page:Int} {own:Bool} (q:Nat):((want n nodes page own).frames.getD q ⟨0,[],false⟩).list = (n.frames.getD q ⟨0,[],false⟩).list:=by
 unfold want;split
 ·(show ((n.frames.set page.toNat _).getD q _).list = _);simp only[List.getD_eq_getElem?_getD,List.getElem?_set];split
  ·rename_i e
   subst e;split
   ·rename_i hl
    simp[hl]
   ·rename_i hl
    rw[List.getElem?_eq_none (by omega)]
  ·rfl
 ·rfl
theorem dP {n:GNode} {nodes:Int} (h:nodeOk n nodes = true):n.frames.length = 6 ∧ n.frames.all frameOk = true:=by
 refine ⟨(aH h).1,?_⟩;unfold nodeOk at h;simp only[Bool.and_eq_true] at h;exact h.1.1.1.2
theorem dI {c:GCore} {n:GNode} {nodes:Int} (h1:nodeOk n nodes = true) (h2:hartOk c.hart = true) (h3:cacheOk c.cache n.frames = true):coreOkB c n nodes = true:=by
 unfold coreOkB;rw[h1,h2,h3];rfl
theorem ig {c:GCore} {n:GNode} {nodes page:Int} {own:Bool} (h1:nodeOk n nodes = true) (h2:hartOk c.hart = true) (h3:cacheOk c.cache n.frames = true):coreOkB c (want n nodes page own) nodes = true:=by
 have hw:=sW (page:=page) (own:=own) h1;obtain ⟨a,b⟩:=dP hw;exact dI hw h2 (oQ h3 a b sx)
section
variable {c:GCore} {n:GNode} {nodes:Int}
theorem qF (h:coreOkB c n nodes = true):coreOkB (coreStep c n nodes).1 (coreStep c n nodes).2.1 nodes = true:=by
 obtain ⟨h1,h2,h3⟩:=bl h;obtain ⟨f6,fall⟩:=dP h1;by_cases hs:c.hart.state = 0
 ·by_cases hf:(frameAtI n (c.hart.pc / 4)).state = 0
  ·rw[eS h hs hf];exact ig h1 h2 h3
  ·by_cases hw:0 ≤ csAt c n ∧ lacks (frameAtI n (csAt c n / 4)) (csOwn c n) = true
   ·rw[eT h hs hf hw.1 hw.2];exact ig (c:=⟨c.hart,csCache c n⟩) h1 h2 (jn h3)
   ·have hl:0 ≤ csAt c n → lacks (frameAtI n (csAt c n / 4)) (csOwn c n) = false:=fun ha=>by
     cases hx:lacks (frameAtI n (csAt c n / 4)) (csOwn c n) with
     | false=>rfl
     | true=>exact absurd ⟨ha,hx⟩ hw
    rw[cS h hs hf hl];have hh:hartOk (csWork c n).1 = true:=work_ok _ _ h2;by_cases hp:0 ≤ (csWork c n).2
    ·obtain ⟨ha,ho,hiw⟩:=jj hp;have hr:=jk c n;obtain ⟨k,r,e,-,-,d3,-,d5,d6,d7,-,d9,-⟩:=eR (n:=n) ha (by omega) f6;have hla:=hl ha;rw[d7] at hla;have hfr:=hX fall e;obtain ⟨l1,l2,l3⟩:=ic hla hfr;have hst:=l3 ho
     have hf2:frameOk ⟨n.frames[k].state,n.frames[k].list.set r (csWork c n).2,n.frames[k].asked⟩ = true:=by
      (have hz:¬ n.frames[k].state = 0:=by omega);rw[cL hz] at hfr;rw[cL (f:=⟨n.frames[k].state,n.frames[k].list.set r (csWork c n).2,n.frames[k].asked⟩) hz];simp only[Bool.and_eq_true] at hfr ⊢;exact ⟨hfr.1,hP hfr.2 hiw⟩
     rw[lb hp d9 e d5 d7,jl hp d3];have hn:=gh (p:=k) h1 hf2;obtain ⟨a,b⟩:=dP hn;refine dI hn hh (km (jn h3) a b fun q hq=>?_);have hqk:k ≠ q:=fun e=>hq (by rw[e]);simp only[List.getD_eq_getElem?_getD,List.getElem?_set_ne hqk]
    ·rw[jm hp,ie hp];exact dI h1 hh (jn h3)
 ·rw[fq h hs];exact h
theorem qG:(coreStep c n nodes).2.1.id = n.id ∨ coreOkB c n nodes = false:=by
 cases h:coreOkB c n nodes with
 | false=>exact Or.inr rfl
 | true =>
  refine Or.inl ?_;unfold coreStep coreDo;rw[if_pos h];split
  ·rfl
  ·split
   ·exact want_id
   ·split
    ·exact want_id
    ·unfold csPut setFrame;split <;> rfl
end
structure FOk (f:GFlock):Prop where
 world:WOk f.world
 len:f.cores.length = f.world.nodes.length
 core:∀ i,(h1:i < f.cores.length) → (h2:i < f.world.nodes.length) → coreOkB f.cores[i] f.world.nodes[i] f.world.size = true
theorem gj {c:GCore} {n:GNode} {nodes:Int} (h:coreOkB c n nodes = true):nodeOk n nodes = true:=(bl h).1
theorem FOk.run {f:GFlock} (h:FOk f) (a:Int):FOk (fRun f a).1:=by
 unfold fRun;split
 ·rename_i ha
  rw[am] at ha;(have e1:a.toNat < f.cores.length:=by omega);(have e2:a.toNat < f.world.nodes.length:=by rw[← h.len];exact e1);have hc:coreAtI f a = f.cores[a.toNat]:=getD_at e1;have hn:nodeAtI f.world a = f.world.nodes[a.toNat]:=aY rfl e2;have hk:=h.core _ e1 e2;split
  ·exact h
  ·rw[hc,hn];have h9:=qF hk
   have hid:(coreStep f.cores[a.toNat] f.world.nodes[a.toNat] f.world.size).2.1.id = f.world.nodes[a.toNat].id:=by
    rcases qG (c:=f.cores[a.toNat]) (n:=f.world.nodes[a.toNat]) (nodes:=f.world.size) with q | q
    ·exact q
    ·rw[hk] at q;cases q
   refine ⟨h.world.setNode (gj h9) (hid.trans (h.world.node _ e2).2),by simp only[List.length_set];exact h.len,fun i h1 h2=>?_⟩;simp only[List.length_set] at h1 h2;by_cases e:a.toNat = i
   ·subst e;simp only[List.getElem_set_self];exact h9
   ·simp only[List.getElem_set_ne e];exact h.core i h1 h2
 ·exact h
theorem dW (f:GFlock):flockOk f = true ↔ FOk f:=by
 constructor
 ·intro h;have h0:=h;unfold flockOk at h0;simp only[Bool.and_eq_true] at h0;obtain ⟨h1,h2⟩:=h0;obtain ⟨a,b,c⟩:=fm h1;refine ⟨(lE _).1 a,c,fun i i1 i2=>?_⟩;rw[List.all_eq_true] at h2;have h3:=h2 i (by simpa using i1);simp only[List.getElem?_eq_getElem i1] at h3;rw[ew i2 rfl] at h3;exact h3
 ·rintro ⟨a,b,c⟩;refine gc ?_ fun j hj=>?_
  ·unfold flockHd;simp only[Bool.and_eq_true,decide_eq_true_eq];exact ⟨(lE _).2 a,by rw[b];exact a.len⟩
  ·rw[ew (by omega) rfl];exact c j hj (by omega)
section
variable {v:Bool} {x:GNode} {nodes frm:Int} {m:GMsg}
theorem vN {fs:List GFrame} {p q:Nat} {g z:GFrame} (h:p ≠ q):((fs.set p g).getD q z).list = (fs.getD q z).list:=by
 simp only[List.getD_eq_getElem?_getD,List.getElem?_set_ne h]
theorem ii (hk:homeKind m):(nodeHear v x nodes frm m).1.frames = x.frames:=by
 unfold nodeHear;split
 ·split
  ·(show (nodeGot v x nodes frm m).1.frames = x.frames);unfold nodeGot;rw[if_pos hk];split <;> rfl
  ·rfl
 ·rfl
theorem nk (hp:0 ≤ m.page) (q:Nat) (hq:(q:Int) ≠ m.page) (z:GFrame):((nodeHear v x nodes frm m).1.frames.getD q z).list = (x.frames.getD q z).list:=by
 (have hne:m.page.toNat ≠ q:=by omega);unfold nodeHear;split
 ·split
  ·(show ((nodeGot v x nodes frm m).1.frames.getD q z).list = _);unfold nodeGot;split
   ·split <;> rfl
   ·split
    ·exact vN hne
    ·rfl
  ·rfl
 ·rfl
end
section
variable {v:Bool} {c:GCore} {x:GNode} {nodes frm:Int} {m:GMsg}
theorem uz (hk:coreOkB c x nodes = true) (ho:nodeHearOk x nodes frm m = true):coreOkB (coreHear c m) (nodeHear v x nodes frm m).1 nodes = true:=by
 obtain ⟨h1,h2,h3⟩:=bl hk;obtain ⟨-,k2,-,k4,-⟩:=bZ ho;have hn:nodeOk (nodeHear v x nodes frm m).1 nodes = true:=lD h1;obtain ⟨a,b⟩:=dP hn;by_cases hm:m.kind = 3 ∨ m.kind = 4 ∨ m.kind = 6
 ·rw[fY hm];exact dI hn h2 (km h3 a b fun q hq=>nk k4.1 q hq _)
 ·rw[hU hm]
  have hh:homeKind m:=by
   unfold msgOk msgHd at k2;simp only[Bool.and_eq_true,am] at k2;have:=k2.1.1.1;unfold homeKind;omega
  exact dI hn h2 (by rw[ii hh];exact h3)
theorem core_in {d:Nat} {r:GReceiver} (hk:coreOkB c x nodes = true) (hr:gotOk r = true):coreOkB c { x with in_:=x.in_.set d r } nodes = true:=by
 obtain ⟨h1,h2,h3⟩:=bl hk;exact dI (oc h1 hr) h2 h3
theorem vO {d:Nat} {s:GSender} (hk:coreOkB c x nodes = true) (hs:senderOk s = true):coreOkB c { x with out:=x.out.set d s } nodes = true:=by
 obtain ⟨h1,h2,h3⟩:=bl hk;exact dI (gg h1 hs) h2 h3
end
section
variable {f:GFlock} {v:Bool} {d:GDeed}
theorem FOk.setNode (h:FOk f) {t:Nat} {x:GNode} {c:GCore} (ht:t < f.world.nodes.length) (hid:x.id = (t:Int)) (hc:coreOkB c x f.world.size = true):FOk ⟨⟨f.world.size,f.world.nodes.set t x,f.world.net⟩,f.cores.set t c⟩:=by
 refine ⟨h.world.setNode (gj hc) hid,by simp only[List.length_set];exact h.len,fun i h1 h2=>?_⟩;simp only[List.length_set] at h1 h2;by_cases e:t = i
 ·subst e;simp only[List.getElem_set_self];exact hc
 ·simp only[List.getElem_set_ne e];exact h.core i h1 h2
theorem FOk.setNode1 (h:FOk f) {t:Nat} {x:GNode} (ht:t < f.world.nodes.length) (hid:x.id = (t:Int)) (hc:coreOkB (f.cores[t]'(by rw[h.len];exact ht)) x f.world.size = true):FOk ⟨⟨f.world.size,f.world.nodes.set t x,f.world.net⟩,f.cores⟩:=by
 have:=h.setNode ht hid hc;rw[List.set_getElem_self] at this;exact this
theorem FOk.setNet (h:FOk f) {ps:List GPacket} (hw:WOk ⟨f.world.size,f.world.nodes,ps⟩):FOk ⟨⟨f.world.size,f.world.nodes,ps⟩,f.cores⟩:=⟨hw,h.len,h.core⟩
end
section
variable {f:GFlock} {v:Bool}
theorem FOk.give (h:FOk f) {i:Nat} (hi:i < f.world.net.length) {p:GPacket} (hp:p = f.world.net[i]) :
  FOk ⟨wGive v ⟨f.world.size,f.world.nodes,netCut f.world.net i⟩ p,if heardB v ⟨f.world.size,f.world.nodes,netCut f.world.net i⟩ p = true then f.cores.set p.to.toNat (coreHear (coreAtI f p.to) p.msg) else f.cores⟩:=by
 have hF:FOk ⟨⟨f.world.size,f.world.nodes,netCut f.world.net i⟩,f.cores⟩:=h.setNet (h.world.cut i)
 have hpk:packetOk p f.world.size = true:=by rw[hp];exact h.world.pkt _ (List.getElem_mem hi)
 obtain ⟨p1,p2⟩:=gi hpk h.world.size
 have hl:=h.world.len
 have e1:p.to.toNat < f.world.nodes.length:=by omega
 have e0:p.to.toNat < f.cores.length:=by rw[h.len];exact e1
 obtain ⟨n1,n2⟩:=h.world.node _ e1
 obtain ⟨-,-,l3,l4,-,-,l7,l8⟩:=aH n1
 have e2:p.from_.toNat < f.world.nodes[p.to.toNat].out.length:=by omega
 have e3:p.from_.toNat < f.world.nodes[p.to.toNat].in_.length:=by omega
 have hk:=h.core _ e0 e1
 cases ha:p.ack with
 | true =>
  obtain ⟨q,qb⟩:=kZ (v:=v) (w:=⟨f.world.size,f.world.nodes,netCut f.world.net i⟩) (p:=p) ha rfl e1 rfl e2
  rw[q,qb,if_neg (by decide)]
  exact hF.setNode1 e1 n2 (vO hk (qC (l7 _ e2)))
 | false =>
  cases hr:arrB f.world.nodes[p.to.toNat].in_[p.from_.toNat] p.n with
  | false =>
   obtain ⟨q,qb⟩:=dH (v:=v) (w:=⟨f.world.size,f.world.nodes,netCut f.world.net i⟩) (p:=p) ha rfl e1 rfl e3 hr
   rw[q,qb,if_neg (by decide)]
   exact hF
  | true =>
   cases hh:(nodeHear v f.world.nodes[p.to.toNat] f.world.size p.from_ p.msg).2 with
   | false =>
    obtain ⟨q,qb⟩:=cI (v:=v) (w:=⟨f.world.size,f.world.nodes,netCut f.world.net i⟩) (p:=p) ha rfl e1 hh
    rw[q,qb,if_neg (by decide)]
    exact hF
   | true =>
    have ho:nodeHearOk f.world.nodes[p.to.toNat] f.world.size p.from_ p.msg = true:=by
     cases hx:nodeHearOk f.world.nodes[p.to.toNat] f.world.size p.from_ p.msg with
     | true=>rfl
     | false=>rw[en hx] at hh;cases hh
    obtain ⟨q,qb⟩:=ck (v:=v) (w:=⟨f.world.size,f.world.nodes,netCut f.world.net i⟩) (p:=p) ha rfl e1 rfl e3 hr hh
    rw[q,qb,if_pos rfl,show coreAtI f p.to = f.cores[p.to.toNat] from getD_at e0]
    exact hF.setNode e1 (nodeHear_id.trans n2) (core_in (uz hk ho) (sV (l8 _ e3)))
end
section
variable {f:GFlock} {v:Bool} {d:GDeed}
theorem FOk.net0 (h:FOk f) {w:GWorld} (hs:w.size = f.world.size) (hn:w.nodes = f.world.nodes) (hw:WOk w):FOk ⟨w,f.cores⟩:=by
 refine ⟨hw,by rw[hn];exact h.len,fun i h1 h2=>?_⟩;simp only[hn,hs];exact h.core i h1 (by rw[← hn];exact h2)
theorem FOk.deed (h:FOk f):FOk (fDo v f d).1:=by
 unfold fDo;split
 ·exact h.run d.a
 ·have hw:=WOk.do_ (v:=v) (d:=d) h.world;(show FOk ⟨(wDo v f.world d).1,fCores v f d⟩);by_cases h3:d.kind = 3
  ·by_cases hi:inR d.a 0 ((f.world.net.length:Int) - 1) = true
   ·have hi2:=(am _ _ _).1 hi;(have e1:d.a.toNat < f.world.net.length:=by omega);have hgd:f.world.net.getD d.a.toNat zPacket = f.world.net[d.a.toNat]:=getD_at e1
    have hwd:(wDo v f.world d).1 = wGive v ⟨f.world.size,f.world.nodes,netCut f.world.net d.a.toNat⟩ f.world.net[d.a.toNat]:=by
     unfold wDo wNet;rw[if_pos (Or.inl h3),if_pos hi,if_neg (by omega),if_neg (by omega),hgd]
    have hfc:fCores v f d = if heardB v ⟨f.world.size,f.world.nodes,netCut f.world.net d.a.toNat⟩ f.world.net[d.a.toNat] = true then f.cores.set f.world.net[d.a.toNat].to.toNat (coreHear (coreAtI f f.world.net[d.a.toNat].to) f.world.net[d.a.toNat].msg) else f.cores:=by
     unfold fCores;rw[hgd];by_cases hb:heardB v ⟨f.world.size,f.world.nodes,netCut f.world.net d.a.toNat⟩ f.world.net[d.a.toNat] = true
     ·rw[if_pos ⟨h3,hi,hb⟩,if_pos hb]
     ·rw[if_neg (fun q=>hb q.2.2),if_neg hb]
    rw[hwd,hfc];exact h.give e1 rfl
   ·(have hfc:fCores v f d = f.cores:=by unfold fCores;rw[if_neg (fun q=>hi q.2.1)]);(have hwd:(wDo v f.world d).1 = f.world:=by unfold wDo wNet;rw[if_pos (Or.inl h3),if_neg hi]);rw[hwd,hfc];exact h
  ·(have hfc:fCores v f d = f.cores:=by unfold fCores;rw[if_neg (fun q=>h3 q.1)]);rw[hfc];by_cases h6:d.kind = 6 ∧ inR d.a 0 (f.world.size - 1) = true ∧ wantOk (nodeAtI f.world d.a) f.world.size d.b (decide (d.c = 1)) = true
   ·obtain ⟨k6,ka,kw⟩:=h6;have ha:=(am _ _ _).1 ka;have hl:=h.world.len;(have e1:d.a.toNat < f.world.nodes.length:=by omega);(have e0:d.a.toNat < f.cores.length:=by rw[h.len];exact e1);have hna:nodeAtI f.world d.a = f.world.nodes[d.a.toNat]:=aY rfl e1
    have hwd:(wDo v f.world d).1 = ⟨f.world.size,f.world.nodes.set d.a.toNat (want f.world.nodes[d.a.toNat] f.world.size d.b (decide (d.c = 1))),f.world.net⟩:=by
     unfold wDo;rw[if_neg (by omega),if_pos ka,if_pos k6,if_pos kw,hna]
    rw[hwd];obtain ⟨c1,c2,c3⟩:=bl (h.core _ e0 e1);exact h.setNode1 e1 (want_id.trans (h.world.node _ e1).2) (ig c1 c2 c3)
   ·have key:(wDo v f.world d).1.size = f.world.size ∧ (wDo v f.world d).1.nodes = f.world.nodes:=by
     unfold wDo;split
     ·rename_i hk
      unfold wNet;split
      ·split
       ·split <;> exact ⟨rfl,rfl⟩
       ·split
        ·exact ⟨rfl,rfl⟩
        ·omega
      ·exact ⟨rfl,rfl⟩
     ·split
      ·rename_i ka
       split
       ·rename_i k6
        split
        ·rename_i kw
         exact absurd ⟨k6,ka,kw⟩ h6
        ·exact ⟨rfl,rfl⟩
       ·unfold wLine wPut;split
        ·split
         ·split
          ·split <;> exact ⟨rfl,rfl⟩
          ·exact ⟨rfl,rfl⟩
         ·split <;> exact ⟨rfl,rfl⟩
        ·exact ⟨rfl,rfl⟩
      ·exact ⟨rfl,rfl⟩
    exact h.net0 key.1 key.2 hw
end
theorem sy {n:Int} (h1:1 ≤ n ∧ n ≤ 4):homeOk (homeNew n) n = true:=by
 have hw:IntKind.wrap .i64 (n - 1) = n - 1:=ap (by omega) (by omega);unfold homeNew homeOk homeHd wofN;rw[if_pos h1];simp only[Bool.and_eq_true,decide_eq_true_eq,am,hw,List.length_replicate,List.length_nil,List.all_nil];refine ⟨⟨⟨⟨⟨⟨⟨h1,by decide⟩,by omega⟩,by omega⟩,by omega⟩,by omega⟩,by omega⟩,trivial⟩
theorem sA {n:Int} {i:Nat} (h1:1 ≤ n ∧ n ≤ 4) (hi:(i:Int) < n):nodeOk (nodeNew i n) n = true:=by
 have hw:IntKind.wrap .i64 (n - 1) = n - 1:=ap (by omega) (by omega);rw[jf h1 hi];unfold nodeOk nodeHd;simp only[Bool.and_eq_true,decide_eq_true_eq,am,hw,List.length_replicate,List.all_eq_true];refine ⟨⟨⟨⟨⟨⟨⟨⟨⟨h1,by omega⟩,by omega⟩,by omega⟩,by omega⟩,by omega⟩,fun f hf=>?_⟩,fun h hh=>?_⟩,fun s hs=>?_⟩,fun r hr=>?_⟩
 ·obtain ⟨-,rfl⟩:=List.mem_replicate.1 hf;decide
 ·obtain ⟨-,rfl⟩:=List.mem_replicate.1 hh;exact sy h1
 ·obtain ⟨-,rfl⟩:=List.mem_replicate.1 hs;decide
 ·obtain ⟨-,rfl⟩:=List.mem_replicate.1 hr;decide
theorem uA {n:Int} {k i:Nat} (h:i < (nodesN n k).length):(nodesN n k)[i] = nodeNew i n:=by
 have:(nodesN n k)[i]? = some (nodeNew i n):=by
  (have hi:i < k:=by rw[bc] at h;exact h);unfold nodesN;rw[List.getElem?_map,List.getElem?_range hi];rfl
 rw[List.getElem?_eq_getElem h] at this;exact Option.some.inj this
theorem WOk_new {n:Int} (h1:1 ≤ n ∧ n ≤ 4):WOk ⟨n,nodesN n n.toNat,[]⟩:=by
 refine ⟨h1,by simp only[bc];omega,by simp,fun i hi=>?_,fun p hp=>by cases hp⟩;rw[bc] at hi;(have hi2:(i:Int) < n:=by omega);rw[uA];exact ⟨sA h1 hi2,by rw[jf h1 hi2]⟩
theorem qH {h:GHome} {n:Int} {ws:List Int} (q:homeOk h n = true) (hw:wordsOk ws 4 = true):homeOk { h with list:=ws } n = true:=by
 unfold homeOk homeHd at q ⊢;simp only[Bool.and_eq_true] at q ⊢;obtain ⟨⟨⟨⟨⟨⟨⟨q1,q2⟩,q3⟩,q4⟩,q5⟩,q6⟩,q7⟩,q8⟩:=q;exact ⟨⟨⟨⟨⟨⟨⟨q1,hw⟩,q3⟩,q4⟩,q5⟩,q6⟩,q7⟩,q8⟩
theorem vP {mem:List Int} (hm:wordsOk mem 24 = true) {p:Nat} (hp:p < 6):wordsOk (pageW mem p) 4 = true:=by
 have hl:=dg hm;unfold wordsOk at hm ⊢;simp only[Bool.and_eq_true,decide_eq_true_eq,List.all_eq_true] at hm ⊢;unfold pageW;refine ⟨?_,fun x hx=>hm.2 x (List.mem_of_mem_drop (List.mem_of_mem_take hx))⟩;rw[List.length_take,List.length_drop];omega
theorem qI {n:Int} {mem:List Int} (hm:wordsOk mem 24 = true) {p:Nat} (hp:p < 6) {nodes:List GNode} {k:Nat} (h:WOk ⟨n,nodes,[]⟩):WOk ⟨n,putPage k mem nodes p,[]⟩:=by
 unfold putPage;split
 ·rename_i y hy
  split
  ·rename_i g hg
   obtain ⟨e1,e2⟩:=List.getElem?_eq_some_iff.1 hy;obtain ⟨n1,n2⟩:=h.node _ e1;simp only[e2] at n1 n2;obtain ⟨-,-,-,-,-,k6,-,-⟩:=aH n1;obtain ⟨g1,g2⟩:=List.getElem?_eq_some_iff.1 hg;have hgo:=k6 _ g1;rw[g2] at hgo;have:=h.setNode (t:=p % k) (x:={ y with homes:=y.homes.set p { g with list:=pageW mem p } }) (lB (p:=p) n1 (qH hgo (vP hm hp))) n2;exact this
  ·exact h
 ·exact h
theorem nl {n:Int} {mem:List Int} (hm:wordsOk mem 24 = true) {nodes:List GNode} {k:Nat} (h:WOk ⟨n,nodes,[]⟩):∀ p,p ≤ 6 → WOk ⟨n,pagesN k mem nodes p,[]⟩
 | 0,_=>h
 | p + 1,hp=>qI hm (by omega) (nl hm h p (by omega))
theorem sB (pc:Int):hartOk (hartNew pc) = true:=by
 unfold hartOk hartNew addr;simp only[Bool.and_eq_true,am];exact ⟨⟨by decide,by omega⟩,by omega⟩
theorem od {starts:List Int} {k i:Nat} (h:i < (coresN starts k).length):(coresN starts k)[i] = ⟨hartNew (starts.getD i 0),[]⟩:=by
 have:(coresN starts k)[i]? = some ⟨hartNew (starts.getD i 0),[]⟩:=by
  (have hi:i < k:=by rw[bO] at h;exact h);unfold coresN;rw[List.getElem?_map,List.getElem?_range hi];rfl
 rw[List.getElem?_eq_getElem h] at this;exact Option.some.inj this
theorem oS {n:Int} {mem starts:List Int} (h:flockNewOk n mem = true):FOk (flockNew n mem starts):=by
 have h0:=h;unfold flockNewOk at h0;rw[Bool.and_eq_true,am] at h0;obtain ⟨h1,hm⟩:=h0;unfold flockNew;rw[if_pos h];have hw:WOk ⟨n,pagesN n.toNat mem (nodesN n n.toNat) 6,[]⟩:=nl hm (WOk_new h1) 6 (Nat.le_refl _);refine ⟨hw,by rw[bO];simp only[cG,bc],fun i i1 i2=>?_⟩;have hn:=(hw.node i i2).1;obtain ⟨f1,-,-,-,f5,-,-,-⟩:=aH hn;unfold coreOkB;simp only[Bool.and_eq_true];refine ⟨hn,?_,?_⟩
 ·(show hartOk (coresN starts n.toNat)[i].hart = true);rw[od];exact sB _
 ·(show cacheOk (coresN starts n.toNat)[i].cache _ = true);rw[od];unfold cacheOk;simp only[Bool.and_eq_true,decide_eq_true_eq,List.all_eq_true];refine ⟨⟨⟨by simp,f1⟩,fun f hf=>?_⟩,fun b hb=>by cases hb⟩;obtain ⟨j,hj,rfl⟩:=List.getElem_of_mem hf;exact f5 j hj
structure PS where
 h:GHome
 f:Nat → GFrame
 up:Nat → List GMsg
 dn:Nat → List GMsg
def wof2 (x n:Int):Bool:=inR n 1 4 && inR x 0 (IntKind.wrap .i64 (n - 1))
def namedB (w:GWorld) (d:GDeed):Bool :=
 if d.kind = 3 ∨ d.kind = 4 ∨ d.kind = 5 then inR d.a 0 (IntKind.wrap .i64 ((w.net.length:Int) - 1))
 else if d.kind = 1 ∨ d.kind = 2 then wof2 d.a w.size && wof2 d.b w.size else wof2 d.a w.size
theorem nn {x n:Int} (h:1 ≤ n ∧ n ≤ 4):wof2 x n = true ↔ 0 ≤ x ∧ x < n:=by
 unfold wof2;rw[ap (show -9223372036854775808 ≤ n - 1 by omega) (by omega),Bool.and_eq_true,am,am];omega
theorem named_net {w:GWorld} {d:GDeed} (h:d.kind = 3 ∨ d.kind = 4 ∨ d.kind = 5):namedB w d = inR d.a 0 (IntKind.wrap .i64 ((w.net.length:Int) - 1)):=if_pos h
theorem named_line {w:GWorld} {d:GDeed} (h:d.kind = 1 ∨ d.kind = 2):namedB w d = (wof2 d.a w.size && wof2 d.b w.size):=by unfold namedB;rw[if_neg (by omega),if_pos h]
theorem named_else {w:GWorld} {d:GDeed} (h:¬ (d.kind = 3 ∨ d.kind = 4 ∨ d.kind = 5)) (h1:¬ (d.kind = 1 ∨ d.kind = 2)):namedB w d = wof2 d.a w.size:=by unfold namedB;rw[if_neg h,if_neg h1]
section
variable {w:GWorld} {d:GDeed} {v:Bool}
theorem WOk.netI (h:WOk w):IntKind.wrap .i64 ((w.net.length:Int) - 1) = (w.net.length:Int) - 1:=by have:=h.net;exact ap (by omega) (by omega)
theorem WOk.named_net (h:WOk w) (hk:d.kind = 3 ∨ d.kind = 4 ∨ d.kind = 5):namedB w d = true ↔ 0 ≤ d.a ∧ d.a < (w.net.length:Int):=by
 rw[Go.Tw.named_net hk,h.netI,am];omega
theorem WOk.named_line (h:WOk w) (hk:d.kind = 1 ∨ d.kind = 2):namedB w d = true ↔ (0 ≤ d.a ∧ d.a < w.size) ∧ 0 ≤ d.b ∧ d.b < w.size:=by
 rw[Go.Tw.named_line hk,Bool.and_eq_true,nn h.size,nn h.size]
theorem WOk.named_else (h:WOk w) (hk:¬ (d.kind = 3 ∨ d.kind = 4 ∨ d.kind = 5)) (h1:¬ (d.kind = 1 ∨ d.kind = 2)):namedB w d = true ↔ 0 ≤ d.a ∧ d.a < w.size:=by
 rw[Go.Tw.named_else hk h1,nn h.size]
theorem WOk.ends (h:WOk w):(∀ p ∈ w.net,(0 ≤ p.to ∧ p.to < (w.nodes.length:Int)) ∧ 0 ≤ p.from_ ∧ p.from_ < (w.nodes.length:Int)) ∧ ∀ n ∈ w.nodes,n.out.length = w.nodes.length ∧ n.in_.length = w.nodes.length:=by
 have hl:=h.len;refine ⟨fun p hp=>?_,fun n hn=>?_⟩
 ·obtain ⟨a,b⟩:=gi (h.pkt p hp) h.size;omega
 ·obtain ⟨i,hi,rfl⟩:=List.getElem_of_mem hn;obtain ⟨-,-,a,b,-⟩:=aH (h.node i hi).1;omega
theorem qJ (h:WOk w) (hk:1 ≤ d.kind ∧ d.kind ≤ 6) (hn:namedB w d = false):wDo v w d = (w,2):=by
 (have hn:¬ namedB w d = true:=by rw[hn];decide);unfold wDo;split
 ·rename_i k
  unfold wNet;rw[if_neg];rw[h.named_net k] at hn;rw[am];omega
 ·rename_i k
  split
  ·rename_i ha
   rw[am] at ha;split
   ·rename_i k6
    rw[h.named_else k (by omega)] at hn;omega
   ·rw[h.named_line (by omega)] at hn;unfold wLine;rw[if_neg];rw[am];omega
  ·rfl
theorem WOk.sendable (h:WOk w) (hk:d.kind = 1 ∨ d.kind = 2) (hn:namedB w d = true):0 ≤ d.a ∧ d.a < (w.nodes.length:Int) ∧ 0 ≤ d.b ∧ d.b < ((nodeAtI w d.a).out.length:Int) ∧ senderOk (outAt w d) = true:=by
 have hx:=(h.named_line hk).1 hn;have hl:=h.len;(have e1:d.a.toNat < w.nodes.length:=by omega);have hna:nodeAtI w d.a = w.nodes[d.a.toNat]:=aY rfl e1;obtain ⟨-,-,a,b,-,-,c,-⟩:=aH (h.node _ e1).1;(have e2:d.b.toNat < w.nodes[d.a.toNat].out.length:=by omega);refine ⟨by omega,by omega,by omega,by rw[hna];omega,?_⟩;unfold outAt;rw[hna,getD_at e2];exact c _ e2
theorem vQ (h:WOk w) (hk:d.kind = 1) (hn:namedB w d = true):wDo v w d = sendAt w d:=by
 rw[h.named_line (Or.inl hk)] at hn;unfold wDo;rw[if_neg (by omega),if_pos ((am _ _ _).2 (by omega)),if_neg (by omega)];unfold wLine sendAt outAt;rw[if_pos ((am _ _ _).2 (by omega)),if_pos hk]
theorem wDo_ack (h:WOk w) (hk:d.kind = 2) (hn:namedB w d = true) {a b:Nat} (ha:d.a = (a:Int)) (hb:d.b = (b:Int)) (e1:a < w.nodes.length) (e2:b < w.nodes[a].in_.length) :
  wDo v w d = if w.net.length = 40 then (w,4) else (⟨w.size,w.nodes,w.net ++ [⟨d.a,d.b,true,w.nodes[a].in_[b].got,zMsg⟩]⟩,0):=by
 rw[h.named_line (Or.inr hk)] at hn
 unfold wDo
 rw[if_neg (by omega),if_pos ((am _ _ _).2 (by omega)),if_neg (by omega)]
 unfold wLine
 rw[if_pos ((am _ _ _).2 (by omega)),if_neg (by omega)]
 unfold wPut
 rw[aY (t:=a) (by omega) e1,show d.b.toNat = b by omega,getD_at e2]
theorem qK (h:WOk w) (hk:d.kind = 3) (hn:namedB w d = true):wDo v w d = (wGive v ⟨w.size,w.nodes,netCut w.net d.a.toNat⟩ (w.net.getD d.a.toNat zPacket),0):=by
 rw[h.named_net (by omega)] at hn;unfold wDo wNet;rw[if_pos (by omega),if_pos ((am _ _ _).2 (by omega)),if_neg (by omega),if_neg (by omega)]
theorem vR (h:WOk w) (hk:d.kind = 4) (hn:namedB w d = true) {a:Nat} (ha:d.a = (a:Int)):wDo v w d = (⟨w.size,w.nodes,w.net.take a ++ w.net.drop (a + 1)⟩,0):=by
 rw[h.named_net (by omega)] at hn;unfold wDo wNet netCut;rw[if_pos (by omega),if_pos ((am _ _ _).2 (by omega)),if_neg (by omega),if_pos (by omega),show d.a.toNat = a by omega]
theorem vS (h:WOk w) (hk:d.kind = 5) (hn:namedB w d = true) {a:Nat} (ha:d.a = (a:Int)) (e1:a < w.net.length):wDo v w d = if w.net.length = 40 then (w,4) else (⟨w.size,w.nodes,w.net ++ [w.net[a]]⟩,0):=by
 rw[h.named_net (by omega)] at hn;unfold wDo wNet;rw[if_pos (by omega),if_pos ((am _ _ _).2 (by omega)),if_pos hk,show d.a.toNat = a by omega,getD_at e1]
theorem qL (h:WOk w) (hk:d.kind = 6) (hn:namedB w d = true) {a:Nat} (ha:d.a = (a:Int)) (e1:a < w.nodes.length) :
  wDo v w d = if wantOk w.nodes[a] w.size d.b (decide (d.c = 1)) = true then (⟨w.size,w.nodes.set a (want w.nodes[a] w.size d.b (decide (d.c = 1))),w.net⟩,0) else (w,3):=by
 rw[h.named_else (by omega) (by omega)] at hn
 unfold wDo
 rw[if_neg (by omega),if_pos ((am _ _ _).2 (by omega)),if_pos hk,aY (t:=a) (by omega) e1,show d.a.toNat = a by omega]
end
theorem lH {m:GMsg} (h:msgOk m = true):m.small:=by
 unfold msgOk at h;rw[Bool.and_eq_true] at h;have:=dg h.2;unfold GMsg.small;split at this <;> omega
theorem nq {s:GSender} (h:senderOk s = true):s.small:=by
 obtain ⟨-,a,b⟩:=bh h;refine ⟨by omega,fun m hm=>?_⟩;obtain ⟨i,hi,rfl⟩:=List.getElem_of_mem hm;exact lH (b i hi)
theorem iJ {f:GFrame} (h:frameOk f = true):f.small:=by
 unfold GFrame.small;rcases eP h with q | q <;> omega
theorem kr {h:GHome} {n:Int} (q:homeOk h n = true):h.small:=by
 obtain ⟨a,b,c,d,e,f,g,-⟩:=bL q;exact ⟨by omega,by omega,by omega⟩
theorem oT {x:GNode} {n:Int} (h:nodeOk x n = true) (hn:n ≤ 4):x.small:=by
 obtain ⟨a,b,c,d,e,f,g,-⟩:=aH h;refine ⟨by omega,fun y hy=>?_,by omega,fun y hy=>?_,by omega,fun y hy=>?_,by omega⟩
 ·obtain ⟨i,hi,rfl⟩:=List.getElem_of_mem hy;exact iJ (e i hi)
 ·obtain ⟨i,hi,rfl⟩:=List.getElem_of_mem hy;exact kr (f i hi)
 ·obtain ⟨i,hi,rfl⟩:=List.getElem_of_mem hy;exact nq (g i hi)
theorem nt {p:GPacket} {n:Int} (h:packetOk p n = true):p.small:=by
 unfold packetOk at h;rw[Bool.and_eq_true] at h;obtain ⟨-,h⟩:=h;unfold GPacket.small;split at h
 ·simp only[Bool.and_eq_true,decide_eq_true_eq] at h;unfold GMsg.small;omega
 ·exact lH h
theorem WOk.small {w:GWorld} (h:WOk w):w.small:=by
 have a:=h.size;have b:=h.len;have c:=h.net;refine ⟨by omega,fun y hy=>?_,by omega,fun y hy=>nt (h.pkt y hy)⟩;obtain ⟨i,hi,rfl⟩:=List.getElem_of_mem hy;exact oT (h.node i hi).1 a.2
theorem iK {c:GCore} {n:GNode} {nodes:Int} (h:coreOkB c n nodes = true):c.small:=by
 obtain ⟨-,a,b⟩:=bl h;unfold hartOk at a;simp only[Bool.and_eq_true] at a;have:=dg a.1.1;unfold cacheOk at b;simp only[Bool.and_eq_true,decide_eq_true_eq,List.all_eq_true] at b;refine ⟨by unfold GHart.small;omega,by omega,fun y hy=>?_⟩;have hb:=b.2 y hy;unfold bOk at hb;rw[Bool.and_eq_true] at hb;have:=dF hb.1;unfold GBlock.small;omega
theorem FOk.small {f:GFlock} (h:FOk f):f.small:=by
 have a:=h.world.size;have b:=h.world.len;have c:=h.len;refine ⟨h.world.small,by omega,fun y hy=>?_⟩;obtain ⟨i,hi,rfl⟩:=List.getElem_of_mem hy;exact iK (h.core i hi (by omega))
section
variable {f:GFlock} {d:GDeed} {v:Bool}
theorem jo (h:d.kind ≠ 3):fCores v f d = f.cores:=by unfold fCores;rw[if_neg (fun q=>h q.1)]
theorem qM (h:FOk f) (hk:1 ≤ d.kind ∧ d.kind ≤ 7) (hn:namedB f.world d = false):fDo v f d = (f,2,1):=by
 by_cases h7:d.kind = 7
 ·unfold fDo fRun;(have hx:¬ namedB f.world d = true:=by rw[hn];decide);rw[h.world.named_else (by omega) (by omega)] at hx;have:=h.len;have:=h.world.len;rw[if_pos h7,if_neg];rw[am];omega
 ·unfold fDo;rw[if_neg h7,qJ h.world (by omega) hn]
  have:fCores v f d = f.cores:=by
   by_cases h3:d.kind = 3
   ·(have hx:¬ namedB f.world d = true:=by rw[hn];decide);rw[h.world.named_net (Or.inl h3)] at hx;unfold fCores;rw[if_neg];rintro ⟨-,q,-⟩;rw[am] at q;omega
   ·exact jo h3
  rw[this]
theorem fDo_run (h:FOk f) (h7:d.kind = 7) (hn:namedB f.world d = true) {a:Nat} (ha:d.a = (a:Int)) (e0:a < f.cores.length) (e1:a < f.world.nodes.length) :
  fDo v f d = if (coreStep f.cores[a] f.world.nodes[a] f.world.size).2.2 = 2 then (f,3,2) else (⟨⟨f.world.size,f.world.nodes.set a (coreStep f.cores[a] f.world.nodes[a] f.world.size).2.1,f.world.net⟩,f.cores.set a (coreStep f.cores[a] f.world.nodes[a] f.world.size).1⟩,0,(coreStep f.cores[a] f.world.nodes[a] f.world.size).2.2):=by
 unfold fDo fRun
 rw[if_pos h7,if_pos ((am _ _ _).2 (by omega)),show coreAtI f d.a = f.cores[a] by (unfold coreAtI;rw[show d.a.toNat = a by omega,getD_at e0]),aY (t:=a) (by omega) e1,show d.a.toNat = a by omega]
theorem vT (h:FOk f) (h3:d.kind = 3) (hn:namedB f.world d = true) {a:Nat} (ha:d.a = (a:Int)) (e1:a < f.world.net.length) :
  fDo v f d = (⟨wGive v ⟨f.world.size,f.world.nodes,netCut f.world.net a⟩ f.world.net[a],if heardB v f.world f.world.net[a] = true then f.cores.set f.world.net[a].to.toNat (coreHear (coreAtI f f.world.net[a].to) f.world.net[a].msg) else f.cores⟩,0,1):=by
 unfold fDo
 have han:d.a.toNat = a:=by omega
 rw[if_neg (by omega),qK h.world h3 hn,han,getD_at e1]
 unfold fCores
 rw[han,getD_at e1]
 have hi:inR d.a 0 ((f.world.net.length:Int) - 1) = true:=(am _ _ _).2 (by omega)
 by_cases hb:heardB v f.world f.world.net[a] = true
 ·have hb2:heardB v { f.world with net:=netCut f.world.net a } f.world.net[a] = true:=hb
  rw[if_pos ⟨h3,hi,hb2⟩,if_pos hb]
 ·have hb2:¬ heardB v { f.world with net:=netCut f.world.net a } f.world.net[a] = true:=hb
  rw[if_neg (fun q=>hb2 q.2.2),if_neg hb]
theorem vU (h3:d.kind ≠ 3) (h7:d.kind ≠ 7):fDo v f d = (⟨(wDo v f.world d).1,f.cores⟩,(wDo v f.world d).2,1):=by
 unfold fDo;rw[if_neg h7,jo h3]
theorem vV (hc:(wDo v f.world d).2 ≠ 0):(wDo v f.world d).1 = f.world:=by
 revert hc;unfold wDo wNet wLine wPut;(repeat' split);all_goals first | (intro q;rfl) | (intro q;exact absurd rfl q)
theorem qN (hc:(fDo v f d).2.1 ≠ 0):(fDo v f d).1 = f:=by
 revert hc;unfold fDo;split
 ·unfold fRun;(repeat' split);all_goals first | (intro q;rfl) | (intro q;exact absurd rfl q)
 ·intro hc;have hw:=vV hc
  have:fCores v f d = f.cores:=by
   by_cases h3:d.kind = 3
   ·unfold fCores;rw[if_neg];rintro ⟨-,q,-⟩;refine hc ?_;unfold wDo wNet;rw[if_pos (Or.inl h3),if_pos q,if_neg (by omega),if_neg (by omega)]
   ·exact jo h3
  (show (⟨(wDo v f.world d).1,fCores v f d⟩:GFlock) = f);rw[hw,this]
end
def fdR (v:Bool) (f:GFlock) (d:GDeed):GFlock × Int × Int:=if inR d.kind 1 7 = true then fDo v f d else (zFlock,1,1)
theorem qO {v:Bool} {f:GFlock} {d:GDeed} (h:flockOk f = true):flockDo v f d = ((fdR v f d).1,(fdR v f d).2.1):=by
 unfold flockDo fdR;rw[h,Bool.true_and];split <;> rfl
def Gl4Work.hearB (k:Gl4Work) (frm:Int) (m:GMsg):Bool:=(kHear false k.page frm m k.kp).isSome
def Gl4Work.hear (k:Gl4Work) (frm:Int) (m:GMsg):Gl4Work:=match kHear false k.page frm m k.kp with
 | some q=>k.put q
 | none=>k
theorem ey {k:Gl4Work} {frm:Int} {m:GMsg} {q:Kp} (h:kHear false k.page frm m k.kp = some q):k.hearB frm m = true ∧ k.hear frm m = k.put q:=by
 unfold Gl4Work.hearB Gl4Work.hear;rw[h];exact ⟨rfl,rfl⟩
theorem fG {k:Gl4Work} {frm:Int} {m:GMsg} (h:kHear false k.page frm m k.kp = none):k.hearB frm m = false ∧ k.hear frm m = k:=by
 unfold Gl4Work.hearB Gl4Work.hear;rw[h];exact ⟨rfl,rfl⟩
theorem sC {k:Gl4Work} {frm:Int} {m:GMsg} (h:k.hearB frm m = true):∃ q,kHear false k.page frm m k.kp = some q ∧ k.hear frm m = k.put q:=by
 unfold Gl4Work.hearB at h;cases hq:kHear false k.page frm m k.kp with
 | none=>rw[hq] at h;cases h
 | some q=>exact ⟨q,rfl,(ey hq).2⟩
theorem sD {k:Gl4Work} {frm:Int} {m:GMsg} (h:k.hearB frm m = false):kHear false k.page frm m k.kp = none:=by
 unfold Gl4Work.hearB at h;cases hq:kHear false k.page frm m k.kp with
 | none=>rfl
 | some q=>rw[hq] at h;cases h
theorem qP (rs:List Bool) (o:Int) (own:Bool):backR false rs o own = rs.set o.toNat (!own):=by
 unfold backR;rw[Bool.false_and,if_neg (by decide)]
theorem vW {page:Int} {q:Kp} {w:GWait} {qs:List GWait} (hq:q.h.queue = w :: qs) (hw:w.own = false) (i j:Nat):q.g page i = q.g page j:=by
 have h0:(kZero (kPick q)).h.now.own = false:=by simp[kZero,kPick,hq,hw]
 have key:∀ i,kGoneN page (kZero (kPick q)) i = kZero (kPick q):=by
  intro i;induction i with
  | zero=>rfl
  | succ i ih =>
   (show kGone page (kGoneN page (kZero (kPick q)) i) i = _);rw[ih];unfold kGone;rw[if_neg (by rw[h0];simp)]
 exact (key i).trans (key j).symm
theorem kg_stop {page:Int} {q:Kp} {w:GWait} {qs:List GWait} (hq:q.h.queue = w :: qs) {i:Nat} (hi:i ≤ q.h.readers.length) (h:¬ (i < q.h.readers.length ∧ w.own = true)):q.g page q.h.readers.length = q.g page i:=by
 cases hw:w.own with
 | false=>exact vW hq hw _ _
 | true =>
  have:i = q.h.readers.length:=by
   by_cases hx:i < q.h.readers.length
   ·exact absurd ⟨hx,hw⟩ h
   ·omega
  rw[this]
theorem uB {v:Bool} {n:Nat} {page frm:Int} {m:GMsg} {h:GHome} {k:Kp} (h1:h.list.length ≤ 1048576) (h2:h.readers.length = n) (h3:∀ w ∈ h.queue,0 ≤ w.who ∧ w.who < (n:Int)) (h4:h.queue.length ≤ 12) (hm:m.list.length ≤ 1048576) (hf:0 ≤ frm ∧ frm < (n:Int)) (hs:kHear v page frm m ⟨h,[]⟩ = some k):KpI n k:=by
 unfold kHear at hs;split at hs
 ·split at hs
  ·cases hs
  ·cases hs
   refine KpI.of h1 h2 (fun w hw=>?_) (by simp) (by simp only[List.length_append,List.length_cons,List.length_nil];omega);rcases List.mem_append.1 hw with hw | hw
   ·exact h3 w hw
   ·obtain rfl:=List.mem_singleton.1 hw;exact hf
 ·split at hs
  ·split at hs
   ·split at hs
    ·cases hs;exact KpI.give h1 h2 h3 rfl (by simp only;omega)
    ·cases hs;exact KpI.of h1 h2 h3 (by simp) (by simp only;omega)
   ·cases hs
  ·split at hs
   ·split at hs
    ·cases hs
     refine KpI.give hm ?_ h3 rfl (by simp only;omega);(show (backR v h.readers h.owner h.now.own).length = n);unfold backR;split
     ·exact h2
     ·rw[List.length_set];exact h2
    ·cases hs
   ·cases hs
section
variable {n:GNode} {nodes frm:Int} {m:GMsg} {v:Bool}
theorem kt (h:GHome) (nodes page frm:Int) (m:GMsg):hearOk h nodes page frm m = (homeOk h nodes && msgOk m && inR frm 0 (IntKind.wrap .i64 (nodes - 1)) && decide (m.page = page)):=by
 rw[hY];cases hh:homeOk h nodes with
 | false=>rfl
 | true =>
  have hn:=(bL hh).1;have:inR nodes 1 4 = true:=(am _ _ _).2 hn;rw[this,show decide (page = m.page) = decide (m.page = page) by rw[Bool.eq_iff_iff];simp;exact eq_comm];simp only[Bool.true_and]
def toldN (n:GNode) (L:List GTold):GNode:={ n with out:=(tellRun L n.out).1 }
theorem qQ (hk:homeKind m) (hp:m.page % nodes = n.id) {p:Nat} (hpn:m.page.toNat = p) (e1:p < n.homes.length) :
  nodeGot v n nodes frm m = (⟨n.id,n.frames,n.homes.set p (homeHear v n.homes[p] nodes m.page frm m).1,n.out,n.in_⟩,(homeHear v n.homes[p] nodes m.page frm m).2):=by
 unfold nodeGot
 rw[if_pos hk,if_pos hp,hpn,getD_at e1]
 rfl
theorem oe (hk:¬ homeKind m) (hp:m.page % nodes = frm) {p:Nat} (hpn:m.page.toNat = p) (e1:p < n.frames.length) :
  nodeGot v n nodes frm m = (⟨n.id,n.frames.set p (frameHear n.frames[p] m).1,n.homes,n.out,n.in_⟩,if (frameHear n.frames[p] m).2.2 = true then [⟨frm,(frameHear n.frames[p] m).2.1⟩] else []):=by
 unfold nodeGot
 rw[if_neg hk,if_pos hp,hpn,getD_at e1]
 rfl
theorem ku (h1:homeKind m → ¬ m.page % nodes = n.id) (h2:¬ homeKind m → ¬ m.page % nodes = frm):nodeGot v n nodes frm m = (n,[]):=by
 unfold nodeGot;by_cases hk:homeKind m
 ·rw[if_pos hk,if_neg (h1 hk)]
 ·rw[if_neg hk,if_neg (h2 hk)]
theorem oU (h:nodeHearOk n nodes frm m = true):nodeHear v n nodes frm m = if (tellRun (nodeGot v n nodes frm m).2 (nodeGot v n nodes frm m).1.out).2 = true then (toldN (nodeGot v n nodes frm m).1 (nodeGot v n nodes frm m).2,true) else (n,false):=by
 unfold nodeHear;rw[if_pos h,ia];split
 ·rename_i heq;split at heq
  ·rename_i hb;cases heq;rw[if_pos hb];rfl
  ·cases heq
 ·rename_i heq;split at heq
  ·cases heq
  ·rename_i hb;rw[if_neg hb]
theorem uC (hs:n.small) (hm:m.small) (h:nodeHearOk n nodes frm m = true):(nodeGot v n nodes frm m).1.small ∧ (nodeGot v n nodes frm m).1.out = n.out ∧ (nodeGot v n nodes frm m).2.length ≤ 100 ∧ ∀ t ∈ (nodeGot v n nodes frm m).2,(0 ≤ t.to ∧ t.to < (n.out.length:Int)) ∧ t.msg.small:=by
 obtain ⟨k1,k2,k3,k4,k5⟩:=bZ h;obtain ⟨l1,l2,l3,-,-,-,-,-⟩:=aH k1;have hs0:=hs;obtain ⟨q1,q2,q3,q4,q5,q6,q7⟩:=hs;(have e1:m.page.toNat < n.homes.length:=by omega);(have e2:m.page.toNat < n.frames.length:=by omega);by_cases hk:homeKind m
 ·by_cases hp:m.page % nodes = n.id
  ·rw[qQ hk hp rfl e1];have hh:n.homes[m.page.toNat].small:=q4 _ (List.getElem_mem e1);refine ⟨⟨q1,q2,by simpa using q3,fun a ha=>?_,q5,q6,q7⟩,rfl,kg hh hm,iH hh hm l3.symm (by omega)⟩;rcases List.mem_or_eq_of_mem_set ha with ha | rfl
   ·exact q4 a ha
   ·exact kr (lC ((aH k1).2.2.2.2.2.1 _ e1))
  ·rw[ku (fun _=>hp) (fun x=>absurd hk x)];exact ⟨hs0,rfl,by simp,fun t ht=>by cases ht⟩
 ·by_cases hp:m.page % nodes = frm
  ·rw[oe hk hp rfl e2];have hf:n.frames[m.page.toNat].small:=q2 _ (List.getElem_mem e2);obtain ⟨f1,f2⟩:=gu hf hm;refine ⟨⟨by simpa using q1,fun a ha=>?_,q3,q4,q5,q6,q7⟩,rfl,by simp only;split <;> simp,fun t ht=>?_⟩
   ·rcases List.mem_or_eq_of_mem_set ha with ha | rfl
    ·exact q2 a ha
    ·exact f1
   ·simp only at ht;split at ht
    ·obtain rfl:=List.mem_singleton.1 ht;exact ⟨by simp only;omega,f2⟩
    ·cases ht
  ·rw[ku (fun x=>absurd x hk) (fun _=>hp)];exact ⟨hs0,rfl,by simp,fun t ht=>by cases ht⟩
end
theorem fH (n:GNode) (nodes frm:Int) (m:GMsg):nodeHearOk n nodes frm m = (nodeOk n nodes && msgOk m && inR frm 0 (IntKind.wrap .i64 (nodes - 1))):=by
 rw[ee];cases hh:nodeOk n nodes with
 | false=>rfl
 | true =>
  have hn:inR nodes 1 4 = true:=by
   unfold nodeOk nodeHd at hh;simp only[Bool.and_eq_true] at hh;exact hh.1.1.1.1.1.1.1.1.1
  rw[hn];simp only[Bool.true_and]
section
variable {w:GWorld} {d:GDeed} {v:Bool} {f:GFlock}
theorem wLine_b (h:¬ (0 ≤ d.b ∧ d.b < w.size)):wLine w d = (w,2):=by
 unfold wLine;rw[if_neg];rw[am];omega
theorem sE (h:WOk w) (hb:0 ≤ d.b ∧ d.b < w.size) (hk:d.kind = 1) {a b:Nat} (ha:d.a = (a:Int)) (hbb:d.b = (b:Int)) (e1:a < w.nodes.length) (e2:b < w.nodes[a].out.length) (hc:¬ (0 ≤ d.c ∧ d.c < (w.nodes[a].out[b].queue.length:Int))):wLine w d = (w,3):=by
 unfold wLine;rw[if_pos ((am _ _ _).2 (by omega)),if_pos hk,aY (t:=a) (by omega) e1,show d.b.toNat = b by omega,getD_at e2,if_neg];rw[am];omega
theorem sF (h:WOk w) (hb:0 ≤ d.b ∧ d.b < w.size) (hk:d.kind = 1) {a b c:Nat} (ha:d.a = (a:Int)) (hbb:d.b = (b:Int)) (hcc:d.c = (c:Int)) (e1:a < w.nodes.length) (e2:b < w.nodes[a].out.length) (e3:c < w.nodes[a].out[b].queue.length) :
  wLine w d = if w.net.length = 40 then (w,4) else (⟨w.size,w.nodes,w.net ++ [⟨d.a,d.b,false,w.nodes[a].out[b].base + d.c,w.nodes[a].out[b].queue[c]⟩]⟩,0):=by
 unfold wLine
 rw[if_pos ((am _ _ _).2 (by omega)),if_pos hk,aY (t:=a) (by omega) e1,show d.b.toNat = b by omega,getD_at e2,if_pos ((am _ _ _).2 (by omega)),show d.c.toNat = c by omega,getD_at e3]
 rfl
theorem uD (h:WOk w) (hb:0 ≤ d.b ∧ d.b < w.size) (hk:¬ d.kind = 1) {a b:Nat} (ha:d.a = (a:Int)) (hbb:d.b = (b:Int)) (e1:a < w.nodes.length) (e2:b < w.nodes[a].in_.length) :
  wLine w d = if w.net.length = 40 then (w,4) else (⟨w.size,w.nodes,w.net ++ [⟨d.a,d.b,true,w.nodes[a].in_[b].got,zMsg⟩]⟩,0):=by
 unfold wLine
 rw[if_pos ((am _ _ _).2 (by omega)),if_neg hk,aY (t:=a) (by omega) e1,show d.b.toNat = b by omega,getD_at e2]
 rfl
theorem uE (h:¬ (0 ≤ d.a ∧ d.a < (w.net.length:Int))):wNet v w d = (w,2):=by
 unfold wNet;rw[if_neg];rw[am];omega
theorem uF (hk:d.kind = 5) {a:Nat} (ha:d.a = (a:Int)) (e1:a < w.net.length):wNet v w d = if w.net.length = 40 then (w,4) else (⟨w.size,w.nodes,w.net ++ [w.net[a]]⟩,0):=by
 unfold wNet;rw[if_pos ((am _ _ _).2 (by omega)),if_pos hk,show d.a.toNat = a by omega,getD_at e1]
theorem uG (hk:d.kind = 4) {a:Nat} (ha:d.a = (a:Int)) (e1:a < w.net.length):wNet v w d = (⟨w.size,w.nodes,w.net.take a ++ w.net.drop (a + 1)⟩,0):=by
 unfold wNet;rw[if_pos ((am _ _ _).2 (by omega)),if_neg (by omega),if_pos hk,show d.a.toNat = a by omega];rfl
theorem og (hk:¬ d.kind = 5) (hk2:¬ d.kind = 4) {a:Nat} (ha:d.a = (a:Int)) (e1:a < w.net.length):wNet v w d = (wGive v ⟨w.size,w.nodes,w.net.take a ++ w.net.drop (a + 1)⟩ w.net[a],0):=by
 unfold wNet;rw[if_pos ((am _ _ _).2 (by omega)),if_neg hk,if_neg hk2,show d.a.toNat = a by omega,getD_at e1];rfl
theorem sX (h:d.kind = 3 ∨ d.kind = 4 ∨ d.kind = 5):wDo v w d = wNet v w d:=if_pos h
theorem wDo_out (h:¬ (d.kind = 3 ∨ d.kind = 4 ∨ d.kind = 5)) (ha:¬ (0 ≤ d.a ∧ d.a < w.size)):wDo v w d = (w,2):=by
 unfold wDo;rw[if_neg h,if_neg];rw[am];omega
theorem vX (h:¬ (d.kind = 3 ∨ d.kind = 4 ∨ d.kind = 5)) (ha:0 ≤ d.a ∧ d.a < w.size) (h6:¬ d.kind = 6):wDo v w d = wLine w d:=by
 unfold wDo;rw[if_neg h,if_pos ((am _ _ _).2 (by omega)),if_neg h6]
theorem vY {a:Int} (h:¬ (0 ≤ a ∧ a < (f.cores.length:Int))):fRun f a = (f,2,1):=by
 unfold fRun;rw[if_neg];rw[am];omega
theorem fRun_at {i:Int} {a:Nat} (ha:i = (a:Int)) (e0:a < f.cores.length) (e1:a < f.world.nodes.length) :
  fRun f i = if (coreStep f.cores[a] f.world.nodes[a] f.world.size).2.2 = 2 then (f,3,2) else (⟨⟨f.world.size,f.world.nodes.set a (coreStep f.cores[a] f.world.nodes[a] f.world.size).2.1,f.world.net⟩,f.cores.set a (coreStep f.cores[a] f.world.nodes[a] f.world.size).1⟩,0,(coreStep f.cores[a] f.world.nodes[a] f.world.size).2.2):=by
 unfold fRun
 rw[if_pos ((am _ _ _).2 (by omega)),show coreAtI f i = f.cores[a] by (unfold coreAtI;rw[show i.toNat = a by omega,getD_at e0]),aY (t:=a) (by omega) e1,show i.toNat = a by omega]
theorem fDo_7 (h:d.kind = 7):fDo v f d = fRun f d.a:=if_pos h
theorem vZ {p:GPacket} {t r:Nat} (ht:p.to.toNat = t) (hr:p.from_.toNat = r) (e1:t < w.nodes.length) (e2:r < w.nodes[t].in_.length) (ha:p.ack = false) :
  ∃ (h1:t < (wGive v w p).nodes.length) (h2:r < (wGive v w p).nodes[t].in_.length),((wGive v w p).nodes[t].in_[r].got ≠ w.nodes[t].in_[r].got ↔ heardB v w p = true):=by
 cases hb:arrB w.nodes[t].in_[r] p.n with
 | false =>
  obtain ⟨q,qb⟩:=dH (v:=v) ha ht e1 hr e2 hb
  simp only[q,qb]
  exact ⟨e1,e2,by simp⟩
 | true =>
  cases hh:(nodeHear v w.nodes[t] w.size p.from_ p.msg).2 with
  | false =>
   obtain ⟨q,qb⟩:=cI (v:=v) ha ht e1 hh
   simp only[q,qb]
   exact ⟨e1,e2,by simp⟩
  | true =>
   obtain ⟨q,qb⟩:=ck (v:=v) ha ht e1 hr e2 hb hh
   have hi:=ib (v:=v) (n:=w.nodes[t]) (nodes:=w.size) (frm:=p.from_) (m:=p.msg)
   simp only[q,qb,List.length_set,List.getElem_set_self,hi]
   refine ⟨e1,e2,?_⟩
   have:arrR w.nodes[t].in_[r] p.n = ⟨w.nodes[t].in_[r].got + 1⟩:=if_pos hb
   simp only[this]
   constructor
   ·intro _;trivial
   ·intro _;omega
theorem sG {p:GPacket}:(wGive v w p).size = w.size ∧ (wGive v w p).nodes.length = w.nodes.length:=by
 unfold wGive;split
 ·exact ⟨rfl,by simp⟩
 ·split
  ·exact ⟨rfl,by simp⟩
  ·exact ⟨rfl,rfl⟩
theorem kv:(wDo v w d).1.size = w.size ∧ (wDo v w d).1.nodes.length = w.nodes.length:=by
 unfold wDo wNet wLine wPut;(repeat' split);all_goals first | exact ⟨rfl,rfl⟩ | exact ⟨rfl,by simp⟩ | exact sG
end
theorem uH {E:Els} {a:Nat} (h:a < E.length) (x:List T) (z:Nat):(movedEs (E.set a x) z 0 a).length = E.length:=by
 unfold movedEs;simp;omega
theorem bE (E:Els) (a z:Nat):(movedEs E z 0 a).drop (a + 1) = E.drop (a + 1):=by
 unfold movedEs;rw[List.take_zero,List.nil_append,Nat.zero_add,List.drop_append,List.length_replicate,List.drop_of_length_le (by simp),List.nil_append,List.drop_drop];congr 1;omega
theorem cd {α:Type} {f:α → List T} {xs:List α} {a n m:Nat} (hn:n = a + m) (hm:m = xs.length - (a + 1)) (ha:a < xs.length):List.take n (List.take a (enc f xs) ++ List.take m (List.drop (a + 1) (enc f xs))) = enc f (xs.take a ++ xs.drop (a + 1)):=by
 have h1:List.take m (List.drop (a + 1) (enc f xs)) = List.drop (a + 1) (enc f xs):=List.take_of_length_le (by rw[List.length_drop,aL];omega);rw[h1,List.take_of_length_le (by rw[List.length_append,List.length_take,List.length_drop,aL];omega)];unfold enc;rw[List.map_append,List.map_take,List.map_drop]
section
variable {w:GWorld} {d:GDeed} {v:Bool} {f:GFlock}
theorem wd (h7:¬ d.kind = 7) (h:¬ (d.kind = 3 ∧ 0 ≤ d.a ∧ d.a < (f.world.net.length:Int))):fDo v f d = (⟨(wDo v f.world d).1,f.cores⟩,(wDo v f.world d).2,1):=by
 unfold fDo;rw[if_neg h7]
 have:fCores v f d = f.cores:=by
  unfold fCores;rw[if_neg];rintro ⟨a,b,-⟩;rw[am] at b;exact h ⟨a,by omega,by omega⟩
 rw[this]
theorem we (h3:d.kind = 3) {a:Nat} (ha:d.a = (a:Int)) (e1:a < w.net.length):wDo v w d = (wGive v ⟨w.size,w.nodes,netCut w.net a⟩ w.net[a],0):=by
 rw[sX (Or.inl h3),og (by omega) (by omega) ha e1];rfl
theorem fDo_3 (h3:d.kind = 3) {a:Nat} (ha:d.a = (a:Int)) (e1:a < f.world.net.length) :
  fDo v f d = (⟨(wDo v f.world d).1,if heardB v f.world f.world.net[a] = true then f.cores.set f.world.net[a].to.toNat (coreHear (coreAtI f f.world.net[a].to) f.world.net[a].msg) else f.cores⟩,0,1):=by
 unfold fDo
 have han:d.a.toNat = a:=by omega
 rw[if_neg (by omega),we h3 ha e1]
 unfold fCores
 rw[han,getD_at e1]
 have hi:inR d.a 0 ((f.world.net.length:Int) - 1) = true:=(am _ _ _).2 (by omega)
 by_cases hb:heardB v f.world f.world.net[a] = true
 ·have hb2:heardB v { f.world with net:=netCut f.world.net a } f.world.net[a] = true:=hb
  rw[if_pos ⟨h3,hi,hb2⟩,if_pos hb]
 ·have hb2:¬ heardB v { f.world with net:=netCut f.world.net a } f.world.net[a] = true:=hb
  rw[if_neg (fun q=>hb2 q.2.2),if_neg hb]
theorem wg (h3:d.kind = 3) {a t r:Nat} (ha:d.a = (a:Int)) (e1:a < w.net.length) (ht:w.net[a].to.toNat = t) (hr:w.net[a].from_.toNat = r) (e2:t < w.nodes.length) (e3:r < w.nodes[t].in_.length) (hk:w.net[a].ack = false) :
  ∃ (h1:t < (wDo v w d).1.nodes.length) (h2:r < (wDo v w d).1.nodes[t].in_.length),((wDo v w d).1.nodes[t].in_[r].got ≠ w.nodes[t].in_[r].got ↔ heardB v w w.net[a] = true):=by
 have:=vZ (v:=v) (w:=⟨w.size,w.nodes,netCut w.net a⟩) (p:=w.net[a]) ht hr e2 e3 hk
 rw[we h3 ha e1]
 exact this
theorem sH {p:GPacket} (h:p.ack = true):heardB v w p = false:=by unfold heardB;rw[h];rfl
theorem lI (h:¬ (flockOk f = true ∧ 1 ≤ d.kind ∧ d.kind ≤ 7)):flockDo v f d = (zFlock,1):=by
 unfold flockDo;rw[if_neg];rw[Bool.and_eq_true,am];exact h
theorem jp (h:flockOk f = true) (hk:1 ≤ d.kind ∧ d.kind ≤ 7):flockDo v f d = ((fDo v f d).1,(fDo v f d).2.1):=by
 unfold flockDo;rw[if_pos];rw[Bool.and_eq_true,am];exact ⟨h,hk⟩
end
theorem lJ (x:GIns):isW (codeOf x) = true:=by
 unfold codeOf;split
 ·rename_i h
  obtain ⟨h0,h1,h2,h3,h4⟩:=cj h;unfold isW;rw[am];omega
 ·decide
theorem uI {x:Int} (h:x ∈ [0,1,5,65535]):isW x = true:=by
 simp at h;rcases h with rfl | rfl | rfl | rfl <;> decide
theorem sI {xs:List Int} {x:Int} (h:∀ a ∈ xs,isW a = true) (hx:isW x = true):∀ a ∈ xs ++ [x],isW a = true:=by
 intro a ha;rcases List.mem_append.1 ha with ha | ha
 ·exact h a ha
 ·obtain rfl:=List.mem_singleton.1 ha;exact hx
theorem oh {xs:List Int} (h:∀ a ∈ xs,isW a = true) (i:Nat) (c:GIns):∀ a ∈ xs.set i (codeOf c),isW a = true:=by
 intro a ha;rcases List.mem_or_eq_of_mem_set ha with ha | rfl
 ·exact h a ha
 ·exact lJ c
theorem wh {xs:List Int} {n:Int} (h:∀ a ∈ xs,isW a = true) (hl:(xs.length:Int) = n):wordsOk xs n = true:=by
 unfold wordsOk;rw[Bool.and_eq_true,decide_eq_true_eq,List.all_eq_true];exact ⟨hl,h⟩
theorem newOk {n:Int} {mem:List Int} (h1:1 ≤ n) (h2:n ≤ 4) (h:∀ a ∈ mem,isW a = true) (hl:mem.length = 24):flockNewOk n mem = true:=by
 unfold flockNewOk;rw[Bool.and_eq_true,am];exact ⟨⟨h1,h2⟩,wh h (by omega)⟩
section
variable {f:GFlock} {d:GDeed} {v:Bool}
theorem FOk.go (h:FOk f):FOk (if (flockDo v f d).2 = 0 then (flockDo v f d).1 else f):=by
 split
 ·rename_i hc
  by_cases hk:1 ≤ d.kind ∧ d.kind ≤ 7
  ·rw[jp ((dW f).2 h) hk];exact h.deed
  ·rw[lI (fun q=>hk q.2)] at hc;cases hc
 ·exact h
theorem FOk.code (h:FOk f) (hk:1 ≤ d.kind ∧ d.kind ≤ 7):(flockDo v f d).2 ≠ 1:=by
 rw[jp ((dW f).2 h) hk];(show (fDo v f d).2.1 ≠ 1);unfold fDo fRun wDo wNet wLine wPut;(repeat' split);all_goals simp
theorem nH {n:Int} {mem starts:List Int} (h:flockNewOk n mem = true):(flockNew n mem starts).world.size = n ∧ ((flockNew n mem starts).world.nodes.length:Int) = n ∧ ((flockNew n mem starts).cores.length:Int) = n:=by
 have hF:=oS (starts:=starts) h;(have hs:(flockNew n mem starts).world.size = n:=by unfold flockNew;rw[if_pos h]);have a:=hF.world.len;have b:=hF.len;exact ⟨hs,by omega,by omega⟩
end
section
variable {f:GFlock} {d:GDeed} {v:Bool}
theorem wi:(fDo v f d).1.world.size = f.world.size:=by
 unfold fDo;split
 ·unfold fRun;(repeat' split);all_goals rfl
 ·exact kv.1
theorem oV (hc:(flockDo v f d).2 = 0):(flockDo v f d).1.world.size = f.world.size:=by
 revert hc;unfold flockDo;split
 ·intro _;exact wi
 ·intro h;cases h
theorem sJ {c:GCore} {n:GNode} {nodes:Int} (h:coreOkB c n nodes = true):(∀ a ∈ c.cache,a.small) ∧ (∀ a ∈ n.frames,a.small) ∧ c.cache.length ≤ 1048576 ∧ n.frames.length ≤ 1048576:=by
 obtain ⟨-,a,b⟩:=iK h;obtain ⟨f1,-,-,-,f5,-⟩:=aH (gj h);refine ⟨b,fun x hx=>?_,a,by omega⟩;obtain ⟨i,hi,rfl⟩:=List.getElem_of_mem hx;exact iJ (f5 i hi)
end
end Go.Tw
