/- Walks of functions. -/
import Derived.Test.YtfajbeoajomljaaGreatBaseE
import Derived.Test.YtfajbeoajomljaaGreatWAD
import Derived.Test.YtfajbeoajomljaaGreatWCAF
set_option linter.unusedSimpArgs false
set_option linter.unusedVariables false
set_option linter.unnecessarySimpa false
set_option maxRecDepth 100000
set_option maxHeartbeats 4000000
namespace Go.Tw
open Go.Proofs
theorem eF (p:GPacket) (hx:p.msg.list.length ≤ 1048576):PC Tryz.prog 257 [(true,ePacket p)] [(true,ePacket p)]:=by
 refine av (n:=8) Tryz.func257 rfl rfl rfl rfl (by simp) ?_;refine aa fun K h=>ab ?_;simp[go_sem];refine h _ ?_;clear h K;refine aa fun K2 h2=>?_;refine ab ?_;simp[go_sem];refine ah (fun hG=>cT p.msg (by omega)) (fun hG=>by simp[go_sem]) rfl rfl ?_;simp[go_sem];refine h2 _ ?_;clear h2 K2;refine aa fun K h=>ab ?_;simp[go_sem];refine h _ ?_;clear h K;refine ae ?_;simp[go_sem]
theorem jC (w:GWorld) (hs:w.small):PC Tryz.prog 212 [(true,eWorld w)] [(true,eWorld w)]:=by
 have hs1:=hs;unfold GWorld.small at hs1;obtain ⟨q1,q2,q3,q4⟩:=hs1;refine av (n:=42) Tryz.func212 rfl rfl rfl rfl (by simp) ?_;(iterate 2 (refine aa fun K h=>ab ?_;simp[go_sem];refine h _ ?_;clear h K));refine aa fun K3 h3=>?_;refine aa fun K h=>ab ?_;simp[go_sem];refine h _ ?_;clear h K;refine ak ?_;refine aA (α:=Nat) (fun i=>({ env:=[(1,true,.l (.ptr 3 0)),(2,true,.l (.ptr 4 0)),(3,true,.l (.ptr 5 0)),(12,true,.l (.ref 1 [] 5 0 (w.nodes).length)),(13,true,.l (.t (.int .i64 ((w.nodes.length:Int))))),(14,true,.l (.t (.int .i64 (i))))],box:=[(3,[.t (.int .i64 w.size),.ref 1 [] 5 0 (w.nodes).length,.ref 2 [] 8 0 (w.net).length]),(4,[.t (.int .i64 0),.nil,.nil]),(5,[.t (.int .i64 w.size),.ref 44 [] 5 0 (w.nodes.take i).length,.nil])],row:=[(1,⟨.ro,5,enc eNode w.nodes⟩),(2,⟨.ro,8,enc ePacket w.net⟩),(44,⟨.own,5,enc eNode (w.nodes.take i)⟩)],nxt:=64,sav:=[] }:St)) (fun i=>i ≤ w.nodes.length) (fun i=>w.nodes.length - i) 0 ?_ ?_ ?_
 ·exact nb 5 1 44 5 rfl rfl rfl (on [1,2,3,12,13,14] [1,2,44] [3,4,5] 64 (by simp[go_sem,aK]))
 ·exact Nat.zero_le _
 rintro i hinv;refine aa fun K h=>ab ?_;simp[go_sem];refine h _ ?_;clear h K;refine aa fun K7 h7=>?_;refine ac rfl (fun hb8=>?_) fun hb8=>?_
 ·(have hlt_i:i < w.nodes.length:=by simpa using hb8);(have hmin_i:min i w.nodes.length = i:=by omega);(have hmin2_i:min (i + 1) w.nodes.length = i + 1:=by omega);have htk_i:=List.take_append_getElem hlt_i;clear hb8;refine ag ?_;refine h7 _ ?_;clear h7 K7;refine aa fun K9 h9=>?_;refine ak ?_;refine aa fun K h=>ab ?_;simp[go_sem,hlt_i,hmin_i];refine h _ ?_;clear h K;refine ao true mixed (by decide +kernel) ?_;simp[go_sem,hlt_i,hmin_i];refine ah (fun hG=>aW w.nodes[i] (by first | assumption | omega | exact q2 _ (List.getElem_mem (by assumption)) | exact q4 _ (List.getElem_mem (by assumption)))) (fun hG=>by simp[go_sem,hlt_i,hmin_i]) rfl rfl ?_;simp[go_sem,hlt_i,hmin_i];(repeat refine tk ?_);refine h9 _ ?_;clear h9 K9;refine ab ?_;simp[go_sem,hlt_i,hmin_i];refine ⟨i + 1,?_,?_,?_⟩
  ·exact sr 72 44 (on [1,2,3,12,13,14] [1,2,44] [3,4,5] 64 (by simp[go_sem,al (show i < 9223372036854775807 by omega),hlt_i,hmin_i,hmin2_i,htk_i]))
  ·exact hlt_i
  ·omega
 ·(have hil_i:i = w.nodes.length:=by simp at hb8;omega);clear hb8;refine aC ?_;simp[go_sem];refine h3 _ ?_;clear h7 K7 h3 K3;refine aa fun K11 h11=>?_;refine aa fun K h=>ab ?_;simp[go_sem,hil_i];refine h _ ?_;clear h K;refine ak ?_;refine aA (α:=Nat) (fun j=>({ env:=[(2,true,.l (.ptr 4 0)),(3,true,.l (.ptr 5 0)),(27,true,.l (.ref 2 [] 8 0 (w.net).length)),(28,true,.l (.t (.int .i64 ((w.net.length:Int))))),(29,true,.l (.t (.int .i64 (j))))],box:=[(4,[.t (.int .i64 0),.nil,.nil]),(5,[.t (.int .i64 w.size),.ref 44 [] 5 0 (w.nodes.take i).length,.ref 45 [] 8 0 (w.net.take j).length])],row:=[(2,⟨.ro,8,enc ePacket w.net⟩),(44,⟨.own,5,enc eNode (w.nodes.take i)⟩),(45,⟨.own,8,enc ePacket (w.net.take j)⟩)],nxt:=65,sav:=[] }:St)) (fun j=>j ≤ w.net.length) (fun j=>w.net.length - j) 0 ?_ ?_ ?_
  ·exact nb 5 2 45 8 rfl rfl rfl (on [2,3,27,28,29] [2,44,45] [4,5] 65 (by simp[go_sem,aK,hil_i]))
  ·exact Nat.zero_le _
  rintro j hinv;refine aa fun K h=>ab ?_;simp[go_sem,hil_i];refine h _ ?_;clear h K;refine aa fun K15 h15=>?_;refine ac rfl (fun hb16=>?_) fun hb16=>?_
  ·(have hlt_j:j < w.net.length:=by simpa using hb16);(have hmin_j:min j w.net.length = j:=by omega);(have hmin2_j:min (j + 1) w.net.length = j + 1:=by omega);have htk_j:=List.take_append_getElem hlt_j;clear hb16;refine ag ?_;refine h15 _ ?_;clear h15 K15;refine aa fun K17 h17=>?_;refine ak ?_;refine aa fun K h=>ab ?_;simp[go_sem,hil_i,hlt_j,hmin_j];refine h _ ?_;clear h K;refine ao true mixed (by decide +kernel) ?_;simp[go_sem,hil_i,hlt_j,hmin_j];refine ah (fun hG=>eF w.net[j] (by first | assumption | omega | exact q2 _ (List.getElem_mem (by assumption)) | exact q4 _ (List.getElem_mem (by assumption)))) (fun hG=>by simp[go_sem,hil_i,hlt_j,hmin_j]) rfl rfl ?_;simp[go_sem,hil_i,hlt_j,hmin_j];(repeat refine tk ?_);refine h17 _ ?_;clear h17 K17;refine ab ?_;simp[go_sem,hil_i,hlt_j,hmin_j];refine ⟨j + 1,?_,?_,?_⟩
   ·exact sr 76 45 (on [2,3,27,28,29] [2,44,45] [4,5] 65 (by simp[go_sem,al (show j < 9223372036854775807 by omega),hlt_j,hmin_j,hmin2_j,htk_j,hil_i]))
   ·exact hlt_j
   ·omega
  ·(have hil_j:j = w.net.length:=by simp at hb16;omega);clear hb16;refine aC ?_;simp[go_sem];refine h11 _ ?_;clear h15 K15 h11 K11;refine aa fun K h=>ab ?_;simp[go_sem,hil_i,hil_j];refine h _ ?_;clear h K;refine ae ?_;simp[go_sem,hil_i,hil_j]
end Go.Tw
