/- Walks of functions. -/
import Derived.Test.YtfajbeoajomljaaGreatBaseE
import Derived.Test.YtfajbeoajomljaaGreatWAI
import Derived.Test.YtfajbeoajomljaaGreatWCAQ
set_option linter.unusedSimpArgs false
set_option linter.unusedVariables false
set_option linter.unnecessarySimpa false
set_option maxRecDepth 100000
set_option maxHeartbeats 4000000
namespace Go.Tw
open Go.Proofs
theorem fa (f:GFlock) (hs:f.small):PC Tryz.prog 126 [(true,eFlock f)] [(true,eFlock f)]:=by
 have hs1:=hs;unfold GFlock.small at hs1;obtain ⟨q0,q1,q2⟩:=hs1;refine av (n:=26) Tryz.func126 rfl rfl rfl rfl (by simp) ?_;refine aa fun K h=>ab ?_;simp[go_sem];refine h _ ?_;clear h K;refine aa fun K2 h2=>?_;refine ab ?_;simp[go_sem];refine ah (fun hG=>jC f.world (by first | assumption | omega | exact q2 _ (List.getElem_mem (by assumption)))) (fun hG=>by simp[go_sem]) rfl rfl ?_;simp[go_sem];refine h2 _ ?_;clear h2 K2;refine aa fun K3 h3=>?_;refine aa fun K h=>ab ?_;simp[go_sem];refine h _ ?_;clear h K;refine ak ?_;refine aA (α:=Nat) (fun i=>({ env:=[(2,true,.l (.ptr 5 0)),(3,true,.l (.ptr 9 0)),(11,true,.l (.ref 3 [] 4 0 (f.cores).length)),(12,true,.l (.t (.int .i64 ((f.cores.length:Int))))),(13,true,.l (.t (.int .i64 (i))))],box:=[(5,[.t (.int .i64 0),.nil,.nil,.nil]),(9,[.t (.int .i64 f.world.size),.ref 7 [] 5 0 (f.world.nodes).length,.ref 8 [] 8 0 (f.world.net).length,.ref 44 [] 4 0 (f.cores.take i).length])],row:=[(3,⟨.ro,4,enc eCore f.cores⟩),(7,⟨.own,5,enc eNode f.world.nodes⟩),(8,⟨.own,8,enc ePacket f.world.net⟩),(44,⟨.own,4,enc eCore (f.cores.take i)⟩)],nxt:=64,sav:=[] }:St)) (fun i=>i ≤ f.cores.length) (fun i=>f.cores.length - i) 0 ?_ ?_ ?_
 ·exact nb 9 3 44 4 rfl rfl rfl (on [2,3,11,12,13] [3,7,8,44] [5,9] 64 (by simp[go_sem,aK]))
 ·exact Nat.zero_le _
 rintro i hinv;refine aa fun K h=>ab ?_;simp[go_sem];refine h _ ?_;clear h K;refine aa fun K7 h7=>?_;refine ac rfl (fun hb8=>?_) fun hb8=>?_
 ·(have hlt_i:i < f.cores.length:=by simpa using hb8);(have hmin_i:min i f.cores.length = i:=by omega);(have hmin2_i:min (i + 1) f.cores.length = i + 1:=by omega);have htk_i:=List.take_append_getElem hlt_i;clear hb8;refine ag ?_;refine h7 _ ?_;clear h7 K7;refine aa fun K9 h9=>?_;refine ak ?_;refine aa fun K h=>ab ?_;simp[go_sem,hlt_i,hmin_i];refine h _ ?_;clear h K;refine ao true mixed (by decide +kernel) ?_;simp[go_sem,hlt_i,hmin_i];refine ah (fun hG=>dB f.cores[i] (by first | assumption | omega | exact q2 _ (List.getElem_mem (by assumption)))) (fun hG=>by simp[go_sem,hlt_i,hmin_i]) rfl rfl ?_;simp[go_sem,hlt_i,hmin_i];(repeat refine tk ?_);refine h9 _ ?_;clear h9 K9;refine ab ?_;simp[go_sem,hlt_i,hmin_i];refine ⟨i + 1,?_,?_,?_⟩
  ·exact sr 71 44 (on [2,3,11,12,13] [3,7,8,44] [5,9] 64 (by simp[go_sem,al (show i < 9223372036854775807 by omega),hlt_i,hmin_i,hmin2_i,htk_i]))
  ·exact hlt_i
  ·omega
 ·(have hil_i:i = f.cores.length:=by simp at hb8;omega);clear hb8;refine aC ?_;simp[go_sem];refine h3 _ ?_;clear h7 K7 h3 K3;refine aa fun K h=>ab ?_;simp[go_sem,hil_i];refine h _ ?_;clear h K;refine ae ?_;simp[go_sem,hil_i]
end Go.Tw
