/- Walks of functions. -/
import Derived.Test.YtfajbeoajomljaaGreatBaseE
import Derived.Test.YtfajbeoajomljaaGreatWAE
set_option linter.unusedSimpArgs false
set_option linter.unusedVariables false
set_option linter.unnecessarySimpa false
set_option maxRecDepth 100000
set_option maxHeartbeats 4000000
namespace Go.Tw
open Go.Proofs
theorem nz (w:GWorld) (d:GDeed) (hx:w.net.length ≤ 1048576):PC Tryz.prog 217 [(true,eWorld w),(true,eDeed d)] [(false,[.bool (namedB w d)])]:=by
 refine av (n:=38) Tryz.func217 rfl rfl rfl rfl (by simp) ?_;refine aa fun K h=>ab ?_;simp[go_sem];refine h _ ?_;clear h K;refine aa fun K2 h2=>?_;refine aa fun K h=>ab ?_;simp[go_sem];refine h _ ?_;clear h K;refine ak ?_;refine aa fun K4 h4=>?_;refine aa fun K h=>ab ?_;simp[go_sem];refine h _ ?_;clear h K;refine ac rfl (fun hb6=>?_) fun hb6=>?_
 ·(have k0:d.kind = 3:=by simpa using hb6);(have k345:d.kind = 3 ∨ d.kind = 4 ∨ d.kind = 5:=by omega);clear hb6;refine ag ?_;refine h4 _ ?_;clear h4 K4;(refine ac rfl (fun hb7=>?_) fun hb7=>by first | (simp at hb7;omega) | simp_all);clear hb7;refine aa fun K8 h8=>?_;refine ab ?_;simp[go_sem];refine ah (fun hG=>aE d.a 0 (IntKind.wrap .i64 ((w.net.length:Int) - 1))) (fun hG=>by simp[go_sem]) rfl rfl ?_;simp[go_sem];refine h8 _ ?_;clear h8 K8;refine ae ?_;have q:=named_net (w:=w) k345;simp[go_sem,q]
 ·(have n3:¬ d.kind = 3:=by simpa using hb6);clear hb6;refine aa fun K h=>ab ?_;simp[go_sem];refine h _ ?_;clear h K;refine ac rfl (fun hb10=>?_) fun hb10=>?_
  ·(have k0:d.kind = 4:=by simpa using hb10);(have k345:d.kind = 3 ∨ d.kind = 4 ∨ d.kind = 5:=by omega);clear hb10;refine ag ?_;refine h4 _ ?_;clear h4 K4;(refine ac rfl (fun hb11=>?_) fun hb11=>by first | (simp at hb11;omega) | simp_all);clear hb11;refine aa fun K12 h12=>?_;refine ab ?_;simp[go_sem];refine ah (fun hG=>aE d.a 0 (IntKind.wrap .i64 ((w.net.length:Int) - 1))) (fun hG=>by simp[go_sem]) rfl rfl ?_;simp[go_sem];refine h12 _ ?_;clear h12 K12;refine ae ?_;have q:=named_net (w:=w) k345;simp[go_sem,q]
  ·(have n4:¬ d.kind = 4:=by simpa using hb10);clear hb10;refine ab ?_;simp[go_sem];refine h4 _ ?_;clear h4 K4;refine ac rfl (fun hb13=>?_) fun hb13=>?_
   ·(have k0:d.kind = 5:=by simpa using hb13);(have k345:d.kind = 3 ∨ d.kind = 4 ∨ d.kind = 5:=by omega);clear hb13;refine aa fun K14 h14=>?_;refine ab ?_;simp[go_sem];refine ah (fun hG=>aE d.a 0 (IntKind.wrap .i64 ((w.net.length:Int) - 1))) (fun hG=>by simp[go_sem]) rfl rfl ?_;simp[go_sem];refine h14 _ ?_;clear h14 K14;refine ae ?_;have q:=named_net (w:=w) k345;simp[go_sem,q]
   ·(have n5:¬ d.kind = 5:=by simpa using hb13);clear hb13;refine aa fun K15 h15=>?_;refine aa fun K h=>ab ?_;simp[go_sem];refine h _ ?_;clear h K;refine ac rfl (fun hb17=>?_) fun hb17=>?_
    ·(have k0:d.kind = 1:=by simpa using hb17);(have k12:d.kind = 1 ∨ d.kind = 2:=by omega);clear hb17;refine ag ?_;refine h15 _ ?_;clear h15 K15;(refine ac rfl (fun hb18=>?_) fun hb18=>by first | (simp at hb18;omega) | simp_all);clear hb18;refine aa fun K19 h19=>?_;refine ab ?_;simp[go_sem];refine ah (fun hG=>aZ d.a w.size) (fun hG=>by simp[go_sem]) rfl rfl ?_;simp[go_sem];refine ah (fun hG=>aZ d.b w.size) (fun hG=>by simp[go_sem]) rfl rfl ?_;simp[go_sem];refine h19 _ ?_;clear h19 K19;refine ae ?_;have q:=named_line (w:=w) k12;simp[go_sem,q,wof2]
    ·(have n1:¬ d.kind = 1:=by simpa using hb17);clear hb17;refine ab ?_;simp[go_sem];refine h15 _ ?_;clear h15 K15;refine ac rfl (fun hb20=>?_) fun hb20=>?_
     ·(have k0:d.kind = 2:=by simpa using hb20);(have k12:d.kind = 1 ∨ d.kind = 2:=by omega);clear hb20;refine aa fun K21 h21=>?_;refine ab ?_;simp[go_sem];refine ah (fun hG=>aZ d.a w.size) (fun hG=>by simp[go_sem]) rfl rfl ?_;simp[go_sem];refine ah (fun hG=>aZ d.b w.size) (fun hG=>by simp[go_sem]) rfl rfl ?_;simp[go_sem];refine h21 _ ?_;clear h21 K21;refine ae ?_;have q:=named_line (w:=w) k12;simp[go_sem,q,wof2]
     ·(have n2:¬ d.kind = 2:=by simpa using hb20);clear hb20;refine ag ?_;refine h2 _ ?_;clear h2 K2;refine aa fun K22 h22=>?_;refine ab ?_;simp[go_sem];refine ah (fun hG=>aZ d.a w.size) (fun hG=>by simp[go_sem]) rfl rfl ?_;simp[go_sem];refine h22 _ ?_;clear h22 K22;refine ae ?_;have q:=named_else (w:=w) (d:=d) (by omega) (by omega);simp[go_sem,q,wof2]
end Go.Tw
