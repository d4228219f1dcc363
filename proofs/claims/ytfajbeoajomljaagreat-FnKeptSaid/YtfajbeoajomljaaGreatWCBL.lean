/- Walks of functions. -/
import Derived.Test.YtfajbeoajomljaaGreatBaseE
import Derived.Test.YtfajbeoajomljaaGreatWCBK
set_option linter.unusedSimpArgs false
set_option linter.unusedVariables false
set_option linter.unnecessarySimpa false
set_option maxRecDepth 100000
set_option maxHeartbeats 4000000
namespace Go.Tw
open Go.Proofs
theorem jF (code:List Int) (hcs:code.length ≤ 1048576):PE Tryz.prog 20 [(false,[.sl 1 (enc eU code)])] (fun (x:Int × List Int × List Int × List GDeed)=>(1 ≤ x.1 ∧ x.1 ≤ 3) ∧ (x.2.1.length = 24 ∧ ∀ a ∈ x.2.1,isW a = true) ∧ x.2.2.1.length = 3 ∧ x.2.2.2.length ≤ 260 ∧ (∀ a ∈ x.2.2.2,1 ≤ a.kind ∧ a.kind ≤ 7)) (fun (x:Int × List Int × List Int × List GDeed)=>[(false,[.int .i64 x.1]),(false,[.sl 1 (enc eI x.2.1)]),(false,[.sl 1 (enc eI x.2.2.1)]),(false,[.sl 4 (enc eDeed x.2.2.2)])]):=by
 have hL:=ux code.length 120 260;(have hL0:0 ≤ longOf code.length 120 260:=by unfold longOf;split <;> omega);refine PE_of (n:=26) Tryz.func20 rfl rfl rfl rfl (by simp) ?_;refine aa fun K h=>ab ?_;simp[go_sem];refine h _ ?_;clear h K;refine aa fun K2 h2=>?_;refine ab ?_;simp[go_sem];refine aj (by simp) (uf (lM code hcs) rfl (by simp[go_sem]) rfl fun g3=>?_);simp[go_sem];refine ah (fun hG=>mw code 120 260 (by omega) (by omega) (by omega)) (fun hG=>by simp[go_sem]) rfl rfl ?_;simp[go_sem];refine aj (by simp) (ax (iT code hcs (longOf code.length 120 260) (by first | omega | (simp;done) | (simp;omega)) (by first | omega | (simp;done) | (simp;omega))) rfl rfl (by simp[go_sem]) (Int.le_refl 0) (by simp[go_sem]) _ (fun _=>rfl) rfl ?_);rintro i4 g4 hi4 ⟨n4,m4,st4,l4,f4⟩ hq4;(try dsimp only at hq4);simp[go_sem];refine h2 _ ?_;clear h2 K2;refine aa fun K h=>ab ?_;simp[go_sem];refine h _ ?_;clear h K;refine ae ?_;refine OutE_in (⟨n4,m4,st4,l4⟩) (by (dsimp only;obtain ⟨e1,e2,e3,e4,e5,e6⟩:=hq4;exact ⟨e1,e2,e3,by omega,e5⟩)) ?_;simp[go_sem]
end Go.Tw
