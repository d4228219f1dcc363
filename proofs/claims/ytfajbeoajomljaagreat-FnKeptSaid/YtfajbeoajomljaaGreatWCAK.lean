/- Walks of functions. -/
import Derived.Test.YtfajbeoajomljaaGreatBaseE
import Derived.Test.YtfajbeoajomljaaGreatWAF
set_option linter.unusedSimpArgs false
set_option linter.unusedVariables false
set_option linter.unnecessarySimpa false
set_option maxRecDepth 100000
set_option maxHeartbeats 4000000
namespace Go.Tw
open Go.Proofs
theorem oW (code:List Int) :PC Tryz.prog 19 [(false,[.sl 1 (enc eU code)])] [(false,[.bool (decide ((1048576:Int) < code.length))])]:=by
 refine av (n:=6) Tryz.func19 rfl rfl rfl rfl (by simp) ?_;(iterate 2 (refine aa fun K h=>ab ?_;simp[go_sem];refine h _ ?_;clear h K));refine ae ?_;simp[go_sem]
end Go.Tw
