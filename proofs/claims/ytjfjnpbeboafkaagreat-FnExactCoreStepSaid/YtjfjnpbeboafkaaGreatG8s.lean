/- Walks of functions: spec.CoreOk, impl.CoreOk -/
import Derived.Test.YtjfjnpbeboafkaaGreatG8r
import Derived.Test.YtjfjnpbeboafkaaGreatG8d
set_option linter.unusedSimpArgs false
set_option linter.unusedVariables false
set_option linter.unnecessarySimpa false
namespace Go.Tw
open Go.Proofs

set_option maxRecDepth 100000 in
set_option maxHeartbeats 4000000 in
theorem pc_spec_CoreOk (c : GCore) (x : GNode) (n : Int) (hs : c.small) (hn : x.small) : PC Tryz.prog 22 [(true, eCore c), (true, eNode x), (false, [.int .i64 n])] [(false, [.bool (nodeOk x n && (hartOk c.hart && cacheOk c.cache x.frames))])] := by
  have hn0 := hn
  unfold GCore.small GHart.small at hs
  unfold GNode.small at hn
  refine PC_of (n := 22) Tryz.func22 rfl rfl rfl rfl (by simp) ?_
  refine W_seqK fun K1 h1 => ?_
  refine W_reg ?_
  simp [go_sem, ty4, ty39, ty45]
  repeat refine tk ?_
  refine h1 _ ?_
  clear h1 K1
  refine W_seqK fun K2 h2 => ?_
  refine W_reg ?_
  simp [go_sem, ty3, ty4, ty45]
  refine callA (fun hG => pc_spec_NodeOk x n hn0) (fun hG => by simp [go_sem]) rfl rfl ?_
  simp [go_sem, ty4, ty36, ty39]
  refine callA (fun hG => pc_spec_HartOk c.hart (by omega)) (fun hG => by simp [go_sem]) rfl rfl ?_
  simp [go_sem, ty4, ty37, ty39, ty40, ty45, ty65, ty74]
  refine callA (fun hG => pc_spec_CacheOk c.cache x.frames hs.2.2 hn.2.1 (by omega) (by omega)) (fun hG => by simp [go_sem]) rfl rfl ?_
  simp [go_sem, ty4]
  repeat refine tk ?_
  refine h2 _ ?_
  clear h2 K2
  refine W_ret ?_
  simp [go_sem, Bool.and_assoc]

set_option maxRecDepth 100000 in
set_option maxHeartbeats 4000000 in
theorem pc_impl_CoreOk (c : GCore) (x : GNode) (n : Int) (hs : c.small) (hn : x.small) : PC Tryz.prog 41 [(true, eCore c), (true, eNode x), (false, [.int .i64 n])] [(false, [.bool (nodeOk x n && (hartOk c.hart && cacheOk c.cache x.frames))])] := by
  have hn0 := hn
  unfold GCore.small GHart.small at hs
  unfold GNode.small at hn
  refine PC_of (n := 22) Tryz.func41 rfl rfl rfl rfl (by simp) ?_
  refine W_seqK fun K1 h1 => ?_
  refine W_reg ?_
  simp [go_sem, ty4, ty39, ty45]
  repeat refine tk ?_
  refine h1 _ ?_
  clear h1 K1
  refine W_seqK fun K2 h2 => ?_
  refine W_reg ?_
  simp [go_sem, ty3, ty4, ty45]
  refine callA (fun hG => pc_impl_NodeOk x n hn0) (fun hG => by simp [go_sem]) rfl rfl ?_
  simp [go_sem, ty4, ty36, ty39]
  refine callA (fun hG => pc_impl_HartOk c.hart (by omega)) (fun hG => by simp [go_sem]) rfl rfl ?_
  simp [go_sem, ty4, ty37, ty39, ty40, ty45, ty65, ty74]
  refine callA (fun hG => pc_impl_CacheOk c.cache x.frames hs.2.2 hn.2.1 (by omega) (by omega)) (fun hG => by simp [go_sem]) rfl rfl ?_
  simp [go_sem, ty4]
  repeat refine tk ?_
  refine h2 _ ?_
  clear h2 K2
  refine W_ret ?_
  simp [go_sem, Bool.and_assoc]
end Go.Tw
