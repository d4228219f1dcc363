/- slices.Grow at whole numbers, out of the library. -/
import Derived.Test.YtfjoibkopjdomaaBaseE
import Derived.Test.YtfjoibkopjdomaaR6Ty
set_option linter.unusedSimpArgs false
set_option linter.unusedVariables false
set_option linter.unnecessarySimpa false
namespace Go.Proofs
open Go.Shelf
def Try.growI_ren : Go.Shelf.Ren := ⟨fun | 4 => 189 | n => n, fun | 22 => 24 | 25 => 3 | 3 => 3 | 4 => 4 | 9 => 9 | 20 => 20 | 0 => 0 | n => n, fun | n => n⟩
theorem Try.growI : Go.Proofs.Lays8.n4 Try.prog Try.growI_ren := {
  mixed := by kernel_rfl
  f4 := ⟨Try.f189.name, by decide, Try.func189.trans (congrArg some (by kernel_rfl))⟩
  t0 := Try.underlying0
  a0 := Try.isAgg0
  z0 := Try.sizeOf0
  v0 := Try.zeroValue0
  t3 := Try.underlying3
  a3 := Try.isAgg3
  z3 := Try.sizeOf3
  v3 := Try.zeroValue3
  t4 := Try.underlying4
  a4 := Try.isAgg4
  z4 := Try.sizeOf4
  v4 := Try.zeroValue4
  t9 := Try.underlying9
  a9 := Try.isAgg9
  z9 := Try.sizeOf9
  v9 := Try.zeroValue9
  t20 := Try.underlying20
  a20 := Try.isAgg20
  z20 := Try.sizeOf20
  v20 := Try.zeroValue20
  t22 := Try.underlying24
  a22 := Try.isAgg24
  z22 := Try.sizeOf24
  v22 := Try.zeroValue24 }
end Go.Proofs
namespace Go.Tw
open Go.Proofs
theorem grow_int {σ : St} {K : St → V → Prop} {n : Nat} (hn : n ≤ 1048576) (hfr : get σ.row σ.nxt = none) (hK : K (σ.answer [(false, [.sl 1 []])]) (.l (.ref σ.nxt [] 1 0 0))) {k : Bool} : CallW Try.prog k 189 [.l .nil, .l (.t (.int .i64 n))] K σ :=
  CallW_grow ⟨_, Try.func189, rfl, rfl⟩ (fun oa w => grow_ty Try.growI (by show (tyOf _ 3).known = _; rw [ty3]) (by show (tyOf _ 3).sz = _; rw [ty3]) (by show (tyOf _ 3).by_ = _; rw [ty3]) hn oa w) hfr hK
end Go.Tw
