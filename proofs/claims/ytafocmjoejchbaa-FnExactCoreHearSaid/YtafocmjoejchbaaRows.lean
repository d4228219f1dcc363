/-
  No cell of these rows narrows 'for every input' (looked for: loops, veiled, ifaces, maps, wideKeys, modest, calm, conditions, laid).
  DERIVED. THE GIVEN ROWS OF THIS SEAT. 8 by the template 'for every input the law returns true; each argument reads behind the call as it read before'; 0 by the template 'total and deterministic' (their statements: YtafocmjoejchbaaTotals.lean).
  GIVEN WITH THE SEED: the statements are not yours to turn. If you find one false, say at which input.
  Laid BY PROGRAM, IN A SANDBOX (cutbox-rows.mjs): the forced cells as the released guide's own fill.sh prints them over the translation a8f9d3c1ffc012da… (all of the seat's roots in one cut). By AI agents, Wed Nov 11 2026. No macro, syntax, notation, axiom, sorry.
-/
import Derived.Test.YtafocmjoejchbaaChecked
import GoSem.Claim
import GoSem.ClaimJoined
import GoSem.ClaimMapViews
import Derived.JoinedTies
import Derived.KernelRfl
namespace Go.Proofs.Ytafocmjoejchbaa
/- THE CELL 'sum', in the pinned program and in every row, IS THE sha256 OF THE DUMP (.gsa) THAT YtafocmjoejchbaaProg.lean LOADS. Nothing in Lean hashes anything: it is a label: what it is worth is what the hold of that sum in a sandbox is worth. -/
noncomputable def Try.pinned : Pinned := { name := "ytafocmjoejchbaa", sum := "a8f9d3c1ffc012dae9e421d461b8481f2e88c87602fb04c103af352ba158fa43", checked := Try.checked }
namespace Rows
def none {H : Type} : Left H := { results := [], args := [] }

/-- 'laws.FnExactCacheAdd': WHATEVER THE INPUT: true; the input reads as it did. -/
def fnExactCacheAddSpec : ChangeSpec := { name := "fnExactCacheAdd", fn := fun _ => fun
  | [d1, d2] => { results := [.lit (.bool true)], args := [d1, d2] }
  | _ => none }
def fnExactCacheAddRow : OpenClaim := { program := "ytafocmjoejchbaa", sum := "a8f9d3c1ffc012dae9e421d461b8481f2e88c87602fb04c103af352ba158fa43", func := "loop.example/g00281/laws.FnExactCacheAdd", spec := "fnExactCacheAdd", apart := false }
def FnExactCacheAddSaid : Prop := fnExactCacheAddRow.holds Try.pinned (OpenSpec.ofChange fnExactCacheAddSpec)

/-- ITS FALSE NEIGHBOUR: 'it returns false'. Refute it at one input. -/
def fnExactCacheAddWrong : ChangeSpec := { name := "fnExactCacheAdd", fn := fun _ => fun
  | [d1, d2] => { results := [.lit (.bool false)], args := [d1, d2] }
  | _ => none }
def FnExactCacheAddWrongFalsely : Prop := fnExactCacheAddRow.holds Try.pinned (OpenSpec.ofChange fnExactCacheAddWrong)

/-- 'laws.FnExactPurge': WHATEVER THE INPUT: true; the input reads as it did. -/
def fnExactPurgeSpec : ChangeSpec := { name := "fnExactPurge", fn := fun _ => fun
  | [d1, d2] => { results := [.lit (.bool true)], args := [d1, d2] }
  | _ => none }
def fnExactPurgeRow : OpenClaim := { program := "ytafocmjoejchbaa", sum := "a8f9d3c1ffc012dae9e421d461b8481f2e88c87602fb04c103af352ba158fa43", func := "loop.example/g00281/laws.FnExactPurge", spec := "fnExactPurge", unfollowed := true, recurses := true, apart := false }
def FnExactPurgeSaid : Prop := fnExactPurgeRow.holds Try.pinned (OpenSpec.ofChange fnExactPurgeSpec)

/-- ITS FALSE NEIGHBOUR: 'it returns false'. Refute it at one input. -/
def fnExactPurgeWrong : ChangeSpec := { name := "fnExactPurge", fn := fun _ => fun
  | [d1, d2] => { results := [.lit (.bool false)], args := [d1, d2] }
  | _ => none }
def FnExactPurgeWrongFalsely : Prop := fnExactPurgeRow.holds Try.pinned (OpenSpec.ofChange fnExactPurgeWrong)

/-- 'laws.FnExactEventOf': WHATEVER THE INPUT: true; the input reads as it did. -/
def fnExactEventOfSpec : ChangeSpec := { name := "fnExactEventOf", fn := fun _ => fun
  | [d1, d2, d3] => { results := [.lit (.bool true)], args := [d1, d2, d3] }
  | _ => none }
def fnExactEventOfRow : OpenClaim := { program := "ytafocmjoejchbaa", sum := "a8f9d3c1ffc012dae9e421d461b8481f2e88c87602fb04c103af352ba158fa43", func := "loop.example/g00281/laws.FnExactEventOf", spec := "fnExactEventOf", unfollowed := true, recurses := true, apart := false }
def FnExactEventOfSaid : Prop := fnExactEventOfRow.holds Try.pinned (OpenSpec.ofChange fnExactEventOfSpec)

/-- ITS FALSE NEIGHBOUR: 'it returns false'. Refute it at one input. -/
def fnExactEventOfWrong : ChangeSpec := { name := "fnExactEventOf", fn := fun _ => fun
  | [d1, d2, d3] => { results := [.lit (.bool false)], args := [d1, d2, d3] }
  | _ => none }
def FnExactEventOfWrongFalsely : Prop := fnExactEventOfRow.holds Try.pinned (OpenSpec.ofChange fnExactEventOfWrong)

/-- 'laws.FnExactCacheOk': WHATEVER THE INPUT: true; the input reads as it did. -/
def fnExactCacheOkSpec : ChangeSpec := { name := "fnExactCacheOk", fn := fun _ => fun
  | [d1, d2] => { results := [.lit (.bool true)], args := [d1, d2] }
  | _ => none }
def fnExactCacheOkRow : OpenClaim := { program := "ytafocmjoejchbaa", sum := "a8f9d3c1ffc012dae9e421d461b8481f2e88c87602fb04c103af352ba158fa43", func := "loop.example/g00281/laws.FnExactCacheOk", spec := "fnExactCacheOk", unfollowed := true, recurses := true, apart := false }
def FnExactCacheOkSaid : Prop := fnExactCacheOkRow.holds Try.pinned (OpenSpec.ofChange fnExactCacheOkSpec)

/-- ITS FALSE NEIGHBOUR: 'it returns false'. Refute it at one input. -/
def fnExactCacheOkWrong : ChangeSpec := { name := "fnExactCacheOk", fn := fun _ => fun
  | [d1, d2] => { results := [.lit (.bool false)], args := [d1, d2] }
  | _ => none }
def FnExactCacheOkWrongFalsely : Prop := fnExactCacheOkRow.holds Try.pinned (OpenSpec.ofChange fnExactCacheOkWrong)

/-- 'laws.FnExactTrace': WHATEVER THE INPUT: true; the input reads as it did. -/
def fnExactTraceSpec : ChangeSpec := { name := "fnExactTrace", fn := fun _ => fun
  | [d1, d2, d3] => { results := [.lit (.bool true)], args := [d1, d2, d3] }
  | _ => none }
def fnExactTraceRow : OpenClaim := { program := "ytafocmjoejchbaa", sum := "a8f9d3c1ffc012dae9e421d461b8481f2e88c87602fb04c103af352ba158fa43", func := "loop.example/g00281/laws.FnExactTrace", spec := "fnExactTrace", unfollowed := true, recurses := true, apart := false }
def FnExactTraceSaid : Prop := fnExactTraceRow.holds Try.pinned (OpenSpec.ofChange fnExactTraceSpec)

/-- ITS FALSE NEIGHBOUR: 'it returns false'. Refute it at one input. -/
def fnExactTraceWrong : ChangeSpec := { name := "fnExactTrace", fn := fun _ => fun
  | [d1, d2, d3] => { results := [.lit (.bool false)], args := [d1, d2, d3] }
  | _ => none }
def FnExactTraceWrongFalsely : Prop := fnExactTraceRow.holds Try.pinned (OpenSpec.ofChange fnExactTraceWrong)

/-- 'laws.FnExactCoreHear': WHATEVER THE INPUT: true; the input reads as it did. -/
def fnExactCoreHearSpec : ChangeSpec := { name := "fnExactCoreHear", fn := fun _ => fun
  | [d1, d2] => { results := [.lit (.bool true)], args := [d1, d2] }
  | _ => none }
def fnExactCoreHearRow : OpenClaim := { program := "ytafocmjoejchbaa", sum := "a8f9d3c1ffc012dae9e421d461b8481f2e88c87602fb04c103af352ba158fa43", func := "loop.example/g00281/laws.FnExactCoreHear", spec := "fnExactCoreHear", unfollowed := true, recurses := true, apart := false }
def FnExactCoreHearSaid : Prop := fnExactCoreHearRow.holds Try.pinned (OpenSpec.ofChange fnExactCoreHearSpec)

/-- ITS FALSE NEIGHBOUR: 'it returns false'. Refute it at one input. -/
def fnExactCoreHearWrong : ChangeSpec := { name := "fnExactCoreHear", fn := fun _ => fun
  | [d1, d2] => { results := [.lit (.bool false)], args := [d1, d2] }
  | _ => none }
def FnExactCoreHearWrongFalsely : Prop := fnExactCoreHearRow.holds Try.pinned (OpenSpec.ofChange fnExactCoreHearWrong)

/-- 'laws.FnExactRunning': WHATEVER THE INPUT: true; the input reads as it did. -/
def fnExactRunningSpec : ChangeSpec := { name := "fnExactRunning", fn := fun _ => fun
  | [d] => { results := [.lit (.bool true)], args := [d] }
  | _ => none }
def fnExactRunningRow : OpenClaim := { program := "ytafocmjoejchbaa", sum := "a8f9d3c1ffc012dae9e421d461b8481f2e88c87602fb04c103af352ba158fa43", func := "loop.example/g00281/laws.FnExactRunning", spec := "fnExactRunning", apart := false }
def FnExactRunningSaid : Prop := fnExactRunningRow.holds Try.pinned (OpenSpec.ofChange fnExactRunningSpec)

/-- ITS FALSE NEIGHBOUR: 'it returns false'. Refute it at one input. -/
def fnExactRunningWrong : ChangeSpec := { name := "fnExactRunning", fn := fun _ => fun
  | [d] => { results := [.lit (.bool false)], args := [d] }
  | _ => none }
def FnExactRunningWrongFalsely : Prop := fnExactRunningRow.holds Try.pinned (OpenSpec.ofChange fnExactRunningWrong)

/-- 'laws.FnExactFlockNew': WHATEVER THE INPUT: true; the input reads as it did. -/
def fnExactFlockNewSpec : ChangeSpec := { name := "fnExactFlockNew", fn := fun _ => fun
  | [d1, d2, d3] => { results := [.lit (.bool true)], args := [d1, d2, d3] }
  | _ => none }
def fnExactFlockNewRow : OpenClaim := { program := "ytafocmjoejchbaa", sum := "a8f9d3c1ffc012dae9e421d461b8481f2e88c87602fb04c103af352ba158fa43", func := "loop.example/g00281/laws.FnExactFlockNew", spec := "fnExactFlockNew", unfollowed := true, recurses := true, apart := false }
def FnExactFlockNewSaid : Prop := fnExactFlockNewRow.holds Try.pinned (OpenSpec.ofChange fnExactFlockNewSpec)

/-- ITS FALSE NEIGHBOUR: 'it returns false'. Refute it at one input. -/
def fnExactFlockNewWrong : ChangeSpec := { name := "fnExactFlockNew", fn := fun _ => fun
  | [d1, d2, d3] => { results := [.lit (.bool false)], args := [d1, d2, d3] }
  | _ => none }
def FnExactFlockNewWrongFalsely : Prop := fnExactFlockNewRow.holds Try.pinned (OpenSpec.ofChange fnExactFlockNewWrong)

/- THE SECOND FORM. 'bulk': how many values and letters a reading holds, each counted each time it is reached (what is shared counts as often as it is met; a slice's spare places count too). A statement '..UptoSaid' is the law's where the arguments, and the package variables that the reading takes, are together of bulk at most 1048576: NARROWER than '..Said'. Prove '..Said' where nothing that the law and all that it calls make is longer than what came in: it says more and counts as full. Else prove '..UptoSaid'. A law counts once. -/
mutual
def uptoBulk {H : Type} : DataW H → Nat
  | .lit (.string bytes) => bytes.length + 1
  | .lit _ => 1
  | .nil => 1
  | .ptr d => uptoBulk d + 1
  | .slice elems spare => uptoBulkAll elems + uptoBulkAll spare + 1
  | .agg parts => uptoBulkAll parts + 1
  | .iface _ d => uptoBulk d + 1
  | .map entries => uptoBulkEntries entries + 1
  | .held _ => 1
def uptoBulkAll {H : Type} : List (DataW H) → Nat
  | [] => 0
  | d :: r => uptoBulk d + uptoBulkAll r
def uptoBulkEntries {H : Type} : List (Lit × DataW H) → Nat
  | [] => 0
  | x :: r => uptoBulkEntry x + uptoBulkEntries r
def uptoBulkEntry {H : Type} : Lit × DataW H → Nat
  | (.string bytes, d) => bytes.length + uptoBulk d + 1
  | (_, d) => uptoBulk d + 1
 end
def uptoSmall : (H : Type) → List (DataW H) → Bool := fun _ ds => decide (uptoBulkAll ds ≤ 1048576)
def OpenSpec.upto (s : _root_.Go.ChangeSpec) : _root_.Go.OpenSpec := { _root_.Go.OpenSpec.ofChange s with cond := some uptoSmall }

/-- 'laws.FnExactCacheAdd', WHERE WHAT IT READS IS OF BULK AT MOST 1048576: true; the input reads as it did. -/
def fnExactCacheAddUptoRow : OpenClaim := { program := "ytafocmjoejchbaa", sum := "a8f9d3c1ffc012dae9e421d461b8481f2e88c87602fb04c103af352ba158fa43", func := "loop.example/g00281/laws.FnExactCacheAdd", spec := "fnExactCacheAdd", apart := false, narrowed := true }
def FnExactCacheAddUptoSaid : Prop := fnExactCacheAddUptoRow.holds Try.pinned (OpenSpec.upto fnExactCacheAddSpec)

/-- 'laws.FnExactPurge', WHERE WHAT IT READS IS OF BULK AT MOST 1048576: true; the input reads as it did. -/
def fnExactPurgeUptoRow : OpenClaim := { program := "ytafocmjoejchbaa", sum := "a8f9d3c1ffc012dae9e421d461b8481f2e88c87602fb04c103af352ba158fa43", func := "loop.example/g00281/laws.FnExactPurge", spec := "fnExactPurge", unfollowed := true, recurses := true, apart := false, narrowed := true }
def FnExactPurgeUptoSaid : Prop := fnExactPurgeUptoRow.holds Try.pinned (OpenSpec.upto fnExactPurgeSpec)

/-- 'laws.FnExactEventOf', WHERE WHAT IT READS IS OF BULK AT MOST 1048576: true; the input reads as it did. -/
def fnExactEventOfUptoRow : OpenClaim := { program := "ytafocmjoejchbaa", sum := "a8f9d3c1ffc012dae9e421d461b8481f2e88c87602fb04c103af352ba158fa43", func := "loop.example/g00281/laws.FnExactEventOf", spec := "fnExactEventOf", unfollowed := true, recurses := true, apart := false, narrowed := true }
def FnExactEventOfUptoSaid : Prop := fnExactEventOfUptoRow.holds Try.pinned (OpenSpec.upto fnExactEventOfSpec)

/-- 'laws.FnExactCacheOk', WHERE WHAT IT READS IS OF BULK AT MOST 1048576: true; the input reads as it did. -/
def fnExactCacheOkUptoRow : OpenClaim := { program := "ytafocmjoejchbaa", sum := "a8f9d3c1ffc012dae9e421d461b8481f2e88c87602fb04c103af352ba158fa43", func := "loop.example/g00281/laws.FnExactCacheOk", spec := "fnExactCacheOk", unfollowed := true, recurses := true, apart := false, narrowed := true }
def FnExactCacheOkUptoSaid : Prop := fnExactCacheOkUptoRow.holds Try.pinned (OpenSpec.upto fnExactCacheOkSpec)

/-- 'laws.FnExactTrace', WHERE WHAT IT READS IS OF BULK AT MOST 1048576: true; the input reads as it did. -/
def fnExactTraceUptoRow : OpenClaim := { program := "ytafocmjoejchbaa", sum := "a8f9d3c1ffc012dae9e421d461b8481f2e88c87602fb04c103af352ba158fa43", func := "loop.example/g00281/laws.FnExactTrace", spec := "fnExactTrace", unfollowed := true, recurses := true, apart := false, narrowed := true }
def FnExactTraceUptoSaid : Prop := fnExactTraceUptoRow.holds Try.pinned (OpenSpec.upto fnExactTraceSpec)

/-- 'laws.FnExactCoreHear', WHERE WHAT IT READS IS OF BULK AT MOST 1048576: true; the input reads as it did. -/
def fnExactCoreHearUptoRow : OpenClaim := { program := "ytafocmjoejchbaa", sum := "a8f9d3c1ffc012dae9e421d461b8481f2e88c87602fb04c103af352ba158fa43", func := "loop.example/g00281/laws.FnExactCoreHear", spec := "fnExactCoreHear", unfollowed := true, recurses := true, apart := false, narrowed := true }
def FnExactCoreHearUptoSaid : Prop := fnExactCoreHearUptoRow.holds Try.pinned (OpenSpec.upto fnExactCoreHearSpec)

/-- 'laws.FnExactRunning', WHERE WHAT IT READS IS OF BULK AT MOST 1048576: true; the input reads as it did. -/
def fnExactRunningUptoRow : OpenClaim := { program := "ytafocmjoejchbaa", sum := "a8f9d3c1ffc012dae9e421d461b8481f2e88c87602fb04c103af352ba158fa43", func := "loop.example/g00281/laws.FnExactRunning", spec := "fnExactRunning", apart := false, narrowed := true }
def FnExactRunningUptoSaid : Prop := fnExactRunningUptoRow.holds Try.pinned (OpenSpec.upto fnExactRunningSpec)

/-- 'laws.FnExactFlockNew', WHERE WHAT IT READS IS OF BULK AT MOST 1048576: true; the input reads as it did. -/
def fnExactFlockNewUptoRow : OpenClaim := { program := "ytafocmjoejchbaa", sum := "a8f9d3c1ffc012dae9e421d461b8481f2e88c87602fb04c103af352ba158fa43", func := "loop.example/g00281/laws.FnExactFlockNew", spec := "fnExactFlockNew", unfollowed := true, recurses := true, apart := false, narrowed := true }
def FnExactFlockNewUptoSaid : Prop := fnExactFlockNewUptoRow.holds Try.pinned (OpenSpec.upto fnExactFlockNewSpec)

end Rows
end Go.Proofs.Ytafocmjoejchbaa
