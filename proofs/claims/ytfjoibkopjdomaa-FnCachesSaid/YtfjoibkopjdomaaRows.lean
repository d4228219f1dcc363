/-
  No cell of these rows narrows 'for every input' (looked for: loops, veiled, ifaces, maps, wideKeys, modest, calm, conditions, laid).
  DERIVED. THE GIVEN ROWS OF THIS SEAT. 8 by the template 'for every input the law returns true; each argument reads behind the call as it read before'; 0 by the template 'total and deterministic' (their statements: YtfjoibkopjdomaaTotals.lean).
  GIVEN WITH THE SEED: the statements are not yours to turn. If you find one false, say at which input.
  Laid BY PROGRAM, IN A SANDBOX (cutbox-rows.mjs): the forced cells as the released guide's own fill.sh prints them over the translation a392eee278f9454c… (all of the seat's roots in one cut). By AI agents, Wed Nov 11 2026. No macro, syntax, notation, axiom, sorry.
-/
import Derived.Test.YtfjoibkopjdomaaChecked
import GoSem.Claim
import GoSem.ClaimJoined
import GoSem.ClaimMapViews
import Derived.JoinedTies
import Derived.KernelRfl
namespace Go.Proofs.Ytfjoibkopjdomaa
/- THE CELL 'sum', in the pinned program and in every row, IS THE sha256 OF THE DUMP (.gsa) THAT YtfjoibkopjdomaaProg.lean LOADS. Nothing in Lean hashes anything: it is a label: what it is worth is what the hold of that sum in a sandbox is worth. -/
noncomputable def Try.pinned : Pinned := { name := "ytfjoibkopjdomaa", sum := "a392eee278f9454c8379354da6539774d2a3a5f095708a8e7aa8adf7c5413281", checked := Try.checked }
namespace Rows
def none {H : Type} : Left H := { results := [], args := [] }

/-- 'laws.FnFlat': WHATEVER THE INPUT: true; the input reads as it did. -/
def fnFlatSpec : ChangeSpec := { name := "fnFlat", fn := fun _ => fun
  | [d] => { results := [.lit (.bool true)], args := [d] }
  | _ => none }
def fnFlatRow : OpenClaim := { program := "ytfjoibkopjdomaa", sum := "a392eee278f9454c8379354da6539774d2a3a5f095708a8e7aa8adf7c5413281", func := "loop.example/g00281/laws.FnFlat", spec := "fnFlat", unfollowed := true, recurses := true, apart := false }
def FnFlatSaid : Prop := fnFlatRow.holds Try.pinned (OpenSpec.ofChange fnFlatSpec)

/-- ITS FALSE NEIGHBOUR: 'it returns false'. Refute it at one input. -/
def fnFlatWrong : ChangeSpec := { name := "fnFlat", fn := fun _ => fun
  | [d] => { results := [.lit (.bool false)], args := [d] }
  | _ => none }
def FnFlatWrongFalsely : Prop := fnFlatRow.holds Try.pinned (OpenSpec.ofChange fnFlatWrong)

/-- 'laws.FnNobody': WHATEVER THE INPUT: true; the input reads as it did. -/
def fnNobodySpec : ChangeSpec := { name := "fnNobody", fn := fun _ => fun
  | [d] => { results := [.lit (.bool true)], args := [d] }
  | _ => none }
def fnNobodyRow : OpenClaim := { program := "ytfjoibkopjdomaa", sum := "a392eee278f9454c8379354da6539774d2a3a5f095708a8e7aa8adf7c5413281", func := "loop.example/g00281/laws.FnNobody", spec := "fnNobody", unfollowed := true, recurses := true, apart := false }
def FnNobodySaid : Prop := fnNobodyRow.holds Try.pinned (OpenSpec.ofChange fnNobodySpec)

/-- ITS FALSE NEIGHBOUR: 'it returns false'. Refute it at one input. -/
def fnNobodyWrong : ChangeSpec := { name := "fnNobody", fn := fun _ => fun
  | [d] => { results := [.lit (.bool false)], args := [d] }
  | _ => none }
def FnNobodyWrongFalsely : Prop := fnNobodyRow.holds Try.pinned (OpenSpec.ofChange fnNobodyWrong)

/-- 'laws.FnTraceParts': WHATEVER THE INPUT: true; the input reads as it did. -/
def fnTracePartsSpec : ChangeSpec := { name := "fnTraceParts", fn := fun _ => fun
  | [d] => { results := [.lit (.bool true)], args := [d] }
  | _ => none }
def fnTracePartsRow : OpenClaim := { program := "ytfjoibkopjdomaa", sum := "a392eee278f9454c8379354da6539774d2a3a5f095708a8e7aa8adf7c5413281", func := "loop.example/g00281/laws.FnTraceParts", spec := "fnTraceParts", unfollowed := true, recurses := true, apart := false }
def FnTracePartsSaid : Prop := fnTracePartsRow.holds Try.pinned (OpenSpec.ofChange fnTracePartsSpec)

/-- ITS FALSE NEIGHBOUR: 'it returns false'. Refute it at one input. -/
def fnTracePartsWrong : ChangeSpec := { name := "fnTraceParts", fn := fun _ => fun
  | [d] => { results := [.lit (.bool false)], args := [d] }
  | _ => none }
def FnTracePartsWrongFalsely : Prop := fnTracePartsRow.holds Try.pinned (OpenSpec.ofChange fnTracePartsWrong)

/-- 'laws.FnTurns': WHATEVER THE INPUT: true; the input reads as it did. -/
def fnTurnsSpec : ChangeSpec := { name := "fnTurns", fn := fun _ => fun
  | [d] => { results := [.lit (.bool true)], args := [d] }
  | _ => none }
def fnTurnsRow : OpenClaim := { program := "ytfjoibkopjdomaa", sum := "a392eee278f9454c8379354da6539774d2a3a5f095708a8e7aa8adf7c5413281", func := "loop.example/g00281/laws.FnTurns", spec := "fnTurns", unfollowed := true, recurses := true, apart := false }
def FnTurnsSaid : Prop := fnTurnsRow.holds Try.pinned (OpenSpec.ofChange fnTurnsSpec)

/-- ITS FALSE NEIGHBOUR: 'it returns false'. Refute it at one input. -/
def fnTurnsWrong : ChangeSpec := { name := "fnTurns", fn := fun _ => fun
  | [d] => { results := [.lit (.bool false)], args := [d] }
  | _ => none }
def FnTurnsWrongFalsely : Prop := fnTurnsRow.holds Try.pinned (OpenSpec.ofChange fnTurnsWrong)

/-- 'laws.FnPurgedTwice': WHATEVER THE INPUT: true; the input reads as it did. -/
def fnPurgedTwiceSpec : ChangeSpec := { name := "fnPurgedTwice", fn := fun _ => fun
  | [d] => { results := [.lit (.bool true)], args := [d] }
  | _ => none }
def fnPurgedTwiceRow : OpenClaim := { program := "ytfjoibkopjdomaa", sum := "a392eee278f9454c8379354da6539774d2a3a5f095708a8e7aa8adf7c5413281", func := "loop.example/g00281/laws.FnPurgedTwice", spec := "fnPurgedTwice", unfollowed := true, recurses := true, apart := false }
def FnPurgedTwiceSaid : Prop := fnPurgedTwiceRow.holds Try.pinned (OpenSpec.ofChange fnPurgedTwiceSpec)

/-- ITS FALSE NEIGHBOUR: 'it returns false'. Refute it at one input. -/
def fnPurgedTwiceWrong : ChangeSpec := { name := "fnPurgedTwice", fn := fun _ => fun
  | [d] => { results := [.lit (.bool false)], args := [d] }
  | _ => none }
def FnPurgedTwiceWrongFalsely : Prop := fnPurgedTwiceRow.holds Try.pinned (OpenSpec.ofChange fnPurgedTwiceWrong)

/-- 'laws.FnCaches': WHATEVER THE INPUT: true; the input reads as it did. -/
def fnCachesSpec : ChangeSpec := { name := "fnCaches", fn := fun _ => fun
  | [d] => { results := [.lit (.bool true)], args := [d] }
  | _ => none }
def fnCachesRow : OpenClaim := { program := "ytfjoibkopjdomaa", sum := "a392eee278f9454c8379354da6539774d2a3a5f095708a8e7aa8adf7c5413281", func := "loop.example/g00281/laws.FnCaches", spec := "fnCaches", unfollowed := true, recurses := true, apart := false }
def FnCachesSaid : Prop := fnCachesRow.holds Try.pinned (OpenSpec.ofChange fnCachesSpec)

/-- ITS FALSE NEIGHBOUR: 'it returns false'. Refute it at one input. -/
def fnCachesWrong : ChangeSpec := { name := "fnCaches", fn := fun _ => fun
  | [d] => { results := [.lit (.bool false)], args := [d] }
  | _ => none }
def FnCachesWrongFalsely : Prop := fnCachesRow.holds Try.pinned (OpenSpec.ofChange fnCachesWrong)

/-- 'laws.FnTraced': WHATEVER THE INPUT: true; the input reads as it did. -/
def fnTracedSpec : ChangeSpec := { name := "fnTraced", fn := fun _ => fun
  | [d] => { results := [.lit (.bool true)], args := [d] }
  | _ => none }
def fnTracedRow : OpenClaim := { program := "ytfjoibkopjdomaa", sum := "a392eee278f9454c8379354da6539774d2a3a5f095708a8e7aa8adf7c5413281", func := "loop.example/g00281/laws.FnTraced", spec := "fnTraced", inPlace := ["internal/abi.NoEscape", "internal/bytealg.MakeNoZero"], unfollowed := true, recurses := true, apart := false }
def FnTracedSaid : Prop := fnTracedRow.holds Try.pinned (OpenSpec.ofChange fnTracedSpec)

/-- ITS FALSE NEIGHBOUR: 'it returns false'. Refute it at one input. -/
def fnTracedWrong : ChangeSpec := { name := "fnTraced", fn := fun _ => fun
  | [d] => { results := [.lit (.bool false)], args := [d] }
  | _ => none }
def FnTracedWrongFalsely : Prop := fnTracedRow.holds Try.pinned (OpenSpec.ofChange fnTracedWrong)

/-- 'laws.FnExactFlockNew': WHATEVER THE INPUT: true; the input reads as it did. -/
def fnExactFlockNewSpec : ChangeSpec := { name := "fnExactFlockNew", fn := fun _ => fun
  | [d1, d2, d3] => { results := [.lit (.bool true)], args := [d1, d2, d3] }
  | _ => none }
def fnExactFlockNewRow : OpenClaim := { program := "ytfjoibkopjdomaa", sum := "a392eee278f9454c8379354da6539774d2a3a5f095708a8e7aa8adf7c5413281", func := "loop.example/g00281/laws.FnExactFlockNew", spec := "fnExactFlockNew", unfollowed := true, recurses := true, apart := false }
def FnExactFlockNewSaid : Prop := fnExactFlockNewRow.holds Try.pinned (OpenSpec.ofChange fnExactFlockNewSpec)

/-- ITS FALSE NEIGHBOUR: 'it returns false'. Refute it at one input. -/
def fnExactFlockNewWrong : ChangeSpec := { name := "fnExactFlockNew", fn := fun _ => fun
  | [d1, d2, d3] => { results := [.lit (.bool false)], args := [d1, d2, d3] }
  | _ => none }
def FnExactFlockNewWrongFalsely : Prop := fnExactFlockNewRow.holds Try.pinned (OpenSpec.ofChange fnExactFlockNewWrong)

/- THE SECOND FORM. 'bulk': how many values and letters a reading holds, each counted each time it is reached (what is shared counts as often as it is met; a slice's spare places count too). A statement '..UptoSaid' is the law's where the arguments, and the package variables that the reading takes, are together of bulk at most 1048576: NARROWER than '..Said'. Prove '..Said' where nothing that the law and all that it calls make is longer than what came in: it says more and counts as full. Else prove '..UptoSaid'. A law counts once. -/
mutual
def uptoBulk {H : Type} : DataW H → Nat
  | .lit (.string bytes) => bytes.length + 1
  | .lit _ => 1
  | .nil => 1
  | .ptr d => uptoBulk d + 1
  | .slice elems spare => uptoBulkAll elems + uptoBulkAll spare + 1
  | .agg parts => uptoBulkAll parts + 1
  | .iface _ d => uptoBulk d + 1
  | .map entries => uptoBulkEntries entries + 1
  | .held _ => 1
def uptoBulkAll {H : Type} : List (DataW H) → Nat
  | [] => 0
  | d :: r => uptoBulk d + uptoBulkAll r
def uptoBulkEntries {H : Type} : List (Lit × DataW H) → Nat
  | [] => 0
  | x :: r => uptoBulkEntry x + uptoBulkEntries r
def uptoBulkEntry {H : Type} : Lit × DataW H → Nat
  | (.string bytes, d) => bytes.length + uptoBulk d + 1
  | (_, d) => uptoBulk d + 1
 end
def uptoSmall : (H : Type) → List (DataW H) → Bool := fun _ ds => decide (uptoBulkAll ds ≤ 1048576)
def OpenSpec.upto (s : _root_.Go.ChangeSpec) : _root_.Go.OpenSpec := { _root_.Go.OpenSpec.ofChange s with cond := some uptoSmall }

/-- 'laws.FnFlat', WHERE WHAT IT READS IS OF BULK AT MOST 1048576: true; the input reads as it did. -/
def fnFlatUptoRow : OpenClaim := { program := "ytfjoibkopjdomaa", sum := "a392eee278f9454c8379354da6539774d2a3a5f095708a8e7aa8adf7c5413281", func := "loop.example/g00281/laws.FnFlat", spec := "fnFlat", unfollowed := true, recurses := true, apart := false, narrowed := true }
def FnFlatUptoSaid : Prop := fnFlatUptoRow.holds Try.pinned (OpenSpec.upto fnFlatSpec)

/-- 'laws.FnNobody', WHERE WHAT IT READS IS OF BULK AT MOST 1048576: true; the input reads as it did. -/
def fnNobodyUptoRow : OpenClaim := { program := "ytfjoibkopjdomaa", sum := "a392eee278f9454c8379354da6539774d2a3a5f095708a8e7aa8adf7c5413281", func := "loop.example/g00281/laws.FnNobody", spec := "fnNobody", unfollowed := true, recurses := true, apart := false, narrowed := true }
def FnNobodyUptoSaid : Prop := fnNobodyUptoRow.holds Try.pinned (OpenSpec.upto fnNobodySpec)

/-- 'laws.FnTraceParts', WHERE WHAT IT READS IS OF BULK AT MOST 1048576: true; the input reads as it did. -/
def fnTracePartsUptoRow : OpenClaim := { program := "ytfjoibkopjdomaa", sum := "a392eee278f9454c8379354da6539774d2a3a5f095708a8e7aa8adf7c5413281", func := "loop.example/g00281/laws.FnTraceParts", spec := "fnTraceParts", unfollowed := true, recurses := true, apart := false, narrowed := true }
def FnTracePartsUptoSaid : Prop := fnTracePartsUptoRow.holds Try.pinned (OpenSpec.upto fnTracePartsSpec)

/-- 'laws.FnTurns', WHERE WHAT IT READS IS OF BULK AT MOST 1048576: true; the input reads as it did. -/
def fnTurnsUptoRow : OpenClaim := { program := "ytfjoibkopjdomaa", sum := "a392eee278f9454c8379354da6539774d2a3a5f095708a8e7aa8adf7c5413281", func := "loop.example/g00281/laws.FnTurns", spec := "fnTurns", unfollowed := true, recurses := true, apart := false, narrowed := true }
def FnTurnsUptoSaid : Prop := fnTurnsUptoRow.holds Try.pinned (OpenSpec.upto fnTurnsSpec)

/-- 'laws.FnPurgedTwice', WHERE WHAT IT READS IS OF BULK AT MOST 1048576: true; the input reads as it did. -/
def fnPurgedTwiceUptoRow : OpenClaim := { program := "ytfjoibkopjdomaa", sum := "a392eee278f9454c8379354da6539774d2a3a5f095708a8e7aa8adf7c5413281", func := "loop.example/g00281/laws.FnPurgedTwice", spec := "fnPurgedTwice", unfollowed := true, recurses := true, apart := false, narrowed := true }
def FnPurgedTwiceUptoSaid : Prop := fnPurgedTwiceUptoRow.holds Try.pinned (OpenSpec.upto fnPurgedTwiceSpec)

/-- 'laws.FnCaches', WHERE WHAT IT READS IS OF BULK AT MOST 1048576: true; the input reads as it did. -/
def fnCachesUptoRow : OpenClaim := { program := "ytfjoibkopjdomaa", sum := "a392eee278f9454c8379354da6539774d2a3a5f095708a8e7aa8adf7c5413281", func := "loop.example/g00281/laws.FnCaches", spec := "fnCaches", unfollowed := true, recurses := true, apart := false, narrowed := true }
def FnCachesUptoSaid : Prop := fnCachesUptoRow.holds Try.pinned (OpenSpec.upto fnCachesSpec)

/-- 'laws.FnTraced', WHERE WHAT IT READS IS OF BULK AT MOST 1048576: true; the input reads as it did. -/
def fnTracedUptoRow : OpenClaim := { program := "ytfjoibkopjdomaa", sum := "a392eee278f9454c8379354da6539774d2a3a5f095708a8e7aa8adf7c5413281", func := "loop.example/g00281/laws.FnTraced", spec := "fnTraced", inPlace := ["internal/abi.NoEscape", "internal/bytealg.MakeNoZero"], unfollowed := true, recurses := true, apart := false, narrowed := true }
def FnTracedUptoSaid : Prop := fnTracedUptoRow.holds Try.pinned (OpenSpec.upto fnTracedSpec)

/-- 'laws.FnExactFlockNew', WHERE WHAT IT READS IS OF BULK AT MOST 1048576: true; the input reads as it did. -/
def fnExactFlockNewUptoRow : OpenClaim := { program := "ytfjoibkopjdomaa", sum := "a392eee278f9454c8379354da6539774d2a3a5f095708a8e7aa8adf7c5413281", func := "loop.example/g00281/laws.FnExactFlockNew", spec := "fnExactFlockNew", unfollowed := true, recurses := true, apart := false, narrowed := true }
def FnExactFlockNewUptoSaid : Prop := fnExactFlockNewUptoRow.holds Try.pinned (OpenSpec.upto fnExactFlockNewSpec)

end Rows
end Go.Proofs.Ytfjoibkopjdomaa
