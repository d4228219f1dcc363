/-
  No cell of these rows narrows 'for every input' (looked for: loops, veiled, ifaces, maps, wideKeys, modest, calm, conditions, laid).
  DERIVED. THE GIVEN ROWS OF THIS SEAT. 6 by the template 'for every input the law returns true; each argument reads behind the call as it read before'; 0 by the template 'total and deterministic' (their statements: YtgchjiepbjkfpaaTotals.lean).
  GIVEN WITH THE SEED: the statements are not yours to turn. If you find one false, say at which input.
  Laid BY PROGRAM, IN A SANDBOX (cutbox-rows.mjs): the forced cells as the released guide's own fill.sh prints them over the translation 6adeb27428f8f9e0… (all of the seat's roots in one cut). By AI agents, Wed Nov 11 2026. No macro, syntax, notation, axiom, sorry.
-/
import Derived.Test.YtgchjiepbjkfpaaChecked
import GoSem.Claim
import GoSem.ClaimJoined
import GoSem.ClaimMapViews
import Derived.JoinedTies
import Derived.KernelRfl
namespace Go.Proofs.Ytgchjiepbjkfpaa
/- THE CELL 'sum', in the pinned program and in every row, IS THE sha256 OF THE DUMP (.gsa) THAT YtgchjiepbjkfpaaProg.lean LOADS. Nothing in Lean hashes anything: it is a label: what it is worth is what the hold of that sum in a sandbox is worth. -/
noncomputable def Try.pinned : Pinned := { name := "ytgchjiepbjkfpaa", sum := "6adeb27428f8f9e052d5bbf7837e918d814e63207e652397f1a699a21736063a", checked := Try.checked }
namespace Rows
def none {H : Type} : Left H := { results := [], args := [] }

/-- 'laws.FnExactClockWithin': WHATEVER THE INPUT: true; the input reads as it did. -/
def fnExactClockWithinSpec : ChangeSpec := { name := "fnExactClockWithin", fn := fun _ => fun
  | [d1, d2] => { results := [.lit (.bool true)], args := [d1, d2] }
  | _ => none }
def fnExactClockWithinRow : OpenClaim := { program := "ytgchjiepbjkfpaa", sum := "6adeb27428f8f9e052d5bbf7837e918d814e63207e652397f1a699a21736063a", func := "loop.example/g00281/laws.FnExactClockWithin", spec := "fnExactClockWithin", apart := false }
def FnExactClockWithinSaid : Prop := fnExactClockWithinRow.holds Try.pinned (OpenSpec.ofChange fnExactClockWithinSpec)

/-- ITS FALSE NEIGHBOUR: 'it returns false'. Refute it at one input. -/
def fnExactClockWithinWrong : ChangeSpec := { name := "fnExactClockWithin", fn := fun _ => fun
  | [d1, d2] => { results := [.lit (.bool false)], args := [d1, d2] }
  | _ => none }
def FnExactClockWithinWrongFalsely : Prop := fnExactClockWithinRow.holds Try.pinned (OpenSpec.ofChange fnExactClockWithinWrong)

/-- 'laws.FnExactClockNew': WHATEVER THE INPUT: true; the input reads as it did. -/
def fnExactClockNewSpec : ChangeSpec := { name := "fnExactClockNew", fn := fun _ => fun
  | [d] => { results := [.lit (.bool true)], args := [d] }
  | _ => none }
def fnExactClockNewRow : OpenClaim := { program := "ytgchjiepbjkfpaa", sum := "6adeb27428f8f9e052d5bbf7837e918d814e63207e652397f1a699a21736063a", func := "loop.example/g00281/laws.FnExactClockNew", spec := "fnExactClockNew", apart := false }
def FnExactClockNewSaid : Prop := fnExactClockNewRow.holds Try.pinned (OpenSpec.ofChange fnExactClockNewSpec)

/-- ITS FALSE NEIGHBOUR: 'it returns false'. Refute it at one input. -/
def fnExactClockNewWrong : ChangeSpec := { name := "fnExactClockNew", fn := fun _ => fun
  | [d] => { results := [.lit (.bool false)], args := [d] }
  | _ => none }
def FnExactClockNewWrongFalsely : Prop := fnExactClockNewRow.holds Try.pinned (OpenSpec.ofChange fnExactClockNewWrong)

/-- 'laws.FnExactWritesOf': WHATEVER THE INPUT: true; the input reads as it did. -/
def fnExactWritesOfSpec : ChangeSpec := { name := "fnExactWritesOf", fn := fun _ => fun
  | [d] => { results := [.lit (.bool true)], args := [d] }
  | _ => none }
def fnExactWritesOfRow : OpenClaim := { program := "ytgchjiepbjkfpaa", sum := "6adeb27428f8f9e052d5bbf7837e918d814e63207e652397f1a699a21736063a", func := "loop.example/g00281/laws.FnExactWritesOf", spec := "fnExactWritesOf", apart := false }
def FnExactWritesOfSaid : Prop := fnExactWritesOfRow.holds Try.pinned (OpenSpec.ofChange fnExactWritesOfSpec)

/-- ITS FALSE NEIGHBOUR: 'it returns false'. Refute it at one input. -/
def fnExactWritesOfWrong : ChangeSpec := { name := "fnExactWritesOf", fn := fun _ => fun
  | [d] => { results := [.lit (.bool false)], args := [d] }
  | _ => none }
def FnExactWritesOfWrongFalsely : Prop := fnExactWritesOfRow.holds Try.pinned (OpenSpec.ofChange fnExactWritesOfWrong)

/-- 'laws.FnExactReadsOf': WHATEVER THE INPUT: true; the input reads as it did. -/
def fnExactReadsOfSpec : ChangeSpec := { name := "fnExactReadsOf", fn := fun _ => fun
  | [d] => { results := [.lit (.bool true)], args := [d] }
  | _ => none }
def fnExactReadsOfRow : OpenClaim := { program := "ytgchjiepbjkfpaa", sum := "6adeb27428f8f9e052d5bbf7837e918d814e63207e652397f1a699a21736063a", func := "loop.example/g00281/laws.FnExactReadsOf", spec := "fnExactReadsOf", apart := false }
def FnExactReadsOfSaid : Prop := fnExactReadsOfRow.holds Try.pinned (OpenSpec.ofChange fnExactReadsOfSpec)

/-- ITS FALSE NEIGHBOUR: 'it returns false'. Refute it at one input. -/
def fnExactReadsOfWrong : ChangeSpec := { name := "fnExactReadsOf", fn := fun _ => fun
  | [d] => { results := [.lit (.bool false)], args := [d] }
  | _ => none }
def FnExactReadsOfWrongFalsely : Prop := fnExactReadsOfRow.holds Try.pinned (OpenSpec.ofChange fnExactReadsOfWrong)

/-- 'laws.FnExactTurnAt': WHATEVER THE INPUT: true; the input reads as it did. -/
def fnExactTurnAtSpec : ChangeSpec := { name := "fnExactTurnAt", fn := fun _ => fun
  | [d1, d2] => { results := [.lit (.bool true)], args := [d1, d2] }
  | _ => none }
def fnExactTurnAtRow : OpenClaim := { program := "ytgchjiepbjkfpaa", sum := "6adeb27428f8f9e052d5bbf7837e918d814e63207e652397f1a699a21736063a", func := "loop.example/g00281/laws.FnExactTurnAt", spec := "fnExactTurnAt", apart := false }
def FnExactTurnAtSaid : Prop := fnExactTurnAtRow.holds Try.pinned (OpenSpec.ofChange fnExactTurnAtSpec)

/-- ITS FALSE NEIGHBOUR: 'it returns false'. Refute it at one input. -/
def fnExactTurnAtWrong : ChangeSpec := { name := "fnExactTurnAt", fn := fun _ => fun
  | [d1, d2] => { results := [.lit (.bool false)], args := [d1, d2] }
  | _ => none }
def FnExactTurnAtWrongFalsely : Prop := fnExactTurnAtRow.holds Try.pinned (OpenSpec.ofChange fnExactTurnAtWrong)

/-- 'laws.FnExactClockJoin': WHATEVER THE INPUT: true; the input reads as it did. -/
def fnExactClockJoinSpec : ChangeSpec := { name := "fnExactClockJoin", fn := fun _ => fun
  | [d1, d2] => { results := [.lit (.bool true)], args := [d1, d2] }
  | _ => none }
def fnExactClockJoinRow : OpenClaim := { program := "ytgchjiepbjkfpaa", sum := "6adeb27428f8f9e052d5bbf7837e918d814e63207e652397f1a699a21736063a", func := "loop.example/g00281/laws.FnExactClockJoin", spec := "fnExactClockJoin", apart := false }
def FnExactClockJoinSaid : Prop := fnExactClockJoinRow.holds Try.pinned (OpenSpec.ofChange fnExactClockJoinSpec)

/-- ITS FALSE NEIGHBOUR: 'it returns false'. Refute it at one input. -/
def fnExactClockJoinWrong : ChangeSpec := { name := "fnExactClockJoin", fn := fun _ => fun
  | [d1, d2] => { results := [.lit (.bool false)], args := [d1, d2] }
  | _ => none }
def FnExactClockJoinWrongFalsely : Prop := fnExactClockJoinRow.holds Try.pinned (OpenSpec.ofChange fnExactClockJoinWrong)

/- THE SECOND FORM. 'bulk': how many values and letters a reading holds, each counted each time it is reached (what is shared counts as often as it is met; a slice's spare places count too). A statement '..UptoSaid' is the law's where the arguments, and the package variables that the reading takes, are together of bulk at most 1048576: NARROWER than '..Said'. Prove '..Said' where nothing that the law and all that it calls make is longer than what came in: it says more and counts as full. Else prove '..UptoSaid'. A law counts once. -/
mutual
def uptoBulk {H : Type} : DataW H → Nat
  | .lit (.string bytes) => bytes.length + 1
  | .lit _ => 1
  | .nil => 1
  | .ptr d => uptoBulk d + 1
  | .slice elems spare => uptoBulkAll elems + uptoBulkAll spare + 1
  | .agg parts => uptoBulkAll parts + 1
  | .iface _ d => uptoBulk d + 1
  | .map entries => uptoBulkEntries entries + 1
  | .held _ => 1
def uptoBulkAll {H : Type} : List (DataW H) → Nat
  | [] => 0
  | d :: r => uptoBulk d + uptoBulkAll r
def uptoBulkEntries {H : Type} : List (Lit × DataW H) → Nat
  | [] => 0
  | x :: r => uptoBulkEntry x + uptoBulkEntries r
def uptoBulkEntry {H : Type} : Lit × DataW H → Nat
  | (.string bytes, d) => bytes.length + uptoBulk d + 1
  | (_, d) => uptoBulk d + 1
 end
def uptoSmall : (H : Type) → List (DataW H) → Bool := fun _ ds => decide (uptoBulkAll ds ≤ 1048576)
def OpenSpec.upto (s : _root_.Go.ChangeSpec) : _root_.Go.OpenSpec := { _root_.Go.OpenSpec.ofChange s with cond := some uptoSmall }

/-- 'laws.FnExactClockWithin', WHERE WHAT IT READS IS OF BULK AT MOST 1048576: true; the input reads as it did. -/
def fnExactClockWithinUptoRow : OpenClaim := { program := "ytgchjiepbjkfpaa", sum := "6adeb27428f8f9e052d5bbf7837e918d814e63207e652397f1a699a21736063a", func := "loop.example/g00281/laws.FnExactClockWithin", spec := "fnExactClockWithin", apart := false, narrowed := true }
def FnExactClockWithinUptoSaid : Prop := fnExactClockWithinUptoRow.holds Try.pinned (OpenSpec.upto fnExactClockWithinSpec)

/-- 'laws.FnExactClockNew', WHERE WHAT IT READS IS OF BULK AT MOST 1048576: true; the input reads as it did. -/
def fnExactClockNewUptoRow : OpenClaim := { program := "ytgchjiepbjkfpaa", sum := "6adeb27428f8f9e052d5bbf7837e918d814e63207e652397f1a699a21736063a", func := "loop.example/g00281/laws.FnExactClockNew", spec := "fnExactClockNew", apart := false, narrowed := true }
def FnExactClockNewUptoSaid : Prop := fnExactClockNewUptoRow.holds Try.pinned (OpenSpec.upto fnExactClockNewSpec)

/-- 'laws.FnExactWritesOf', WHERE WHAT IT READS IS OF BULK AT MOST 1048576: true; the input reads as it did. -/
def fnExactWritesOfUptoRow : OpenClaim := { program := "ytgchjiepbjkfpaa", sum := "6adeb27428f8f9e052d5bbf7837e918d814e63207e652397f1a699a21736063a", func := "loop.example/g00281/laws.FnExactWritesOf", spec := "fnExactWritesOf", apart := false, narrowed := true }
def FnExactWritesOfUptoSaid : Prop := fnExactWritesOfUptoRow.holds Try.pinned (OpenSpec.upto fnExactWritesOfSpec)

/-- 'laws.FnExactReadsOf', WHERE WHAT IT READS IS OF BULK AT MOST 1048576: true; the input reads as it did. -/
def fnExactReadsOfUptoRow : OpenClaim := { program := "ytgchjiepbjkfpaa", sum := "6adeb27428f8f9e052d5bbf7837e918d814e63207e652397f1a699a21736063a", func := "loop.example/g00281/laws.FnExactReadsOf", spec := "fnExactReadsOf", apart := false, narrowed := true }
def FnExactReadsOfUptoSaid : Prop := fnExactReadsOfUptoRow.holds Try.pinned (OpenSpec.upto fnExactReadsOfSpec)

/-- 'laws.FnExactTurnAt', WHERE WHAT IT READS IS OF BULK AT MOST 1048576: true; the input reads as it did. -/
def fnExactTurnAtUptoRow : OpenClaim := { program := "ytgchjiepbjkfpaa", sum := "6adeb27428f8f9e052d5bbf7837e918d814e63207e652397f1a699a21736063a", func := "loop.example/g00281/laws.FnExactTurnAt", spec := "fnExactTurnAt", apart := false, narrowed := true }
def FnExactTurnAtUptoSaid : Prop := fnExactTurnAtUptoRow.holds Try.pinned (OpenSpec.upto fnExactTurnAtSpec)

/-- 'laws.FnExactClockJoin', WHERE WHAT IT READS IS OF BULK AT MOST 1048576: true; the input reads as it did. -/
def fnExactClockJoinUptoRow : OpenClaim := { program := "ytgchjiepbjkfpaa", sum := "6adeb27428f8f9e052d5bbf7837e918d814e63207e652397f1a699a21736063a", func := "loop.example/g00281/laws.FnExactClockJoin", spec := "fnExactClockJoin", apart := false, narrowed := true }
def FnExactClockJoinUptoSaid : Prop := fnExactClockJoinUptoRow.holds Try.pinned (OpenSpec.upto fnExactClockJoinSpec)

end Rows
end Go.Proofs.Ytgchjiepbjkfpaa
