/-
  No cell of these rows narrows 'for every input' (looked for: loops, veiled, ifaces, maps, wideKeys, modest, calm, conditions, laid).
  DERIVED. THE GIVEN ROWS OF THIS SEAT. 9 by the template 'for every input the law returns true; each argument reads behind the call as it read before'; 0 by the template 'total and deterministic' (their statements: YtfajbeoajomljaaGreatTotals.lean).
  GIVEN WITH THE SEED: the statements are not yours to turn. If you find one false, say at which input.
  Laid BY PROGRAM, IN A SANDBOX (cutbox-rows.mjs): the forced cells as the released guide's own fill.sh prints them over the translation 3220491c0db139f9… (all of the seat's roots in one cut). By AI agents, Wed Nov 11 2026. No macro, syntax, notation, axiom, sorry.
-/
import Derived.Test.YtfajbeoajomljaaGreatChecked
import GoSem.Claim
import GoSem.ClaimJoined
import GoSem.ClaimMapViews
import Derived.JoinedTies
import Derived.KernelRfl
namespace Go.Proofs.YtfajbeoajomljaaGreat
/- THE CELL 'sum', in the pinned program and in every row, IS THE sha256 OF THE DUMP (.gsa) THAT YtfajbeoajomljaaGreatProg.lean LOADS. Nothing in Lean hashes anything: it is a label: what it is worth is what the hold of that sum in a sandbox is worth. -/
noncomputable def Tryz.pinned : Pinned := { name := "ytfajbeoajomljaagreat", sum := "3220491c0db139f9fc4d5168082ba0b0b3137823c7d003150e666c90f8530019", checked := Tryz.checked }
namespace Rows
def none {H : Type} : Left H := { results := [], args := [] }

/-- 'laws.FnExactJudge': WHATEVER THE INPUT: true; the input reads as it did. -/
def fnExactJudgeSpec : ChangeSpec := { name := "fnExactJudge", fn := fun _ => fun
  | [d1, d2, d3, d4] => { results := [.lit (.bool true)], args := [d1, d2, d3, d4] }
  | _ => none }
def fnExactJudgeRow : OpenClaim := { program := "ytfajbeoajomljaagreat", sum := "3220491c0db139f9fc4d5168082ba0b0b3137823c7d003150e666c90f8530019", func := "loop.example/g00281/laws.FnExactJudge", spec := "fnExactJudge", unfollowed := true, recurses := true, apart := false }
def FnExactJudgeSaid : Prop := fnExactJudgeRow.holds Tryz.pinned (OpenSpec.ofChange fnExactJudgeSpec)

/-- ITS FALSE NEIGHBOUR: 'it returns false'. Refute it at one input. -/
def fnExactJudgeWrong : ChangeSpec := { name := "fnExactJudge", fn := fun _ => fun
  | [d1, d2, d3, d4] => { results := [.lit (.bool false)], args := [d1, d2, d3, d4] }
  | _ => none }
def FnExactJudgeWrongFalsely : Prop := fnExactJudgeRow.holds Tryz.pinned (OpenSpec.ofChange fnExactJudgeWrong)

/-- 'laws.FnKept': WHATEVER THE INPUT: true; the input reads as it did. -/
def fnKeptSpec : ChangeSpec := { name := "fnKept", fn := fun _ => fun
  | [d] => { results := [.lit (.bool true)], args := [d] }
  | _ => none }
def fnKeptRow : OpenClaim := { program := "ytfajbeoajomljaagreat", sum := "3220491c0db139f9fc4d5168082ba0b0b3137823c7d003150e666c90f8530019", func := "loop.example/g00281/laws.FnKept", spec := "fnKept", unfollowed := true, recurses := true, apart := false }
def FnKeptSaid : Prop := fnKeptRow.holds Tryz.pinned (OpenSpec.ofChange fnKeptSpec)

/-- ITS FALSE NEIGHBOUR: 'it returns false'. Refute it at one input. -/
def fnKeptWrong : ChangeSpec := { name := "fnKept", fn := fun _ => fun
  | [d] => { results := [.lit (.bool false)], args := [d] }
  | _ => none }
def FnKeptWrongFalsely : Prop := fnKeptRow.holds Tryz.pinned (OpenSpec.ofChange fnKeptWrong)

/-- 'laws.FnCores': WHATEVER THE INPUT: true; the input reads as it did. -/
def fnCoresSpec : ChangeSpec := { name := "fnCores", fn := fun _ => fun
  | [d] => { results := [.lit (.bool true)], args := [d] }
  | _ => none }
def fnCoresRow : OpenClaim := { program := "ytfajbeoajomljaagreat", sum := "3220491c0db139f9fc4d5168082ba0b0b3137823c7d003150e666c90f8530019", func := "loop.example/g00281/laws.FnCores", spec := "fnCores", unfollowed := true, recurses := true, apart := false }
def FnCoresSaid : Prop := fnCoresRow.holds Tryz.pinned (OpenSpec.ofChange fnCoresSpec)

/-- ITS FALSE NEIGHBOUR: 'it returns false'. Refute it at one input. -/
def fnCoresWrong : ChangeSpec := { name := "fnCores", fn := fun _ => fun
  | [d] => { results := [.lit (.bool false)], args := [d] }
  | _ => none }
def FnCoresWrongFalsely : Prop := fnCoresRow.holds Tryz.pinned (OpenSpec.ofChange fnCoresWrong)

/-- 'laws.FnRunsCount': WHATEVER THE INPUT: true; the input reads as it did. -/
def fnRunsCountSpec : ChangeSpec := { name := "fnRunsCount", fn := fun _ => fun
  | [d] => { results := [.lit (.bool true)], args := [d] }
  | _ => none }
def fnRunsCountRow : OpenClaim := { program := "ytfajbeoajomljaagreat", sum := "3220491c0db139f9fc4d5168082ba0b0b3137823c7d003150e666c90f8530019", func := "loop.example/g00281/laws.FnRunsCount", spec := "fnRunsCount", unfollowed := true, recurses := true, apart := false }
def FnRunsCountSaid : Prop := fnRunsCountRow.holds Tryz.pinned (OpenSpec.ofChange fnRunsCountSpec)

/-- ITS FALSE NEIGHBOUR: 'it returns false'. Refute it at one input. -/
def fnRunsCountWrong : ChangeSpec := { name := "fnRunsCount", fn := fun _ => fun
  | [d] => { results := [.lit (.bool false)], args := [d] }
  | _ => none }
def FnRunsCountWrongFalsely : Prop := fnRunsCountRow.holds Tryz.pinned (OpenSpec.ofChange fnRunsCountWrong)

/-- 'laws.FnOne': WHATEVER THE INPUT: true; the input reads as it did. -/
def fnOneSpec : ChangeSpec := { name := "fnOne", fn := fun _ => fun
  | [d] => { results := [.lit (.bool true)], args := [d] }
  | _ => none }
def fnOneRow : OpenClaim := { program := "ytfajbeoajomljaagreat", sum := "3220491c0db139f9fc4d5168082ba0b0b3137823c7d003150e666c90f8530019", func := "loop.example/g00281/laws.FnOne", spec := "fnOne", unfollowed := true, recurses := true, apart := false }
def FnOneSaid : Prop := fnOneRow.holds Tryz.pinned (OpenSpec.ofChange fnOneSpec)

/-- ITS FALSE NEIGHBOUR: 'it returns false'. Refute it at one input. -/
def fnOneWrong : ChangeSpec := { name := "fnOne", fn := fun _ => fun
  | [d] => { results := [.lit (.bool false)], args := [d] }
  | _ => none }
def FnOneWrongFalsely : Prop := fnOneRow.holds Tryz.pinned (OpenSpec.ofChange fnOneWrong)

/-- 'laws.FnRounds': WHATEVER THE INPUT: true; the input reads as it did. -/
def fnRoundsSpec : ChangeSpec := { name := "fnRounds", fn := fun _ => fun
  | [d] => { results := [.lit (.bool true)], args := [d] }
  | _ => none }
def fnRoundsRow : OpenClaim := { program := "ytfajbeoajomljaagreat", sum := "3220491c0db139f9fc4d5168082ba0b0b3137823c7d003150e666c90f8530019", func := "loop.example/g00281/laws.FnRounds", spec := "fnRounds", unfollowed := true, recurses := true, apart := false }
def FnRoundsSaid : Prop := fnRoundsRow.holds Tryz.pinned (OpenSpec.ofChange fnRoundsSpec)

/-- ITS FALSE NEIGHBOUR: 'it returns false'. Refute it at one input. -/
def fnRoundsWrong : ChangeSpec := { name := "fnRounds", fn := fun _ => fun
  | [d] => { results := [.lit (.bool false)], args := [d] }
  | _ => none }
def FnRoundsWrongFalsely : Prop := fnRoundsRow.holds Tryz.pinned (OpenSpec.ofChange fnRoundsWrong)

/-- 'laws.FnGoesOn': WHATEVER THE INPUT: true; the input reads as it did. -/
def fnGoesOnSpec : ChangeSpec := { name := "fnGoesOn", fn := fun _ => fun
  | [d] => { results := [.lit (.bool true)], args := [d] }
  | _ => none }
def fnGoesOnRow : OpenClaim := { program := "ytfajbeoajomljaagreat", sum := "3220491c0db139f9fc4d5168082ba0b0b3137823c7d003150e666c90f8530019", func := "loop.example/g00281/laws.FnGoesOn", spec := "fnGoesOn", unfollowed := true, recurses := true, apart := false }
def FnGoesOnSaid : Prop := fnGoesOnRow.holds Tryz.pinned (OpenSpec.ofChange fnGoesOnSpec)

/-- ITS FALSE NEIGHBOUR: 'it returns false'. Refute it at one input. -/
def fnGoesOnWrong : ChangeSpec := { name := "fnGoesOn", fn := fun _ => fun
  | [d] => { results := [.lit (.bool false)], args := [d] }
  | _ => none }
def FnGoesOnWrongFalsely : Prop := fnGoesOnRow.holds Tryz.pinned (OpenSpec.ofChange fnGoesOnWrong)

/-- 'laws.FnSane': WHATEVER THE INPUT: true; the input reads as it did. -/
def fnSaneSpec : ChangeSpec := { name := "fnSane", fn := fun _ => fun
  | [d] => { results := [.lit (.bool true)], args := [d] }
  | _ => none }
def fnSaneRow : OpenClaim := { program := "ytfajbeoajomljaagreat", sum := "3220491c0db139f9fc4d5168082ba0b0b3137823c7d003150e666c90f8530019", func := "loop.example/g00281/laws.FnSane", spec := "fnSane", unfollowed := true, recurses := true, apart := false }
def FnSaneSaid : Prop := fnSaneRow.holds Tryz.pinned (OpenSpec.ofChange fnSaneSpec)

/-- ITS FALSE NEIGHBOUR: 'it returns false'. Refute it at one input. -/
def fnSaneWrong : ChangeSpec := { name := "fnSane", fn := fun _ => fun
  | [d] => { results := [.lit (.bool false)], args := [d] }
  | _ => none }
def FnSaneWrongFalsely : Prop := fnSaneRow.holds Tryz.pinned (OpenSpec.ofChange fnSaneWrong)

/-- 'laws.FnJudged': WHATEVER THE INPUT: true; the input reads as it did. -/
def fnJudgedSpec : ChangeSpec := { name := "fnJudged", fn := fun _ => fun
  | [d] => { results := [.lit (.bool true)], args := [d] }
  | _ => none }
def fnJudgedRow : OpenClaim := { program := "ytfajbeoajomljaagreat", sum := "3220491c0db139f9fc4d5168082ba0b0b3137823c7d003150e666c90f8530019", func := "loop.example/g00281/laws.FnJudged", spec := "fnJudged", unfollowed := true, recurses := true, apart := false }
def FnJudgedSaid : Prop := fnJudgedRow.holds Tryz.pinned (OpenSpec.ofChange fnJudgedSpec)

/-- ITS FALSE NEIGHBOUR: 'it returns false'. Refute it at one input. -/
def fnJudgedWrong : ChangeSpec := { name := "fnJudged", fn := fun _ => fun
  | [d] => { results := [.lit (.bool false)], args := [d] }
  | _ => none }
def FnJudgedWrongFalsely : Prop := fnJudgedRow.holds Tryz.pinned (OpenSpec.ofChange fnJudgedWrong)

/- THE SECOND FORM. 'bulk': how many values and letters a reading holds, each counted each time it is reached (what is shared counts as often as it is met; a slice's spare places count too). A statement '..UptoSaid' is the law's where the arguments, and the package variables that the reading takes, are together of bulk at most 1048576: NARROWER than '..Said'. Prove '..Said' where nothing that the law and all that it calls make is longer than what came in: it says more and counts as full. Else prove '..UptoSaid'. A law counts once. -/
mutual
def uptoBulk {H : Type} : DataW H → Nat
  | .lit (.string bytes) => bytes.length + 1
  | .lit _ => 1
  | .nil => 1
  | .ptr d => uptoBulk d + 1
  | .slice elems spare => uptoBulkAll elems + uptoBulkAll spare + 1
  | .agg parts => uptoBulkAll parts + 1
  | .iface _ d => uptoBulk d + 1
  | .map entries => uptoBulkEntries entries + 1
  | .held _ => 1
def uptoBulkAll {H : Type} : List (DataW H) → Nat
  | [] => 0
  | d :: r => uptoBulk d + uptoBulkAll r
def uptoBulkEntries {H : Type} : List (Lit × DataW H) → Nat
  | [] => 0
  | x :: r => uptoBulkEntry x + uptoBulkEntries r
def uptoBulkEntry {H : Type} : Lit × DataW H → Nat
  | (.string bytes, d) => bytes.length + uptoBulk d + 1
  | (_, d) => uptoBulk d + 1
 end
def uptoSmall : (H : Type) → List (DataW H) → Bool := fun _ ds => decide (uptoBulkAll ds ≤ 1048576)
def OpenSpec.upto (s : _root_.Go.ChangeSpec) : _root_.Go.OpenSpec := { _root_.Go.OpenSpec.ofChange s with cond := some uptoSmall }

/-- 'laws.FnExactJudge', WHERE WHAT IT READS IS OF BULK AT MOST 1048576: true; the input reads as it did. -/
def fnExactJudgeUptoRow : OpenClaim := { program := "ytfajbeoajomljaagreat", sum := "3220491c0db139f9fc4d5168082ba0b0b3137823c7d003150e666c90f8530019", func := "loop.example/g00281/laws.FnExactJudge", spec := "fnExactJudge", unfollowed := true, recurses := true, apart := false, narrowed := true }
def FnExactJudgeUptoSaid : Prop := fnExactJudgeUptoRow.holds Tryz.pinned (OpenSpec.upto fnExactJudgeSpec)

/-- 'laws.FnKept', WHERE WHAT IT READS IS OF BULK AT MOST 1048576: true; the input reads as it did. -/
def fnKeptUptoRow : OpenClaim := { program := "ytfajbeoajomljaagreat", sum := "3220491c0db139f9fc4d5168082ba0b0b3137823c7d003150e666c90f8530019", func := "loop.example/g00281/laws.FnKept", spec := "fnKept", unfollowed := true, recurses := true, apart := false, narrowed := true }
def FnKeptUptoSaid : Prop := fnKeptUptoRow.holds Tryz.pinned (OpenSpec.upto fnKeptSpec)

/-- 'laws.FnCores', WHERE WHAT IT READS IS OF BULK AT MOST 1048576: true; the input reads as it did. -/
def fnCoresUptoRow : OpenClaim := { program := "ytfajbeoajomljaagreat", sum := "3220491c0db139f9fc4d5168082ba0b0b3137823c7d003150e666c90f8530019", func := "loop.example/g00281/laws.FnCores", spec := "fnCores", unfollowed := true, recurses := true, apart := false, narrowed := true }
def FnCoresUptoSaid : Prop := fnCoresUptoRow.holds Tryz.pinned (OpenSpec.upto fnCoresSpec)

/-- 'laws.FnRunsCount', WHERE WHAT IT READS IS OF BULK AT MOST 1048576: true; the input reads as it did. -/
def fnRunsCountUptoRow : OpenClaim := { program := "ytfajbeoajomljaagreat", sum := "3220491c0db139f9fc4d5168082ba0b0b3137823c7d003150e666c90f8530019", func := "loop.example/g00281/laws.FnRunsCount", spec := "fnRunsCount", unfollowed := true, recurses := true, apart := false, narrowed := true }
def FnRunsCountUptoSaid : Prop := fnRunsCountUptoRow.holds Tryz.pinned (OpenSpec.upto fnRunsCountSpec)

/-- 'laws.FnOne', WHERE WHAT IT READS IS OF BULK AT MOST 1048576: true; the input reads as it did. -/
def fnOneUptoRow : OpenClaim := { program := "ytfajbeoajomljaagreat", sum := "3220491c0db139f9fc4d5168082ba0b0b3137823c7d003150e666c90f8530019", func := "loop.example/g00281/laws.FnOne", spec := "fnOne", unfollowed := true, recurses := true, apart := false, narrowed := true }
def FnOneUptoSaid : Prop := fnOneUptoRow.holds Tryz.pinned (OpenSpec.upto fnOneSpec)

/-- 'laws.FnRounds', WHERE WHAT IT READS IS OF BULK AT MOST 1048576: true; the input reads as it did. -/
def fnRoundsUptoRow : OpenClaim := { program := "ytfajbeoajomljaagreat", sum := "3220491c0db139f9fc4d5168082ba0b0b3137823c7d003150e666c90f8530019", func := "loop.example/g00281/laws.FnRounds", spec := "fnRounds", unfollowed := true, recurses := true, apart := false, narrowed := true }
def FnRoundsUptoSaid : Prop := fnRoundsUptoRow.holds Tryz.pinned (OpenSpec.upto fnRoundsSpec)

/-- 'laws.FnGoesOn', WHERE WHAT IT READS IS OF BULK AT MOST 1048576: true; the input reads as it did. -/
def fnGoesOnUptoRow : OpenClaim := { program := "ytfajbeoajomljaagreat", sum := "3220491c0db139f9fc4d5168082ba0b0b3137823c7d003150e666c90f8530019", func := "loop.example/g00281/laws.FnGoesOn", spec := "fnGoesOn", unfollowed := true, recurses := true, apart := false, narrowed := true }
def FnGoesOnUptoSaid : Prop := fnGoesOnUptoRow.holds Tryz.pinned (OpenSpec.upto fnGoesOnSpec)

/-- 'laws.FnSane', WHERE WHAT IT READS IS OF BULK AT MOST 1048576: true; the input reads as it did. -/
def fnSaneUptoRow : OpenClaim := { program := "ytfajbeoajomljaagreat", sum := "3220491c0db139f9fc4d5168082ba0b0b3137823c7d003150e666c90f8530019", func := "loop.example/g00281/laws.FnSane", spec := "fnSane", unfollowed := true, recurses := true, apart := false, narrowed := true }
def FnSaneUptoSaid : Prop := fnSaneUptoRow.holds Tryz.pinned (OpenSpec.upto fnSaneSpec)

/-- 'laws.FnJudged', WHERE WHAT IT READS IS OF BULK AT MOST 1048576: true; the input reads as it did. -/
def fnJudgedUptoRow : OpenClaim := { program := "ytfajbeoajomljaagreat", sum := "3220491c0db139f9fc4d5168082ba0b0b3137823c7d003150e666c90f8530019", func := "loop.example/g00281/laws.FnJudged", spec := "fnJudged", unfollowed := true, recurses := true, apart := false, narrowed := true }
def FnJudgedUptoSaid : Prop := fnJudgedUptoRow.holds Tryz.pinned (OpenSpec.upto fnJudgedSpec)

end Rows
end Go.Proofs.YtfajbeoajomljaaGreat
