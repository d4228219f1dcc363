/-
  No cell of these rows narrows 'for every input' (looked for: loops, veiled, ifaces, maps, wideKeys, modest, calm, conditions, laid).
  DERIVED. THE GIVEN ROWS OF THIS SEAT. 7 by the template 'for every input the law returns true; each argument reads behind the call as it read before'; 0 by the template 'total and deterministic' (their statements: YtgcjdkgddnnlpaaTotals.lean).
  GIVEN WITH THE SEED: the statements are not yours to turn. If you find one false, say at which input.
  Laid BY PROGRAM, IN A SANDBOX (cutbox-rows.mjs): the forced cells as the released guide's own fill.sh prints them over the translation d97fb56c5e850d66… (all of the seat's roots in one cut). By AI agents, Wed Nov 11 2026. No macro, syntax, notation, axiom, sorry.
-/
import Derived.Test.YtgcjdkgddnnlpaaChecked
import GoSem.Claim
import GoSem.ClaimJoined
import GoSem.ClaimMapViews
import Derived.JoinedTies
import Derived.KernelRfl
namespace Go.Proofs.Ytgcjdkgddnnlpaa
/- THE CELL 'sum', in the pinned program and in every row, IS THE sha256 OF THE DUMP (.gsa) THAT YtgcjdkgddnnlpaaProg.lean LOADS. Nothing in Lean hashes anything: it is a label: what it is worth is what the hold of that sum in a sandbox is worth. -/
noncomputable def Try.pinned : Pinned := { name := "ytgcjdkgddnnlpaa", sum := "d97fb56c5e850d664125610d737bfeee4c210999c3e14b58ae48cf1e1391b262", checked := Try.checked }
namespace Rows
def none {H : Type} : Left H := { results := [], args := [] }

/-- 'laws.FnExactFlockNew': WHATEVER THE INPUT: true; the input reads as it did. -/
def fnExactFlockNewSpec : ChangeSpec := { name := "fnExactFlockNew", fn := fun _ => fun
  | [d1, d2, d3] => { results := [.lit (.bool true)], args := [d1, d2, d3] }
  | _ => none }
def fnExactFlockNewRow : OpenClaim := { program := "ytgcjdkgddnnlpaa", sum := "d97fb56c5e850d664125610d737bfeee4c210999c3e14b58ae48cf1e1391b262", func := "loop.example/g00281/laws.FnExactFlockNew", spec := "fnExactFlockNew", unfollowed := true, recurses := true, apart := false }
def FnExactFlockNewSaid : Prop := fnExactFlockNewRow.holds Try.pinned (OpenSpec.ofChange fnExactFlockNewSpec)

/-- ITS FALSE NEIGHBOUR: 'it returns false'. Refute it at one input. -/
def fnExactFlockNewWrong : ChangeSpec := { name := "fnExactFlockNew", fn := fun _ => fun
  | [d1, d2, d3] => { results := [.lit (.bool false)], args := [d1, d2, d3] }
  | _ => none }
def FnExactFlockNewWrongFalsely : Prop := fnExactFlockNewRow.holds Try.pinned (OpenSpec.ofChange fnExactFlockNewWrong)

/-- 'laws.FnExactKnows': WHATEVER THE INPUT: true; the input reads as it did. -/
def fnExactKnowsSpec : ChangeSpec := { name := "fnExactKnows", fn := fun _ => fun
  | [d1, d2, d3, d4] => { results := [.lit (.bool true)], args := [d1, d2, d3, d4] }
  | _ => none }
def fnExactKnowsRow : OpenClaim := { program := "ytgcjdkgddnnlpaa", sum := "d97fb56c5e850d664125610d737bfeee4c210999c3e14b58ae48cf1e1391b262", func := "loop.example/g00281/laws.FnExactKnows", spec := "fnExactKnows", unfollowed := true, recurses := true, apart := false }
def FnExactKnowsSaid : Prop := fnExactKnowsRow.holds Try.pinned (OpenSpec.ofChange fnExactKnowsSpec)

/-- ITS FALSE NEIGHBOUR: 'it returns false'. Refute it at one input. -/
def fnExactKnowsWrong : ChangeSpec := { name := "fnExactKnows", fn := fun _ => fun
  | [d1, d2, d3, d4] => { results := [.lit (.bool false)], args := [d1, d2, d3, d4] }
  | _ => none }
def FnExactKnowsWrongFalsely : Prop := fnExactKnowsRow.holds Try.pinned (OpenSpec.ofChange fnExactKnowsWrong)

/-- 'laws.FnExactClocks': WHATEVER THE INPUT: true; the input reads as it did. -/
def fnExactClocksSpec : ChangeSpec := { name := "fnExactClocks", fn := fun _ => fun
  | [d1, d2] => { results := [.lit (.bool true)], args := [d1, d2] }
  | _ => none }
def fnExactClocksRow : OpenClaim := { program := "ytgcjdkgddnnlpaa", sum := "d97fb56c5e850d664125610d737bfeee4c210999c3e14b58ae48cf1e1391b262", func := "loop.example/g00281/laws.FnExactClocks", spec := "fnExactClocks", unfollowed := true, recurses := true, apart := false }
def FnExactClocksSaid : Prop := fnExactClocksRow.holds Try.pinned (OpenSpec.ofChange fnExactClocksSpec)

/-- ITS FALSE NEIGHBOUR: 'it returns false'. Refute it at one input. -/
def fnExactClocksWrong : ChangeSpec := { name := "fnExactClocks", fn := fun _ => fun
  | [d1, d2] => { results := [.lit (.bool false)], args := [d1, d2] }
  | _ => none }
def FnExactClocksWrongFalsely : Prop := fnExactClocksRow.holds Try.pinned (OpenSpec.ofChange fnExactClocksWrong)

/-- 'laws.FnExactEventText': WHATEVER THE INPUT: true; the input reads as it did. -/
def fnExactEventTextSpec : ChangeSpec := { name := "fnExactEventText", fn := fun _ => fun
  | [d] => { results := [.lit (.bool true)], args := [d] }
  | _ => none }
def fnExactEventTextRow : OpenClaim := { program := "ytgcjdkgddnnlpaa", sum := "d97fb56c5e850d664125610d737bfeee4c210999c3e14b58ae48cf1e1391b262", func := "loop.example/g00281/laws.FnExactEventText", spec := "fnExactEventText", inPlace := ["internal/abi.NoEscape", "internal/bytealg.MakeNoZero"], recurses := true, apart := false }
def FnExactEventTextSaid : Prop := fnExactEventTextRow.holds Try.pinned (OpenSpec.ofChange fnExactEventTextSpec)

/-- ITS FALSE NEIGHBOUR: 'it returns false'. Refute it at one input. -/
def fnExactEventTextWrong : ChangeSpec := { name := "fnExactEventText", fn := fun _ => fun
  | [d] => { results := [.lit (.bool false)], args := [d] }
  | _ => none }
def FnExactEventTextWrongFalsely : Prop := fnExactEventTextRow.holds Try.pinned (OpenSpec.ofChange fnExactEventTextWrong)

/-- 'laws.FnExactHartText': WHATEVER THE INPUT: true; the input reads as it did. -/
def fnExactHartTextSpec : ChangeSpec := { name := "fnExactHartText", fn := fun _ => fun
  | [d] => { results := [.lit (.bool true)], args := [d] }
  | _ => none }
def fnExactHartTextRow : OpenClaim := { program := "ytgcjdkgddnnlpaa", sum := "d97fb56c5e850d664125610d737bfeee4c210999c3e14b58ae48cf1e1391b262", func := "loop.example/g00281/laws.FnExactHartText", spec := "fnExactHartText", inPlace := ["internal/abi.NoEscape", "internal/bytealg.MakeNoZero"], unfollowed := true, recurses := true, apart := false }
def FnExactHartTextSaid : Prop := fnExactHartTextRow.holds Try.pinned (OpenSpec.ofChange fnExactHartTextSpec)

/-- ITS FALSE NEIGHBOUR: 'it returns false'. Refute it at one input. -/
def fnExactHartTextWrong : ChangeSpec := { name := "fnExactHartText", fn := fun _ => fun
  | [d] => { results := [.lit (.bool false)], args := [d] }
  | _ => none }
def FnExactHartTextWrongFalsely : Prop := fnExactHartTextRow.holds Try.pinned (OpenSpec.ofChange fnExactHartTextWrong)

/-- 'laws.FnExactInsText': WHATEVER THE INPUT: true; the input reads as it did. -/
def fnExactInsTextSpec : ChangeSpec := { name := "fnExactInsText", fn := fun _ => fun
  | [d] => { results := [.lit (.bool true)], args := [d] }
  | _ => none }
def fnExactInsTextRow : OpenClaim := { program := "ytgcjdkgddnnlpaa", sum := "d97fb56c5e850d664125610d737bfeee4c210999c3e14b58ae48cf1e1391b262", func := "loop.example/g00281/laws.FnExactInsText", spec := "fnExactInsText", inPlace := ["internal/abi.NoEscape", "internal/bytealg.MakeNoZero"], recurses := true, apart := false }
def FnExactInsTextSaid : Prop := fnExactInsTextRow.holds Try.pinned (OpenSpec.ofChange fnExactInsTextSpec)

/-- ITS FALSE NEIGHBOUR: 'it returns false'. Refute it at one input. -/
def fnExactInsTextWrong : ChangeSpec := { name := "fnExactInsText", fn := fun _ => fun
  | [d] => { results := [.lit (.bool false)], args := [d] }
  | _ => none }
def FnExactInsTextWrongFalsely : Prop := fnExactInsTextRow.holds Try.pinned (OpenSpec.ofChange fnExactInsTextWrong)

/-- 'laws.FnTraced': WHATEVER THE INPUT: true; the input reads as it did. -/
def fnTracedSpec : ChangeSpec := { name := "fnTraced", fn := fun _ => fun
  | [d] => { results := [.lit (.bool true)], args := [d] }
  | _ => none }
def fnTracedRow : OpenClaim := { program := "ytgcjdkgddnnlpaa", sum := "d97fb56c5e850d664125610d737bfeee4c210999c3e14b58ae48cf1e1391b262", func := "loop.example/g00281/laws.FnTraced", spec := "fnTraced", inPlace := ["internal/abi.NoEscape", "internal/bytealg.MakeNoZero"], unfollowed := true, recurses := true, apart := false }
def FnTracedSaid : Prop := fnTracedRow.holds Try.pinned (OpenSpec.ofChange fnTracedSpec)

/-- ITS FALSE NEIGHBOUR: 'it returns false'. Refute it at one input. -/
def fnTracedWrong : ChangeSpec := { name := "fnTraced", fn := fun _ => fun
  | [d] => { results := [.lit (.bool false)], args := [d] }
  | _ => none }
def FnTracedWrongFalsely : Prop := fnTracedRow.holds Try.pinned (OpenSpec.ofChange fnTracedWrong)

/- THE SECOND FORM. 'bulk': how many values and letters a reading holds, each counted each time it is reached (what is shared counts as often as it is met; a slice's spare places count too). A statement '..UptoSaid' is the law's where the arguments, and the package variables that the reading takes, are together of bulk at most 1048576: NARROWER than '..Said'. Prove '..Said' where nothing that the law and all that it calls make is longer than what came in: it says more and counts as full. Else prove '..UptoSaid'. A law counts once. -/
mutual
def uptoBulk {H : Type} : DataW H → Nat
  | .lit (.string bytes) => bytes.length + 1
  | .lit _ => 1
  | .nil => 1
  | .ptr d => uptoBulk d + 1
  | .slice elems spare => uptoBulkAll elems + uptoBulkAll spare + 1
  | .agg parts => uptoBulkAll parts + 1
  | .iface _ d => uptoBulk d + 1
  | .map entries => uptoBulkEntries entries + 1
  | .held _ => 1
def uptoBulkAll {H : Type} : List (DataW H) → Nat
  | [] => 0
  | d :: r => uptoBulk d + uptoBulkAll r
def uptoBulkEntries {H : Type} : List (Lit × DataW H) → Nat
  | [] => 0
  | x :: r => uptoBulkEntry x + uptoBulkEntries r
def uptoBulkEntry {H : Type} : Lit × DataW H → Nat
  | (.string bytes, d) => bytes.length + uptoBulk d + 1
  | (_, d) => uptoBulk d + 1
 end
def uptoSmall : (H : Type) → List (DataW H) → Bool := fun _ ds => decide (uptoBulkAll ds ≤ 1048576)
def OpenSpec.upto (s : _root_.Go.ChangeSpec) : _root_.Go.OpenSpec := { _root_.Go.OpenSpec.ofChange s with cond := some uptoSmall }

/-- 'laws.FnExactFlockNew', WHERE WHAT IT READS IS OF BULK AT MOST 1048576: true; the input reads as it did. -/
def fnExactFlockNewUptoRow : OpenClaim := { program := "ytgcjdkgddnnlpaa", sum := "d97fb56c5e850d664125610d737bfeee4c210999c3e14b58ae48cf1e1391b262", func := "loop.example/g00281/laws.FnExactFlockNew", spec := "fnExactFlockNew", unfollowed := true, recurses := true, apart := false, narrowed := true }
def FnExactFlockNewUptoSaid : Prop := fnExactFlockNewUptoRow.holds Try.pinned (OpenSpec.upto fnExactFlockNewSpec)

/-- 'laws.FnExactKnows', WHERE WHAT IT READS IS OF BULK AT MOST 1048576: true; the input reads as it did. -/
def fnExactKnowsUptoRow : OpenClaim := { program := "ytgcjdkgddnnlpaa", sum := "d97fb56c5e850d664125610d737bfeee4c210999c3e14b58ae48cf1e1391b262", func := "loop.example/g00281/laws.FnExactKnows", spec := "fnExactKnows", unfollowed := true, recurses := true, apart := false, narrowed := true }
def FnExactKnowsUptoSaid : Prop := fnExactKnowsUptoRow.holds Try.pinned (OpenSpec.upto fnExactKnowsSpec)

/-- 'laws.FnExactClocks', WHERE WHAT IT READS IS OF BULK AT MOST 1048576: true; the input reads as it did. -/
def fnExactClocksUptoRow : OpenClaim := { program := "ytgcjdkgddnnlpaa", sum := "d97fb56c5e850d664125610d737bfeee4c210999c3e14b58ae48cf1e1391b262", func := "loop.example/g00281/laws.FnExactClocks", spec := "fnExactClocks", unfollowed := true, recurses := true, apart := false, narrowed := true }
def FnExactClocksUptoSaid : Prop := fnExactClocksUptoRow.holds Try.pinned (OpenSpec.upto fnExactClocksSpec)

/-- 'laws.FnExactEventText', WHERE WHAT IT READS IS OF BULK AT MOST 1048576: true; the input reads as it did. -/
def fnExactEventTextUptoRow : OpenClaim := { program := "ytgcjdkgddnnlpaa", sum := "d97fb56c5e850d664125610d737bfeee4c210999c3e14b58ae48cf1e1391b262", func := "loop.example/g00281/laws.FnExactEventText", spec := "fnExactEventText", inPlace := ["internal/abi.NoEscape", "internal/bytealg.MakeNoZero"], recurses := true, apart := false, narrowed := true }
def FnExactEventTextUptoSaid : Prop := fnExactEventTextUptoRow.holds Try.pinned (OpenSpec.upto fnExactEventTextSpec)

/-- 'laws.FnExactHartText', WHERE WHAT IT READS IS OF BULK AT MOST 1048576: true; the input reads as it did. -/
def fnExactHartTextUptoRow : OpenClaim := { program := "ytgcjdkgddnnlpaa", sum := "d97fb56c5e850d664125610d737bfeee4c210999c3e14b58ae48cf1e1391b262", func := "loop.example/g00281/laws.FnExactHartText", spec := "fnExactHartText", inPlace := ["internal/abi.NoEscape", "internal/bytealg.MakeNoZero"], unfollowed := true, recurses := true, apart := false, narrowed := true }
def FnExactHartTextUptoSaid : Prop := fnExactHartTextUptoRow.holds Try.pinned (OpenSpec.upto fnExactHartTextSpec)

/-- 'laws.FnExactInsText', WHERE WHAT IT READS IS OF BULK AT MOST 1048576: true; the input reads as it did. -/
def fnExactInsTextUptoRow : OpenClaim := { program := "ytgcjdkgddnnlpaa", sum := "d97fb56c5e850d664125610d737bfeee4c210999c3e14b58ae48cf1e1391b262", func := "loop.example/g00281/laws.FnExactInsText", spec := "fnExactInsText", inPlace := ["internal/abi.NoEscape", "internal/bytealg.MakeNoZero"], recurses := true, apart := false, narrowed := true }
def FnExactInsTextUptoSaid : Prop := fnExactInsTextUptoRow.holds Try.pinned (OpenSpec.upto fnExactInsTextSpec)

/-- 'laws.FnTraced', WHERE WHAT IT READS IS OF BULK AT MOST 1048576: true; the input reads as it did. -/
def fnTracedUptoRow : OpenClaim := { program := "ytgcjdkgddnnlpaa", sum := "d97fb56c5e850d664125610d737bfeee4c210999c3e14b58ae48cf1e1391b262", func := "loop.example/g00281/laws.FnTraced", spec := "fnTraced", inPlace := ["internal/abi.NoEscape", "internal/bytealg.MakeNoZero"], unfollowed := true, recurses := true, apart := false, narrowed := true }
def FnTracedUptoSaid : Prop := fnTracedUptoRow.holds Try.pinned (OpenSpec.upto fnTracedSpec)

end Rows
end Go.Proofs.Ytgcjdkgddnnlpaa
