/-
  No cell of these rows narrows 'for every input' (looked for: loops, veiled, ifaces, maps, wideKeys, modest, calm, conditions, laid).
  DERIVED. THE GIVEN ROWS OF THIS SEAT. 12 by the template 'for every input the law returns true; each argument reads behind the call as it read before'; 0 by the template 'total and deterministic' (their statements: YteondgjjgdmldaaTotals.lean).
  GIVEN WITH THE SEED: the statements are not yours to turn. If you find one false, say at which input.
  Laid BY PROGRAM, IN A SANDBOX (cutbox-rows.mjs): the forced cells as the released guide's own fill.sh prints them over the translation dd1fc8b2aea5588a… (all of the seat's roots in one cut). By AI agents, Wed Nov 11 2026. No macro, syntax, notation, axiom, sorry.
-/
import Derived.Test.YteondgjjgdmldaaChecked
import GoSem.Claim
import GoSem.ClaimJoined
import GoSem.ClaimMapViews
import Derived.JoinedTies
import Derived.KernelRfl
namespace Go.Proofs.Yteondgjjgdmldaa
/- THE CELL 'sum', in the pinned program and in every row, IS THE sha256 OF THE DUMP (.gsa) THAT YteondgjjgdmldaaProg.lean LOADS. Nothing in Lean hashes anything: it is a label: what it is worth is what the hold of that sum in a sandbox is worth. -/
noncomputable def Try.pinned : Pinned := { name := "yteondgjjgdmldaa", sum := "dd1fc8b2aea5588a48d85d156f8b059a943d1b56f9045658c6efe28f2c53ac88", checked := Try.checked }
namespace Rows
def none {H : Type} : Left H := { results := [], args := [] }

/-- 'laws.FnSameHarts': WHATEVER THE INPUT: true; the input reads as it did. -/
def fnSameHartsSpec : ChangeSpec := { name := "fnSameHarts", fn := fun _ => fun
  | [d] => { results := [.lit (.bool true)], args := [d] }
  | _ => none }
def fnSameHartsRow : OpenClaim := { program := "yteondgjjgdmldaa", sum := "dd1fc8b2aea5588a48d85d156f8b059a943d1b56f9045658c6efe28f2c53ac88", func := "loop.example/g00281/laws.FnSameHarts", spec := "fnSameHarts", apart := false }
def FnSameHartsSaid : Prop := fnSameHartsRow.holds Try.pinned (OpenSpec.ofChange fnSameHartsSpec)

/-- ITS FALSE NEIGHBOUR: 'it returns false'. Refute it at one input. -/
def fnSameHartsWrong : ChangeSpec := { name := "fnSameHarts", fn := fun _ => fun
  | [d] => { results := [.lit (.bool false)], args := [d] }
  | _ => none }
def FnSameHartsWrongFalsely : Prop := fnSameHartsRow.holds Try.pinned (OpenSpec.ofChange fnSameHartsWrong)

/-- 'laws.FnExactApart': WHATEVER THE INPUT: true; the input reads as it did. -/
def fnExactApartSpec : ChangeSpec := { name := "fnExactApart", fn := fun _ => fun
  | [d1, d2] => { results := [.lit (.bool true)], args := [d1, d2] }
  | _ => none }
def fnExactApartRow : OpenClaim := { program := "yteondgjjgdmldaa", sum := "dd1fc8b2aea5588a48d85d156f8b059a943d1b56f9045658c6efe28f2c53ac88", func := "loop.example/g00281/laws.FnExactApart", spec := "fnExactApart", unfollowed := true, recurses := true, apart := false }
def FnExactApartSaid : Prop := fnExactApartRow.holds Try.pinned (OpenSpec.ofChange fnExactApartSpec)

/-- ITS FALSE NEIGHBOUR: 'it returns false'. Refute it at one input. -/
def fnExactApartWrong : ChangeSpec := { name := "fnExactApart", fn := fun _ => fun
  | [d1, d2] => { results := [.lit (.bool false)], args := [d1, d2] }
  | _ => none }
def FnExactApartWrongFalsely : Prop := fnExactApartRow.holds Try.pinned (OpenSpec.ofChange fnExactApartWrong)

/-- 'laws.FnExactEventText': WHATEVER THE INPUT: true; the input reads as it did. -/
def fnExactEventTextSpec : ChangeSpec := { name := "fnExactEventText", fn := fun _ => fun
  | [d] => { results := [.lit (.bool true)], args := [d] }
  | _ => none }
def fnExactEventTextRow : OpenClaim := { program := "yteondgjjgdmldaa", sum := "dd1fc8b2aea5588a48d85d156f8b059a943d1b56f9045658c6efe28f2c53ac88", func := "loop.example/g00281/laws.FnExactEventText", spec := "fnExactEventText", inPlace := ["internal/abi.NoEscape", "internal/bytealg.MakeNoZero"], recurses := true, apart := false }
def FnExactEventTextSaid : Prop := fnExactEventTextRow.holds Try.pinned (OpenSpec.ofChange fnExactEventTextSpec)

/-- ITS FALSE NEIGHBOUR: 'it returns false'. Refute it at one input. -/
def fnExactEventTextWrong : ChangeSpec := { name := "fnExactEventText", fn := fun _ => fun
  | [d] => { results := [.lit (.bool false)], args := [d] }
  | _ => none }
def FnExactEventTextWrongFalsely : Prop := fnExactEventTextRow.holds Try.pinned (OpenSpec.ofChange fnExactEventTextWrong)

/-- 'laws.FnClocks': WHATEVER THE INPUT: true; the input reads as it did. -/
def fnClocksSpec : ChangeSpec := { name := "fnClocks", fn := fun _ => fun
  | [d] => { results := [.lit (.bool true)], args := [d] }
  | _ => none }
def fnClocksRow : OpenClaim := { program := "yteondgjjgdmldaa", sum := "dd1fc8b2aea5588a48d85d156f8b059a943d1b56f9045658c6efe28f2c53ac88", func := "loop.example/g00281/laws.FnClocks", spec := "fnClocks", apart := false }
def FnClocksSaid : Prop := fnClocksRow.holds Try.pinned (OpenSpec.ofChange fnClocksSpec)

/-- ITS FALSE NEIGHBOUR: 'it returns false'. Refute it at one input. -/
def fnClocksWrong : ChangeSpec := { name := "fnClocks", fn := fun _ => fun
  | [d] => { results := [.lit (.bool false)], args := [d] }
  | _ => none }
def FnClocksWrongFalsely : Prop := fnClocksRow.holds Try.pinned (OpenSpec.ofChange fnClocksWrong)

/-- 'laws.FnExactKnows': WHATEVER THE INPUT: true; the input reads as it did. -/
def fnExactKnowsSpec : ChangeSpec := { name := "fnExactKnows", fn := fun _ => fun
  | [d1, d2, d3, d4] => { results := [.lit (.bool true)], args := [d1, d2, d3, d4] }
  | _ => none }
def fnExactKnowsRow : OpenClaim := { program := "yteondgjjgdmldaa", sum := "dd1fc8b2aea5588a48d85d156f8b059a943d1b56f9045658c6efe28f2c53ac88", func := "loop.example/g00281/laws.FnExactKnows", spec := "fnExactKnows", unfollowed := true, recurses := true, apart := false }
def FnExactKnowsSaid : Prop := fnExactKnowsRow.holds Try.pinned (OpenSpec.ofChange fnExactKnowsSpec)

/-- ITS FALSE NEIGHBOUR: 'it returns false'. Refute it at one input. -/
def fnExactKnowsWrong : ChangeSpec := { name := "fnExactKnows", fn := fun _ => fun
  | [d1, d2, d3, d4] => { results := [.lit (.bool false)], args := [d1, d2, d3, d4] }
  | _ => none }
def FnExactKnowsWrongFalsely : Prop := fnExactKnowsRow.holds Try.pinned (OpenSpec.ofChange fnExactKnowsWrong)

/-- 'laws.FnExactHartText': WHATEVER THE INPUT: true; the input reads as it did. -/
def fnExactHartTextSpec : ChangeSpec := { name := "fnExactHartText", fn := fun _ => fun
  | [d] => { results := [.lit (.bool true)], args := [d] }
  | _ => none }
def fnExactHartTextRow : OpenClaim := { program := "yteondgjjgdmldaa", sum := "dd1fc8b2aea5588a48d85d156f8b059a943d1b56f9045658c6efe28f2c53ac88", func := "loop.example/g00281/laws.FnExactHartText", spec := "fnExactHartText", inPlace := ["internal/abi.NoEscape", "internal/bytealg.MakeNoZero"], unfollowed := true, recurses := true, apart := false }
def FnExactHartTextSaid : Prop := fnExactHartTextRow.holds Try.pinned (OpenSpec.ofChange fnExactHartTextSpec)

/-- ITS FALSE NEIGHBOUR: 'it returns false'. Refute it at one input. -/
def fnExactHartTextWrong : ChangeSpec := { name := "fnExactHartText", fn := fun _ => fun
  | [d] => { results := [.lit (.bool false)], args := [d] }
  | _ => none }
def FnExactHartTextWrongFalsely : Prop := fnExactHartTextRow.holds Try.pinned (OpenSpec.ofChange fnExactHartTextWrong)

/-- 'laws.FnExactInsText': WHATEVER THE INPUT: true; the input reads as it did. -/
def fnExactInsTextSpec : ChangeSpec := { name := "fnExactInsText", fn := fun _ => fun
  | [d] => { results := [.lit (.bool true)], args := [d] }
  | _ => none }
def fnExactInsTextRow : OpenClaim := { program := "yteondgjjgdmldaa", sum := "dd1fc8b2aea5588a48d85d156f8b059a943d1b56f9045658c6efe28f2c53ac88", func := "loop.example/g00281/laws.FnExactInsText", spec := "fnExactInsText", inPlace := ["internal/abi.NoEscape", "internal/bytealg.MakeNoZero"], recurses := true, apart := false }
def FnExactInsTextSaid : Prop := fnExactInsTextRow.holds Try.pinned (OpenSpec.ofChange fnExactInsTextSpec)

/-- ITS FALSE NEIGHBOUR: 'it returns false'. Refute it at one input. -/
def fnExactInsTextWrong : ChangeSpec := { name := "fnExactInsText", fn := fun _ => fun
  | [d] => { results := [.lit (.bool false)], args := [d] }
  | _ => none }
def FnExactInsTextWrongFalsely : Prop := fnExactInsTextRow.holds Try.pinned (OpenSpec.ofChange fnExactInsTextWrong)

/-- 'laws.FnExactClocks': WHATEVER THE INPUT: true; the input reads as it did. -/
def fnExactClocksSpec : ChangeSpec := { name := "fnExactClocks", fn := fun _ => fun
  | [d1, d2] => { results := [.lit (.bool true)], args := [d1, d2] }
  | _ => none }
def fnExactClocksRow : OpenClaim := { program := "yteondgjjgdmldaa", sum := "dd1fc8b2aea5588a48d85d156f8b059a943d1b56f9045658c6efe28f2c53ac88", func := "loop.example/g00281/laws.FnExactClocks", spec := "fnExactClocks", unfollowed := true, recurses := true, apart := false }
def FnExactClocksSaid : Prop := fnExactClocksRow.holds Try.pinned (OpenSpec.ofChange fnExactClocksSpec)

/-- ITS FALSE NEIGHBOUR: 'it returns false'. Refute it at one input. -/
def fnExactClocksWrong : ChangeSpec := { name := "fnExactClocks", fn := fun _ => fun
  | [d1, d2] => { results := [.lit (.bool false)], args := [d1, d2] }
  | _ => none }
def FnExactClocksWrongFalsely : Prop := fnExactClocksRow.holds Try.pinned (OpenSpec.ofChange fnExactClocksWrong)

/-- 'laws.FnExactRaces': WHATEVER THE INPUT: true; the input reads as it did. -/
def fnExactRacesSpec : ChangeSpec := { name := "fnExactRaces", fn := fun _ => fun
  | [d1, d2] => { results := [.lit (.bool true)], args := [d1, d2] }
  | _ => none }
def fnExactRacesRow : OpenClaim := { program := "yteondgjjgdmldaa", sum := "dd1fc8b2aea5588a48d85d156f8b059a943d1b56f9045658c6efe28f2c53ac88", func := "loop.example/g00281/laws.FnExactRaces", spec := "fnExactRaces", unfollowed := true, recurses := true, apart := false }
def FnExactRacesSaid : Prop := fnExactRacesRow.holds Try.pinned (OpenSpec.ofChange fnExactRacesSpec)

/-- ITS FALSE NEIGHBOUR: 'it returns false'. Refute it at one input. -/
def fnExactRacesWrong : ChangeSpec := { name := "fnExactRaces", fn := fun _ => fun
  | [d1, d2] => { results := [.lit (.bool false)], args := [d1, d2] }
  | _ => none }
def FnExactRacesWrongFalsely : Prop := fnExactRacesRow.holds Try.pinned (OpenSpec.ofChange fnExactRacesWrong)

/-- 'laws.FnOneRegister': WHATEVER THE INPUT: true; the input reads as it did. -/
def fnOneRegisterSpec : ChangeSpec := { name := "fnOneRegister", fn := fun _ => fun
  | [d] => { results := [.lit (.bool true)], args := [d] }
  | _ => none }
def fnOneRegisterRow : OpenClaim := { program := "yteondgjjgdmldaa", sum := "dd1fc8b2aea5588a48d85d156f8b059a943d1b56f9045658c6efe28f2c53ac88", func := "loop.example/g00281/laws.FnOneRegister", spec := "fnOneRegister", unfollowed := true, recurses := true, apart := false }
def FnOneRegisterSaid : Prop := fnOneRegisterRow.holds Try.pinned (OpenSpec.ofChange fnOneRegisterSpec)

/-- ITS FALSE NEIGHBOUR: 'it returns false'. Refute it at one input. -/
def fnOneRegisterWrong : ChangeSpec := { name := "fnOneRegister", fn := fun _ => fun
  | [d] => { results := [.lit (.bool false)], args := [d] }
  | _ => none }
def FnOneRegisterWrongFalsely : Prop := fnOneRegisterRow.holds Try.pinned (OpenSpec.ofChange fnOneRegisterWrong)

/-- 'laws.FnWork': WHATEVER THE INPUT: true; the input reads as it did. -/
def fnWorkSpec : ChangeSpec := { name := "fnWork", fn := fun _ => fun
  | [d] => { results := [.lit (.bool true)], args := [d] }
  | _ => none }
def fnWorkRow : OpenClaim := { program := "yteondgjjgdmldaa", sum := "dd1fc8b2aea5588a48d85d156f8b059a943d1b56f9045658c6efe28f2c53ac88", func := "loop.example/g00281/laws.FnWork", spec := "fnWork", unfollowed := true, recurses := true, apart := false }
def FnWorkSaid : Prop := fnWorkRow.holds Try.pinned (OpenSpec.ofChange fnWorkSpec)

/-- ITS FALSE NEIGHBOUR: 'it returns false'. Refute it at one input. -/
def fnWorkWrong : ChangeSpec := { name := "fnWork", fn := fun _ => fun
  | [d] => { results := [.lit (.bool false)], args := [d] }
  | _ => none }
def FnWorkWrongFalsely : Prop := fnWorkRow.holds Try.pinned (OpenSpec.ofChange fnWorkWrong)

/-- 'laws.FnStays': WHATEVER THE INPUT: true; the input reads as it did. -/
def fnStaysSpec : ChangeSpec := { name := "fnStays", fn := fun _ => fun
  | [d] => { results := [.lit (.bool true)], args := [d] }
  | _ => none }
def fnStaysRow : OpenClaim := { program := "yteondgjjgdmldaa", sum := "dd1fc8b2aea5588a48d85d156f8b059a943d1b56f9045658c6efe28f2c53ac88", func := "loop.example/g00281/laws.FnStays", spec := "fnStays", unfollowed := true, recurses := true, apart := false }
def FnStaysSaid : Prop := fnStaysRow.holds Try.pinned (OpenSpec.ofChange fnStaysSpec)

/-- ITS FALSE NEIGHBOUR: 'it returns false'. Refute it at one input. -/
def fnStaysWrong : ChangeSpec := { name := "fnStays", fn := fun _ => fun
  | [d] => { results := [.lit (.bool false)], args := [d] }
  | _ => none }
def FnStaysWrongFalsely : Prop := fnStaysRow.holds Try.pinned (OpenSpec.ofChange fnStaysWrong)

/- THE SECOND FORM. 'bulk': how many values and letters a reading holds, each counted each time it is reached (what is shared counts as often as it is met; a slice's spare places count too). A statement '..UptoSaid' is the law's where the arguments, and the package variables that the reading takes, are together of bulk at most 1048576: NARROWER than '..Said'. Prove '..Said' where nothing that the law and all that it calls make is longer than what came in: it says more and counts as full. Else prove '..UptoSaid'. A law counts once. -/
mutual
def uptoBulk {H : Type} : DataW H → Nat
  | .lit (.string bytes) => bytes.length + 1
  | .lit _ => 1
  | .nil => 1
  | .ptr d => uptoBulk d + 1
  | .slice elems spare => uptoBulkAll elems + uptoBulkAll spare + 1
  | .agg parts => uptoBulkAll parts + 1
  | .iface _ d => uptoBulk d + 1
  | .map entries => uptoBulkEntries entries + 1
  | .held _ => 1
def uptoBulkAll {H : Type} : List (DataW H) → Nat
  | [] => 0
  | d :: r => uptoBulk d + uptoBulkAll r
def uptoBulkEntries {H : Type} : List (Lit × DataW H) → Nat
  | [] => 0
  | x :: r => uptoBulkEntry x + uptoBulkEntries r
def uptoBulkEntry {H : Type} : Lit × DataW H → Nat
  | (.string bytes, d) => bytes.length + uptoBulk d + 1
  | (_, d) => uptoBulk d + 1
 end
def uptoSmall : (H : Type) → List (DataW H) → Bool := fun _ ds => decide (uptoBulkAll ds ≤ 1048576)
def OpenSpec.upto (s : _root_.Go.ChangeSpec) : _root_.Go.OpenSpec := { _root_.Go.OpenSpec.ofChange s with cond := some uptoSmall }

/-- 'laws.FnSameHarts', WHERE WHAT IT READS IS OF BULK AT MOST 1048576: true; the input reads as it did. -/
def fnSameHartsUptoRow : OpenClaim := { program := "yteondgjjgdmldaa", sum := "dd1fc8b2aea5588a48d85d156f8b059a943d1b56f9045658c6efe28f2c53ac88", func := "loop.example/g00281/laws.FnSameHarts", spec := "fnSameHarts", apart := false, narrowed := true }
def FnSameHartsUptoSaid : Prop := fnSameHartsUptoRow.holds Try.pinned (OpenSpec.upto fnSameHartsSpec)

/-- 'laws.FnExactApart', WHERE WHAT IT READS IS OF BULK AT MOST 1048576: true; the input reads as it did. -/
def fnExactApartUptoRow : OpenClaim := { program := "yteondgjjgdmldaa", sum := "dd1fc8b2aea5588a48d85d156f8b059a943d1b56f9045658c6efe28f2c53ac88", func := "loop.example/g00281/laws.FnExactApart", spec := "fnExactApart", unfollowed := true, recurses := true, apart := false, narrowed := true }
def FnExactApartUptoSaid : Prop := fnExactApartUptoRow.holds Try.pinned (OpenSpec.upto fnExactApartSpec)

/-- 'laws.FnExactEventText', WHERE WHAT IT READS IS OF BULK AT MOST 1048576: true; the input reads as it did. -/
def fnExactEventTextUptoRow : OpenClaim := { program := "yteondgjjgdmldaa", sum := "dd1fc8b2aea5588a48d85d156f8b059a943d1b56f9045658c6efe28f2c53ac88", func := "loop.example/g00281/laws.FnExactEventText", spec := "fnExactEventText", inPlace := ["internal/abi.NoEscape", "internal/bytealg.MakeNoZero"], recurses := true, apart := false, narrowed := true }
def FnExactEventTextUptoSaid : Prop := fnExactEventTextUptoRow.holds Try.pinned (OpenSpec.upto fnExactEventTextSpec)

/-- 'laws.FnClocks', WHERE WHAT IT READS IS OF BULK AT MOST 1048576: true; the input reads as it did. -/
def fnClocksUptoRow : OpenClaim := { program := "yteondgjjgdmldaa", sum := "dd1fc8b2aea5588a48d85d156f8b059a943d1b56f9045658c6efe28f2c53ac88", func := "loop.example/g00281/laws.FnClocks", spec := "fnClocks", apart := false, narrowed := true }
def FnClocksUptoSaid : Prop := fnClocksUptoRow.holds Try.pinned (OpenSpec.upto fnClocksSpec)

/-- 'laws.FnExactKnows', WHERE WHAT IT READS IS OF BULK AT MOST 1048576: true; the input reads as it did. -/
def fnExactKnowsUptoRow : OpenClaim := { program := "yteondgjjgdmldaa", sum := "dd1fc8b2aea5588a48d85d156f8b059a943d1b56f9045658c6efe28f2c53ac88", func := "loop.example/g00281/laws.FnExactKnows", spec := "fnExactKnows", unfollowed := true, recurses := true, apart := false, narrowed := true }
def FnExactKnowsUptoSaid : Prop := fnExactKnowsUptoRow.holds Try.pinned (OpenSpec.upto fnExactKnowsSpec)

/-- 'laws.FnExactHartText', WHERE WHAT IT READS IS OF BULK AT MOST 1048576: true; the input reads as it did. -/
def fnExactHartTextUptoRow : OpenClaim := { program := "yteondgjjgdmldaa", sum := "dd1fc8b2aea5588a48d85d156f8b059a943d1b56f9045658c6efe28f2c53ac88", func := "loop.example/g00281/laws.FnExactHartText", spec := "fnExactHartText", inPlace := ["internal/abi.NoEscape", "internal/bytealg.MakeNoZero"], unfollowed := true, recurses := true, apart := false, narrowed := true }
def FnExactHartTextUptoSaid : Prop := fnExactHartTextUptoRow.holds Try.pinned (OpenSpec.upto fnExactHartTextSpec)

/-- 'laws.FnExactInsText', WHERE WHAT IT READS IS OF BULK AT MOST 1048576: true; the input reads as it did. -/
def fnExactInsTextUptoRow : OpenClaim := { program := "yteondgjjgdmldaa", sum := "dd1fc8b2aea5588a48d85d156f8b059a943d1b56f9045658c6efe28f2c53ac88", func := "loop.example/g00281/laws.FnExactInsText", spec := "fnExactInsText", inPlace := ["internal/abi.NoEscape", "internal/bytealg.MakeNoZero"], recurses := true, apart := false, narrowed := true }
def FnExactInsTextUptoSaid : Prop := fnExactInsTextUptoRow.holds Try.pinned (OpenSpec.upto fnExactInsTextSpec)

/-- 'laws.FnExactClocks', WHERE WHAT IT READS IS OF BULK AT MOST 1048576: true; the input reads as it did. -/
def fnExactClocksUptoRow : OpenClaim := { program := "yteondgjjgdmldaa", sum := "dd1fc8b2aea5588a48d85d156f8b059a943d1b56f9045658c6efe28f2c53ac88", func := "loop.example/g00281/laws.FnExactClocks", spec := "fnExactClocks", unfollowed := true, recurses := true, apart := false, narrowed := true }
def FnExactClocksUptoSaid : Prop := fnExactClocksUptoRow.holds Try.pinned (OpenSpec.upto fnExactClocksSpec)

/-- 'laws.FnExactRaces', WHERE WHAT IT READS IS OF BULK AT MOST 1048576: true; the input reads as it did. -/
def fnExactRacesUptoRow : OpenClaim := { program := "yteondgjjgdmldaa", sum := "dd1fc8b2aea5588a48d85d156f8b059a943d1b56f9045658c6efe28f2c53ac88", func := "loop.example/g00281/laws.FnExactRaces", spec := "fnExactRaces", unfollowed := true, recurses := true, apart := false, narrowed := true }
def FnExactRacesUptoSaid : Prop := fnExactRacesUptoRow.holds Try.pinned (OpenSpec.upto fnExactRacesSpec)

/-- 'laws.FnOneRegister', WHERE WHAT IT READS IS OF BULK AT MOST 1048576: true; the input reads as it did. -/
def fnOneRegisterUptoRow : OpenClaim := { program := "yteondgjjgdmldaa", sum := "dd1fc8b2aea5588a48d85d156f8b059a943d1b56f9045658c6efe28f2c53ac88", func := "loop.example/g00281/laws.FnOneRegister", spec := "fnOneRegister", unfollowed := true, recurses := true, apart := false, narrowed := true }
def FnOneRegisterUptoSaid : Prop := fnOneRegisterUptoRow.holds Try.pinned (OpenSpec.upto fnOneRegisterSpec)

/-- 'laws.FnWork', WHERE WHAT IT READS IS OF BULK AT MOST 1048576: true; the input reads as it did. -/
def fnWorkUptoRow : OpenClaim := { program := "yteondgjjgdmldaa", sum := "dd1fc8b2aea5588a48d85d156f8b059a943d1b56f9045658c6efe28f2c53ac88", func := "loop.example/g00281/laws.FnWork", spec := "fnWork", unfollowed := true, recurses := true, apart := false, narrowed := true }
def FnWorkUptoSaid : Prop := fnWorkUptoRow.holds Try.pinned (OpenSpec.upto fnWorkSpec)

/-- 'laws.FnStays', WHERE WHAT IT READS IS OF BULK AT MOST 1048576: true; the input reads as it did. -/
def fnStaysUptoRow : OpenClaim := { program := "yteondgjjgdmldaa", sum := "dd1fc8b2aea5588a48d85d156f8b059a943d1b56f9045658c6efe28f2c53ac88", func := "loop.example/g00281/laws.FnStays", spec := "fnStays", unfollowed := true, recurses := true, apart := false, narrowed := true }
def FnStaysUptoSaid : Prop := fnStaysUptoRow.holds Try.pinned (OpenSpec.upto fnStaysSpec)

end Rows
end Go.Proofs.Yteondgjjgdmldaa
