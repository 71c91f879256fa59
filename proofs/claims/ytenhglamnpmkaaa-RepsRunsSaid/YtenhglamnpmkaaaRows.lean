/-
  No cell of these rows narrows 'for every input' (looked for: loops, veiled, ifaces, maps, wideKeys, modest, calm, conditions, laid).
  DERIVED. THE GIVEN ROWS OF THIS SEAT. 12 by the template 'for every input the law returns true; each argument reads behind the call as it read before'; 0 by the template 'total and deterministic' (their statements: YtenhglamnpmkaaaTotals.lean).
  GIVEN WITH THE SEED: the statements are not yours to turn. If you find one false, say at which input.
  Laid BY PROGRAM, IN A SANDBOX (cutbox-rows.mjs): the forced cells as the released guide's own fill.sh prints them over the translation dac85e07fdb7bcf7… (all of the seat's roots in one cut). By AI agents, Wed Nov 11 2026. No macro, syntax, notation, axiom, sorry.
-/
import Derived.Test.YtenhglamnpmkaaaChecked
import GoSem.Claim
import GoSem.ClaimJoined
import GoSem.ClaimMapViews
import Derived.JoinedTies
import Derived.KernelRfl
namespace Go.Proofs.Ytenhglamnpmkaaa
/- THE CELL 'sum', in the pinned program and in every row, IS THE sha256 OF THE DUMP (.gsa) THAT YtenhglamnpmkaaaProg.lean LOADS. Nothing in Lean hashes anything: it is a label: what it is worth is what the hold of that sum in a sandbox is worth. -/
noncomputable def Try.pinned : Pinned := { name := "ytenhglamnpmkaaa", sum := "dac85e07fdb7bcf7dbba1f51b8e1407c0a92b9985c5b975fb97d312b2e272709", checked := Try.checked }
namespace Rows
def none {H : Type} : Left H := { results := [], args := [] }

/-- 'cheesepresslaw19.RepsMeans': WHATEVER THE INPUT: true; the input reads as it did. -/
def repsMeansSpec : ChangeSpec := { name := "repsMeans", fn := fun _ => fun
  | [d1, d2, d3, d4] => { results := [.lit (.bool true)], args := [d1, d2, d3, d4] }
  | _ => none }
def repsMeansRow : OpenClaim := { program := "ytenhglamnpmkaaa", sum := "dac85e07fdb7bcf7dbba1f51b8e1407c0a92b9985c5b975fb97d312b2e272709", func := "cheesepress/cheesepresslaw19.RepsMeans", spec := "repsMeans", plainKeys := false, apart := false }
def RepsMeansSaid : Prop := repsMeansRow.holds Try.pinned (OpenSpec.ofChange repsMeansSpec)

/-- ITS FALSE NEIGHBOUR: 'it returns false'. Refute it at one input. -/
def repsMeansWrong : ChangeSpec := { name := "repsMeans", fn := fun _ => fun
  | [d1, d2, d3, d4] => { results := [.lit (.bool false)], args := [d1, d2, d3, d4] }
  | _ => none }
def RepsMeansWrongFalsely : Prop := repsMeansRow.holds Try.pinned (OpenSpec.ofChange repsMeansWrong)

/-- 'cheesepresslaw19.RepsFirst': WHATEVER THE INPUT: true; the input reads as it did. -/
def repsFirstSpec : ChangeSpec := { name := "repsFirst", fn := fun _ => fun
  | [d1, d2, d3] => { results := [.lit (.bool true)], args := [d1, d2, d3] }
  | _ => none }
def repsFirstRow : OpenClaim := { program := "ytenhglamnpmkaaa", sum := "dac85e07fdb7bcf7dbba1f51b8e1407c0a92b9985c5b975fb97d312b2e272709", func := "cheesepress/cheesepresslaw19.RepsFirst", spec := "repsFirst", plainKeys := false, apart := false }
def RepsFirstSaid : Prop := repsFirstRow.holds Try.pinned (OpenSpec.ofChange repsFirstSpec)

/-- ITS FALSE NEIGHBOUR: 'it returns false'. Refute it at one input. -/
def repsFirstWrong : ChangeSpec := { name := "repsFirst", fn := fun _ => fun
  | [d1, d2, d3] => { results := [.lit (.bool false)], args := [d1, d2, d3] }
  | _ => none }
def RepsFirstWrongFalsely : Prop := repsFirstRow.holds Try.pinned (OpenSpec.ofChange repsFirstWrong)

/-- 'cheesepresslaw19.RepsKnown': WHATEVER THE INPUT: true; the input reads as it did. -/
def repsKnownSpec : ChangeSpec := { name := "repsKnown", fn := fun _ => fun
  | [] => { results := [.lit (.bool true)], args := [] }
  | _ => none }
def repsKnownRow : OpenClaim := { program := "ytenhglamnpmkaaa", sum := "dac85e07fdb7bcf7dbba1f51b8e1407c0a92b9985c5b975fb97d312b2e272709", func := "cheesepress/cheesepresslaw19.RepsKnown", spec := "repsKnown", plainKeys := false, apart := false }
def RepsKnownSaid : Prop := repsKnownRow.holds Try.pinned (OpenSpec.ofChange repsKnownSpec)

/-- ITS FALSE NEIGHBOUR: 'it returns false'. Refute it at one input. -/
def repsKnownWrong : ChangeSpec := { name := "repsKnown", fn := fun _ => fun
  | [] => { results := [.lit (.bool false)], args := [] }
  | _ => none }
def RepsKnownWrongFalsely : Prop := repsKnownRow.holds Try.pinned (OpenSpec.ofChange repsKnownWrong)

/-- 'cheesepresslaw19.RepsRuns': WHATEVER THE INPUT: true; the input reads as it did. -/
def repsRunsSpec : ChangeSpec := { name := "repsRuns", fn := fun _ => fun
  | [d1, d2, d3, d4] => { results := [.lit (.bool true)], args := [d1, d2, d3, d4] }
  | _ => none }
def repsRunsRow : OpenClaim := { program := "ytenhglamnpmkaaa", sum := "dac85e07fdb7bcf7dbba1f51b8e1407c0a92b9985c5b975fb97d312b2e272709", func := "cheesepress/cheesepresslaw19.RepsRuns", spec := "repsRuns", unfollowed := true, recurses := true, plainKeys := false, apart := false }
def RepsRunsSaid : Prop := repsRunsRow.holds Try.pinned (OpenSpec.ofChange repsRunsSpec)

/-- ITS FALSE NEIGHBOUR: 'it returns false'. Refute it at one input. -/
def repsRunsWrong : ChangeSpec := { name := "repsRuns", fn := fun _ => fun
  | [d1, d2, d3, d4] => { results := [.lit (.bool false)], args := [d1, d2, d3, d4] }
  | _ => none }
def RepsRunsWrongFalsely : Prop := repsRunsRow.holds Try.pinned (OpenSpec.ofChange repsRunsWrong)

/-- 'cheesepresslaw19.RepsBack': WHATEVER THE INPUT: true; the input reads as it did. -/
def repsBackSpec : ChangeSpec := { name := "repsBack", fn := fun _ => fun
  | [d1, d2, d3, d4, d5] => { results := [.lit (.bool true)], args := [d1, d2, d3, d4, d5] }
  | _ => none }
def repsBackRow : OpenClaim := { program := "ytenhglamnpmkaaa", sum := "dac85e07fdb7bcf7dbba1f51b8e1407c0a92b9985c5b975fb97d312b2e272709", func := "cheesepress/cheesepresslaw19.RepsBack", spec := "repsBack", unfollowed := true, recurses := true, plainKeys := false, apart := false }
def RepsBackSaid : Prop := repsBackRow.holds Try.pinned (OpenSpec.ofChange repsBackSpec)

/-- ITS FALSE NEIGHBOUR: 'it returns false'. Refute it at one input. -/
def repsBackWrong : ChangeSpec := { name := "repsBack", fn := fun _ => fun
  | [d1, d2, d3, d4, d5] => { results := [.lit (.bool false)], args := [d1, d2, d3, d4, d5] }
  | _ => none }
def RepsBackWrongFalsely : Prop := repsBackRow.holds Try.pinned (OpenSpec.ofChange repsBackWrong)

/-- 'cheesepresslaw19.RepsParts': WHATEVER THE INPUT: true; the input reads as it did. -/
def repsPartsSpec : ChangeSpec := { name := "repsParts", fn := fun _ => fun
  | [d1, d2, d3] => { results := [.lit (.bool true)], args := [d1, d2, d3] }
  | _ => none }
def repsPartsRow : OpenClaim := { program := "ytenhglamnpmkaaa", sum := "dac85e07fdb7bcf7dbba1f51b8e1407c0a92b9985c5b975fb97d312b2e272709", func := "cheesepress/cheesepresslaw19.RepsParts", spec := "repsParts", unfollowed := true, recurses := true, plainKeys := false, apart := false }
def RepsPartsSaid : Prop := repsPartsRow.holds Try.pinned (OpenSpec.ofChange repsPartsSpec)

/-- ITS FALSE NEIGHBOUR: 'it returns false'. Refute it at one input. -/
def repsPartsWrong : ChangeSpec := { name := "repsParts", fn := fun _ => fun
  | [d1, d2, d3] => { results := [.lit (.bool false)], args := [d1, d2, d3] }
  | _ => none }
def RepsPartsWrongFalsely : Prop := repsPartsRow.holds Try.pinned (OpenSpec.ofChange repsPartsWrong)

/-- 'cheesepresslaw22.WindowFinds': WHATEVER THE INPUT: true; the input reads as it did. -/
def windowFindsSpec : ChangeSpec := { name := "windowFinds", fn := fun _ => fun
  | [d] => { results := [.lit (.bool true)], args := [d] }
  | _ => none }
def windowFindsRow : OpenClaim := { program := "ytenhglamnpmkaaa", sum := "dac85e07fdb7bcf7dbba1f51b8e1407c0a92b9985c5b975fb97d312b2e272709", func := "cheesepress/cheesepresslaw22.WindowFinds", spec := "windowFinds", unfollowed := true, recurses := true, plainKeys := false, apart := false }
def WindowFindsSaid : Prop := windowFindsRow.holds Try.pinned (OpenSpec.ofChange windowFindsSpec)

/-- ITS FALSE NEIGHBOUR: 'it returns false'. Refute it at one input. -/
def windowFindsWrong : ChangeSpec := { name := "windowFinds", fn := fun _ => fun
  | [d] => { results := [.lit (.bool false)], args := [d] }
  | _ => none }
def WindowFindsWrongFalsely : Prop := windowFindsRow.holds Try.pinned (OpenSpec.ofChange windowFindsWrong)

/-- 'cheesepresslaw22.WindowCommon': WHATEVER THE INPUT: true; the input reads as it did. -/
def windowCommonSpec : ChangeSpec := { name := "windowCommon", fn := fun _ => fun
  | [d1, d2, d3, d4, d5] => { results := [.lit (.bool true)], args := [d1, d2, d3, d4, d5] }
  | _ => none }
def windowCommonRow : OpenClaim := { program := "ytenhglamnpmkaaa", sum := "dac85e07fdb7bcf7dbba1f51b8e1407c0a92b9985c5b975fb97d312b2e272709", func := "cheesepress/cheesepresslaw22.WindowCommon", spec := "windowCommon", unfollowed := true, recurses := true, plainKeys := false, apart := false }
def WindowCommonSaid : Prop := windowCommonRow.holds Try.pinned (OpenSpec.ofChange windowCommonSpec)

/-- ITS FALSE NEIGHBOUR: 'it returns false'. Refute it at one input. -/
def windowCommonWrong : ChangeSpec := { name := "windowCommon", fn := fun _ => fun
  | [d1, d2, d3, d4, d5] => { results := [.lit (.bool false)], args := [d1, d2, d3, d4, d5] }
  | _ => none }
def WindowCommonWrongFalsely : Prop := windowCommonRow.holds Try.pinned (OpenSpec.ofChange windowCommonWrong)

/-- 'cheesepresslaw22.WindowKnown': WHATEVER THE INPUT: true; the input reads as it did. -/
def windowKnownSpec : ChangeSpec := { name := "windowKnown", fn := fun _ => fun
  | [] => { results := [.lit (.bool true)], args := [] }
  | _ => none }
def windowKnownRow : OpenClaim := { program := "ytenhglamnpmkaaa", sum := "dac85e07fdb7bcf7dbba1f51b8e1407c0a92b9985c5b975fb97d312b2e272709", func := "cheesepress/cheesepresslaw22.WindowKnown", spec := "windowKnown", unfollowed := true, recurses := true, plainKeys := false, apart := false }
def WindowKnownSaid : Prop := windowKnownRow.holds Try.pinned (OpenSpec.ofChange windowKnownSpec)

/-- ITS FALSE NEIGHBOUR: 'it returns false'. Refute it at one input. -/
def windowKnownWrong : ChangeSpec := { name := "windowKnown", fn := fun _ => fun
  | [] => { results := [.lit (.bool false)], args := [] }
  | _ => none }
def WindowKnownWrongFalsely : Prop := windowKnownRow.holds Try.pinned (OpenSpec.ofChange windowKnownWrong)

/-- 'cheesepresslaw22.WindowAll': WHATEVER THE INPUT: true; the input reads as it did. -/
def windowAllSpec : ChangeSpec := { name := "windowAll", fn := fun _ => fun
  | [d1, d2, d3, d4] => { results := [.lit (.bool true)], args := [d1, d2, d3, d4] }
  | _ => none }
def windowAllRow : OpenClaim := { program := "ytenhglamnpmkaaa", sum := "dac85e07fdb7bcf7dbba1f51b8e1407c0a92b9985c5b975fb97d312b2e272709", func := "cheesepress/cheesepresslaw22.WindowAll", spec := "windowAll", unfollowed := true, recurses := true, plainKeys := false, apart := false }
def WindowAllSaid : Prop := windowAllRow.holds Try.pinned (OpenSpec.ofChange windowAllSpec)

/-- ITS FALSE NEIGHBOUR: 'it returns false'. Refute it at one input. -/
def windowAllWrong : ChangeSpec := { name := "windowAll", fn := fun _ => fun
  | [d1, d2, d3, d4] => { results := [.lit (.bool false)], args := [d1, d2, d3, d4] }
  | _ => none }
def WindowAllWrongFalsely : Prop := windowAllRow.holds Try.pinned (OpenSpec.ofChange windowAllWrong)

/-- 'cheesepresslaw22.WindowSteps': WHATEVER THE INPUT: true; the input reads as it did. -/
def windowStepsSpec : ChangeSpec := { name := "windowSteps", fn := fun _ => fun
  | [d1, d2, d3, d4] => { results := [.lit (.bool true)], args := [d1, d2, d3, d4] }
  | _ => none }
def windowStepsRow : OpenClaim := { program := "ytenhglamnpmkaaa", sum := "dac85e07fdb7bcf7dbba1f51b8e1407c0a92b9985c5b975fb97d312b2e272709", func := "cheesepress/cheesepresslaw22.WindowSteps", spec := "windowSteps", unfollowed := true, recurses := true, plainKeys := false, apart := false }
def WindowStepsSaid : Prop := windowStepsRow.holds Try.pinned (OpenSpec.ofChange windowStepsSpec)

/-- ITS FALSE NEIGHBOUR: 'it returns false'. Refute it at one input. -/
def windowStepsWrong : ChangeSpec := { name := "windowSteps", fn := fun _ => fun
  | [d1, d2, d3, d4] => { results := [.lit (.bool false)], args := [d1, d2, d3, d4] }
  | _ => none }
def WindowStepsWrongFalsely : Prop := windowStepsRow.holds Try.pinned (OpenSpec.ofChange windowStepsWrong)

/-- 'cheesepresslaw22.WindowMoves': WHATEVER THE INPUT: true; the input reads as it did. -/
def windowMovesSpec : ChangeSpec := { name := "windowMoves", fn := fun _ => fun
  | [d1, d2, d3, d4] => { results := [.lit (.bool true)], args := [d1, d2, d3, d4] }
  | _ => none }
def windowMovesRow : OpenClaim := { program := "ytenhglamnpmkaaa", sum := "dac85e07fdb7bcf7dbba1f51b8e1407c0a92b9985c5b975fb97d312b2e272709", func := "cheesepress/cheesepresslaw22.WindowMoves", spec := "windowMoves", unfollowed := true, recurses := true, plainKeys := false, apart := false }
def WindowMovesSaid : Prop := windowMovesRow.holds Try.pinned (OpenSpec.ofChange windowMovesSpec)

/-- ITS FALSE NEIGHBOUR: 'it returns false'. Refute it at one input. -/
def windowMovesWrong : ChangeSpec := { name := "windowMoves", fn := fun _ => fun
  | [d1, d2, d3, d4] => { results := [.lit (.bool false)], args := [d1, d2, d3, d4] }
  | _ => none }
def WindowMovesWrongFalsely : Prop := windowMovesRow.holds Try.pinned (OpenSpec.ofChange windowMovesWrong)

/- THE SECOND FORM. 'bulk': how many values and letters a reading holds, each counted each time it is reached (what is shared counts as often as it is met; a slice's spare places count too). A statement '..UptoSaid' is the law's where the arguments, and the package variables that the reading takes, are together of bulk at most 1048576: NARROWER than '..Said'. Prove '..Said' where nothing that the law and all that it calls make is longer than what came in: it says more and counts as full. Else prove '..UptoSaid'. A law counts once. -/
mutual
def uptoBulk {H : Type} : DataW H → Nat
  | .lit (.string bytes) => bytes.length + 1
  | .lit _ => 1
  | .nil => 1
  | .ptr d => uptoBulk d + 1
  | .slice elems spare => uptoBulkAll elems + uptoBulkAll spare + 1
  | .agg parts => uptoBulkAll parts + 1
  | .iface _ d => uptoBulk d + 1
  | .map entries => uptoBulkEntries entries + 1
  | .held _ => 1
def uptoBulkAll {H : Type} : List (DataW H) → Nat
  | [] => 0
  | d :: r => uptoBulk d + uptoBulkAll r
def uptoBulkEntries {H : Type} : List (Lit × DataW H) → Nat
  | [] => 0
  | x :: r => uptoBulkEntry x + uptoBulkEntries r
def uptoBulkEntry {H : Type} : Lit × DataW H → Nat
  | (.string bytes, d) => bytes.length + uptoBulk d + 1
  | (_, d) => uptoBulk d + 1
 end
def uptoSmall : (H : Type) → List (DataW H) → Bool := fun _ ds => decide (uptoBulkAll ds ≤ 1048576)
def OpenSpec.upto (s : _root_.Go.ChangeSpec) : _root_.Go.OpenSpec := { _root_.Go.OpenSpec.ofChange s with cond := some uptoSmall }

/-- 'cheesepresslaw19.RepsMeans', WHERE WHAT IT READS IS OF BULK AT MOST 1048576: true; the input reads as it did. -/
def repsMeansUptoRow : OpenClaim := { program := "ytenhglamnpmkaaa", sum := "dac85e07fdb7bcf7dbba1f51b8e1407c0a92b9985c5b975fb97d312b2e272709", func := "cheesepress/cheesepresslaw19.RepsMeans", spec := "repsMeans", plainKeys := false, apart := false, narrowed := true }
def RepsMeansUptoSaid : Prop := repsMeansUptoRow.holds Try.pinned (OpenSpec.upto repsMeansSpec)

/-- 'cheesepresslaw19.RepsFirst', WHERE WHAT IT READS IS OF BULK AT MOST 1048576: true; the input reads as it did. -/
def repsFirstUptoRow : OpenClaim := { program := "ytenhglamnpmkaaa", sum := "dac85e07fdb7bcf7dbba1f51b8e1407c0a92b9985c5b975fb97d312b2e272709", func := "cheesepress/cheesepresslaw19.RepsFirst", spec := "repsFirst", plainKeys := false, apart := false, narrowed := true }
def RepsFirstUptoSaid : Prop := repsFirstUptoRow.holds Try.pinned (OpenSpec.upto repsFirstSpec)

/-- 'cheesepresslaw19.RepsKnown', WHERE WHAT IT READS IS OF BULK AT MOST 1048576: true; the input reads as it did. -/
def repsKnownUptoRow : OpenClaim := { program := "ytenhglamnpmkaaa", sum := "dac85e07fdb7bcf7dbba1f51b8e1407c0a92b9985c5b975fb97d312b2e272709", func := "cheesepress/cheesepresslaw19.RepsKnown", spec := "repsKnown", plainKeys := false, apart := false, narrowed := true }
def RepsKnownUptoSaid : Prop := repsKnownUptoRow.holds Try.pinned (OpenSpec.upto repsKnownSpec)

/-- 'cheesepresslaw19.RepsRuns', WHERE WHAT IT READS IS OF BULK AT MOST 1048576: true; the input reads as it did. -/
def repsRunsUptoRow : OpenClaim := { program := "ytenhglamnpmkaaa", sum := "dac85e07fdb7bcf7dbba1f51b8e1407c0a92b9985c5b975fb97d312b2e272709", func := "cheesepress/cheesepresslaw19.RepsRuns", spec := "repsRuns", unfollowed := true, recurses := true, plainKeys := false, apart := false, narrowed := true }
def RepsRunsUptoSaid : Prop := repsRunsUptoRow.holds Try.pinned (OpenSpec.upto repsRunsSpec)

/-- 'cheesepresslaw19.RepsBack', WHERE WHAT IT READS IS OF BULK AT MOST 1048576: true; the input reads as it did. -/
def repsBackUptoRow : OpenClaim := { program := "ytenhglamnpmkaaa", sum := "dac85e07fdb7bcf7dbba1f51b8e1407c0a92b9985c5b975fb97d312b2e272709", func := "cheesepress/cheesepresslaw19.RepsBack", spec := "repsBack", unfollowed := true, recurses := true, plainKeys := false, apart := false, narrowed := true }
def RepsBackUptoSaid : Prop := repsBackUptoRow.holds Try.pinned (OpenSpec.upto repsBackSpec)

/-- 'cheesepresslaw19.RepsParts', WHERE WHAT IT READS IS OF BULK AT MOST 1048576: true; the input reads as it did. -/
def repsPartsUptoRow : OpenClaim := { program := "ytenhglamnpmkaaa", sum := "dac85e07fdb7bcf7dbba1f51b8e1407c0a92b9985c5b975fb97d312b2e272709", func := "cheesepress/cheesepresslaw19.RepsParts", spec := "repsParts", unfollowed := true, recurses := true, plainKeys := false, apart := false, narrowed := true }
def RepsPartsUptoSaid : Prop := repsPartsUptoRow.holds Try.pinned (OpenSpec.upto repsPartsSpec)

/-- 'cheesepresslaw22.WindowFinds', WHERE WHAT IT READS IS OF BULK AT MOST 1048576: true; the input reads as it did. -/
def windowFindsUptoRow : OpenClaim := { program := "ytenhglamnpmkaaa", sum := "dac85e07fdb7bcf7dbba1f51b8e1407c0a92b9985c5b975fb97d312b2e272709", func := "cheesepress/cheesepresslaw22.WindowFinds", spec := "windowFinds", unfollowed := true, recurses := true, plainKeys := false, apart := false, narrowed := true }
def WindowFindsUptoSaid : Prop := windowFindsUptoRow.holds Try.pinned (OpenSpec.upto windowFindsSpec)

/-- 'cheesepresslaw22.WindowCommon', WHERE WHAT IT READS IS OF BULK AT MOST 1048576: true; the input reads as it did. -/
def windowCommonUptoRow : OpenClaim := { program := "ytenhglamnpmkaaa", sum := "dac85e07fdb7bcf7dbba1f51b8e1407c0a92b9985c5b975fb97d312b2e272709", func := "cheesepress/cheesepresslaw22.WindowCommon", spec := "windowCommon", unfollowed := true, recurses := true, plainKeys := false, apart := false, narrowed := true }
def WindowCommonUptoSaid : Prop := windowCommonUptoRow.holds Try.pinned (OpenSpec.upto windowCommonSpec)

/-- 'cheesepresslaw22.WindowKnown', WHERE WHAT IT READS IS OF BULK AT MOST 1048576: true; the input reads as it did. -/
def windowKnownUptoRow : OpenClaim := { program := "ytenhglamnpmkaaa", sum := "dac85e07fdb7bcf7dbba1f51b8e1407c0a92b9985c5b975fb97d312b2e272709", func := "cheesepress/cheesepresslaw22.WindowKnown", spec := "windowKnown", unfollowed := true, recurses := true, plainKeys := false, apart := false, narrowed := true }
def WindowKnownUptoSaid : Prop := windowKnownUptoRow.holds Try.pinned (OpenSpec.upto windowKnownSpec)

/-- 'cheesepresslaw22.WindowAll', WHERE WHAT IT READS IS OF BULK AT MOST 1048576: true; the input reads as it did. -/
def windowAllUptoRow : OpenClaim := { program := "ytenhglamnpmkaaa", sum := "dac85e07fdb7bcf7dbba1f51b8e1407c0a92b9985c5b975fb97d312b2e272709", func := "cheesepress/cheesepresslaw22.WindowAll", spec := "windowAll", unfollowed := true, recurses := true, plainKeys := false, apart := false, narrowed := true }
def WindowAllUptoSaid : Prop := windowAllUptoRow.holds Try.pinned (OpenSpec.upto windowAllSpec)

/-- 'cheesepresslaw22.WindowSteps', WHERE WHAT IT READS IS OF BULK AT MOST 1048576: true; the input reads as it did. -/
def windowStepsUptoRow : OpenClaim := { program := "ytenhglamnpmkaaa", sum := "dac85e07fdb7bcf7dbba1f51b8e1407c0a92b9985c5b975fb97d312b2e272709", func := "cheesepress/cheesepresslaw22.WindowSteps", spec := "windowSteps", unfollowed := true, recurses := true, plainKeys := false, apart := false, narrowed := true }
def WindowStepsUptoSaid : Prop := windowStepsUptoRow.holds Try.pinned (OpenSpec.upto windowStepsSpec)

/-- 'cheesepresslaw22.WindowMoves', WHERE WHAT IT READS IS OF BULK AT MOST 1048576: true; the input reads as it did. -/
def windowMovesUptoRow : OpenClaim := { program := "ytenhglamnpmkaaa", sum := "dac85e07fdb7bcf7dbba1f51b8e1407c0a92b9985c5b975fb97d312b2e272709", func := "cheesepress/cheesepresslaw22.WindowMoves", spec := "windowMoves", unfollowed := true, recurses := true, plainKeys := false, apart := false, narrowed := true }
def WindowMovesUptoSaid : Prop := windowMovesUptoRow.holds Try.pinned (OpenSpec.upto windowMovesSpec)

end Rows
end Go.Proofs.Ytenhglamnpmkaaa
