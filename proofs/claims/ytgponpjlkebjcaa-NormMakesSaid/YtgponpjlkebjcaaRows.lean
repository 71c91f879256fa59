/-
  No cell of these rows narrows 'for every input' (looked for: loops, veiled, ifaces, maps, wideKeys, modest, calm, conditions, laid).
  DERIVED. THE GIVEN ROWS OF THIS SEAT. 11 by the template 'for every input the law returns true; each argument reads behind the call as it read before'; 0 by the template 'total and deterministic' (their statements: YtgponpjlkebjcaaTotals.lean).
  GIVEN WITH THE SEED: the statements are not yours to turn. If you find one false, say at which input.
  Laid BY PROGRAM, IN A SANDBOX (cutbox-rows.mjs): the forced cells as the released guide's own fill.sh prints them over the translation fbdc38e9c419868d… (all of the seat's roots in one cut). By AI agents, Wed Nov 11 2026. No macro, syntax, notation, axiom, sorry.
-/
import Derived.Test.YtgponpjlkebjcaaChecked
import GoSem.Claim
import GoSem.ClaimJoined
import GoSem.ClaimMapViews
import Derived.JoinedTies
import Derived.KernelRfl
namespace Go.Proofs.Ytgponpjlkebjcaa
/- THE CELL 'sum', in the pinned program and in every row, IS THE sha256 OF THE DUMP (.gsa) THAT YtgponpjlkebjcaaProg.lean LOADS. Nothing in Lean hashes anything: it is a label: what it is worth is what the hold of that sum in a sandbox is worth. -/
noncomputable def Try.pinned : Pinned := { name := "ytgponpjlkebjcaa", sum := "fbdc38e9c419868de334ba14cbff8de6b8d75df8f1f8c566a2786f79acce2633", checked := Try.checked }
namespace Rows
def none {H : Type} : Left H := { results := [], args := [] }

/-- 'cheesepresslaw06.CountsOf': WHATEVER THE INPUT: true; the input reads as it did. -/
def countsOfSpec : ChangeSpec := { name := "countsOf", fn := fun _ => fun
  | [d1, d2, d3] => { results := [.lit (.bool true)], args := [d1, d2, d3] }
  | _ => none }
def countsOfRow : OpenClaim := { program := "ytgponpjlkebjcaa", sum := "fbdc38e9c419868de334ba14cbff8de6b8d75df8f1f8c566a2786f79acce2633", func := "cheesepress/cheesepresslaw06.CountsOf", spec := "countsOf", unfollowed := true, recurses := true, apart := false }
def CountsOfSaid : Prop := countsOfRow.holds Try.pinned (OpenSpec.ofChange countsOfSpec)

/-- ITS FALSE NEIGHBOUR: 'it returns false'. Refute it at one input. -/
def countsOfWrong : ChangeSpec := { name := "countsOf", fn := fun _ => fun
  | [d1, d2, d3] => { results := [.lit (.bool false)], args := [d1, d2, d3] }
  | _ => none }
def CountsOfWrongFalsely : Prop := countsOfRow.holds Try.pinned (OpenSpec.ofChange countsOfWrong)

/-- 'cheesepresslaw06.CountsTells': WHATEVER THE INPUT: true; the input reads as it did. -/
def countsTellsSpec : ChangeSpec := { name := "countsTells", fn := fun _ => fun
  | [d1, d2] => { results := [.lit (.bool true)], args := [d1, d2] }
  | _ => none }
def countsTellsRow : OpenClaim := { program := "ytgponpjlkebjcaa", sum := "fbdc38e9c419868de334ba14cbff8de6b8d75df8f1f8c566a2786f79acce2633", func := "cheesepress/cheesepresslaw06.CountsTells", spec := "countsTells", unfollowed := true, recurses := true, apart := false }
def CountsTellsSaid : Prop := countsTellsRow.holds Try.pinned (OpenSpec.ofChange countsTellsSpec)

/-- ITS FALSE NEIGHBOUR: 'it returns false'. Refute it at one input. -/
def countsTellsWrong : ChangeSpec := { name := "countsTells", fn := fun _ => fun
  | [d1, d2] => { results := [.lit (.bool false)], args := [d1, d2] }
  | _ => none }
def CountsTellsWrongFalsely : Prop := countsTellsRow.holds Try.pinned (OpenSpec.ofChange countsTellsWrong)

/-- 'cheesepresslaw06.CountsKnown': WHATEVER THE INPUT: true; the input reads as it did. -/
def countsKnownSpec : ChangeSpec := { name := "countsKnown", fn := fun _ => fun
  | [] => { results := [.lit (.bool true)], args := [] }
  | _ => none }
def countsKnownRow : OpenClaim := { program := "ytgponpjlkebjcaa", sum := "fbdc38e9c419868de334ba14cbff8de6b8d75df8f1f8c566a2786f79acce2633", func := "cheesepress/cheesepresslaw06.CountsKnown", spec := "countsKnown", unfollowed := true, recurses := true, apart := false }
def CountsKnownSaid : Prop := countsKnownRow.holds Try.pinned (OpenSpec.ofChange countsKnownSpec)

/-- ITS FALSE NEIGHBOUR: 'it returns false'. Refute it at one input. -/
def countsKnownWrong : ChangeSpec := { name := "countsKnown", fn := fun _ => fun
  | [] => { results := [.lit (.bool false)], args := [] }
  | _ => none }
def CountsKnownWrongFalsely : Prop := countsKnownRow.holds Try.pinned (OpenSpec.ofChange countsKnownWrong)

/-- 'cheesepresslaw06.CountsHalves': WHATEVER THE INPUT: true; the input reads as it did. -/
def countsHalvesSpec : ChangeSpec := { name := "countsHalves", fn := fun _ => fun
  | [d] => { results := [.lit (.bool true)], args := [d] }
  | _ => none }
def countsHalvesRow : OpenClaim := { program := "ytgponpjlkebjcaa", sum := "fbdc38e9c419868de334ba14cbff8de6b8d75df8f1f8c566a2786f79acce2633", func := "cheesepress/cheesepresslaw06.CountsHalves", spec := "countsHalves", unfollowed := true, recurses := true, apart := false }
def CountsHalvesSaid : Prop := countsHalvesRow.holds Try.pinned (OpenSpec.ofChange countsHalvesSpec)

/-- ITS FALSE NEIGHBOUR: 'it returns false'. Refute it at one input. -/
def countsHalvesWrong : ChangeSpec := { name := "countsHalves", fn := fun _ => fun
  | [d] => { results := [.lit (.bool false)], args := [d] }
  | _ => none }
def CountsHalvesWrongFalsely : Prop := countsHalvesRow.holds Try.pinned (OpenSpec.ofChange countsHalvesWrong)

/-- 'cheesepresslaw06.CountsAdds': WHATEVER THE INPUT: true; the input reads as it did. -/
def countsAddsSpec : ChangeSpec := { name := "countsAdds", fn := fun _ => fun
  | [d1, d2] => { results := [.lit (.bool true)], args := [d1, d2] }
  | _ => none }
def countsAddsRow : OpenClaim := { program := "ytgponpjlkebjcaa", sum := "fbdc38e9c419868de334ba14cbff8de6b8d75df8f1f8c566a2786f79acce2633", func := "cheesepress/cheesepresslaw06.CountsAdds", spec := "countsAdds", unfollowed := true, recurses := true, apart := false }
def CountsAddsSaid : Prop := countsAddsRow.holds Try.pinned (OpenSpec.ofChange countsAddsSpec)

/-- ITS FALSE NEIGHBOUR: 'it returns false'. Refute it at one input. -/
def countsAddsWrong : ChangeSpec := { name := "countsAdds", fn := fun _ => fun
  | [d1, d2] => { results := [.lit (.bool false)], args := [d1, d2] }
  | _ => none }
def CountsAddsWrongFalsely : Prop := countsAddsRow.holds Try.pinned (OpenSpec.ofChange countsAddsWrong)

/-- 'cheesepresslaw07.NormMakes': WHATEVER THE INPUT: true; the input reads as it did. -/
def normMakesSpec : ChangeSpec := { name := "normMakes", fn := fun _ => fun
  | [d1, d2, d3] => { results := [.lit (.bool true)], args := [d1, d2, d3] }
  | _ => none }
def normMakesRow : OpenClaim := { program := "ytgponpjlkebjcaa", sum := "fbdc38e9c419868de334ba14cbff8de6b8d75df8f1f8c566a2786f79acce2633", func := "cheesepress/cheesepresslaw07.NormMakes", spec := "normMakes", unfollowed := true, recurses := true, apart := false }
def NormMakesSaid : Prop := normMakesRow.holds Try.pinned (OpenSpec.ofChange normMakesSpec)

/-- ITS FALSE NEIGHBOUR: 'it returns false'. Refute it at one input. -/
def normMakesWrong : ChangeSpec := { name := "normMakes", fn := fun _ => fun
  | [d1, d2, d3] => { results := [.lit (.bool false)], args := [d1, d2, d3] }
  | _ => none }
def NormMakesWrongFalsely : Prop := normMakesRow.holds Try.pinned (OpenSpec.ofChange normMakesWrong)

/-- 'cheesepresslaw07.NormScales': WHATEVER THE INPUT: true; the input reads as it did. -/
def normScalesSpec : ChangeSpec := { name := "normScales", fn := fun _ => fun
  | [d1, d2, d3] => { results := [.lit (.bool true)], args := [d1, d2, d3] }
  | _ => none }
def normScalesRow : OpenClaim := { program := "ytgponpjlkebjcaa", sum := "fbdc38e9c419868de334ba14cbff8de6b8d75df8f1f8c566a2786f79acce2633", func := "cheesepress/cheesepresslaw07.NormScales", spec := "normScales", unfollowed := true, recurses := true, apart := false }
def NormScalesSaid : Prop := normScalesRow.holds Try.pinned (OpenSpec.ofChange normScalesSpec)

/-- ITS FALSE NEIGHBOUR: 'it returns false'. Refute it at one input. -/
def normScalesWrong : ChangeSpec := { name := "normScales", fn := fun _ => fun
  | [d1, d2, d3] => { results := [.lit (.bool false)], args := [d1, d2, d3] }
  | _ => none }
def NormScalesWrongFalsely : Prop := normScalesRow.holds Try.pinned (OpenSpec.ofChange normScalesWrong)

/-- 'cheesepresslaw07.NormShares': WHATEVER THE INPUT: true; the input reads as it did. -/
def normSharesSpec : ChangeSpec := { name := "normShares", fn := fun _ => fun
  | [d1, d2] => { results := [.lit (.bool true)], args := [d1, d2] }
  | _ => none }
def normSharesRow : OpenClaim := { program := "ytgponpjlkebjcaa", sum := "fbdc38e9c419868de334ba14cbff8de6b8d75df8f1f8c566a2786f79acce2633", func := "cheesepress/cheesepresslaw07.NormShares", spec := "normShares", unfollowed := true, recurses := true, apart := false }
def NormSharesSaid : Prop := normSharesRow.holds Try.pinned (OpenSpec.ofChange normSharesSpec)

/-- ITS FALSE NEIGHBOUR: 'it returns false'. Refute it at one input. -/
def normSharesWrong : ChangeSpec := { name := "normShares", fn := fun _ => fun
  | [d1, d2] => { results := [.lit (.bool false)], args := [d1, d2] }
  | _ => none }
def NormSharesWrongFalsely : Prop := normSharesRow.holds Try.pinned (OpenSpec.ofChange normSharesWrong)

/-- 'cheesepresslaw07.NormKnown': WHATEVER THE INPUT: true; the input reads as it did. -/
def normKnownSpec : ChangeSpec := { name := "normKnown", fn := fun _ => fun
  | [] => { results := [.lit (.bool true)], args := [] }
  | _ => none }
def normKnownRow : OpenClaim := { program := "ytgponpjlkebjcaa", sum := "fbdc38e9c419868de334ba14cbff8de6b8d75df8f1f8c566a2786f79acce2633", func := "cheesepress/cheesepresslaw07.NormKnown", spec := "normKnown", unfollowed := true, recurses := true, apart := false }
def NormKnownSaid : Prop := normKnownRow.holds Try.pinned (OpenSpec.ofChange normKnownSpec)

/-- ITS FALSE NEIGHBOUR: 'it returns false'. Refute it at one input. -/
def normKnownWrong : ChangeSpec := { name := "normKnown", fn := fun _ => fun
  | [] => { results := [.lit (.bool false)], args := [] }
  | _ => none }
def NormKnownWrongFalsely : Prop := normKnownRow.holds Try.pinned (OpenSpec.ofChange normKnownWrong)

/-- 'cheesepresslaw07.NormSums': WHATEVER THE INPUT: true; the input reads as it did. -/
def normSumsSpec : ChangeSpec := { name := "normSums", fn := fun _ => fun
  | [d] => { results := [.lit (.bool true)], args := [d] }
  | _ => none }
def normSumsRow : OpenClaim := { program := "ytgponpjlkebjcaa", sum := "fbdc38e9c419868de334ba14cbff8de6b8d75df8f1f8c566a2786f79acce2633", func := "cheesepress/cheesepresslaw07.NormSums", spec := "normSums", unfollowed := true, recurses := true, apart := false }
def NormSumsSaid : Prop := normSumsRow.holds Try.pinned (OpenSpec.ofChange normSumsSpec)

/-- ITS FALSE NEIGHBOUR: 'it returns false'. Refute it at one input. -/
def normSumsWrong : ChangeSpec := { name := "normSums", fn := fun _ => fun
  | [d] => { results := [.lit (.bool false)], args := [d] }
  | _ => none }
def NormSumsWrongFalsely : Prop := normSumsRow.holds Try.pinned (OpenSpec.ofChange normSumsWrong)

/-- 'cheesepresslaw07.NormSizes': WHATEVER THE INPUT: true; the input reads as it did. -/
def normSizesSpec : ChangeSpec := { name := "normSizes", fn := fun _ => fun
  | [d1, d2] => { results := [.lit (.bool true)], args := [d1, d2] }
  | _ => none }
def normSizesRow : OpenClaim := { program := "ytgponpjlkebjcaa", sum := "fbdc38e9c419868de334ba14cbff8de6b8d75df8f1f8c566a2786f79acce2633", func := "cheesepress/cheesepresslaw07.NormSizes", spec := "normSizes", unfollowed := true, recurses := true, apart := false }
def NormSizesSaid : Prop := normSizesRow.holds Try.pinned (OpenSpec.ofChange normSizesSpec)

/-- ITS FALSE NEIGHBOUR: 'it returns false'. Refute it at one input. -/
def normSizesWrong : ChangeSpec := { name := "normSizes", fn := fun _ => fun
  | [d1, d2] => { results := [.lit (.bool false)], args := [d1, d2] }
  | _ => none }
def NormSizesWrongFalsely : Prop := normSizesRow.holds Try.pinned (OpenSpec.ofChange normSizesWrong)

/- THE SECOND FORM. 'bulk': how many values and letters a reading holds, each counted each time it is reached (what is shared counts as often as it is met; a slice's spare places count too). A statement '..UptoSaid' is the law's where the arguments, and the package variables that the reading takes, are together of bulk at most 1048576: NARROWER than '..Said'. Prove '..Said' where nothing that the law and all that it calls make is longer than what came in: it says more and counts as full. Else prove '..UptoSaid'. A law counts once. -/
mutual
def uptoBulk {H : Type} : DataW H → Nat
  | .lit (.string bytes) => bytes.length + 1
  | .lit _ => 1
  | .nil => 1
  | .ptr d => uptoBulk d + 1
  | .slice elems spare => uptoBulkAll elems + uptoBulkAll spare + 1
  | .agg parts => uptoBulkAll parts + 1
  | .iface _ d => uptoBulk d + 1
  | .map entries => uptoBulkEntries entries + 1
  | .held _ => 1
def uptoBulkAll {H : Type} : List (DataW H) → Nat
  | [] => 0
  | d :: r => uptoBulk d + uptoBulkAll r
def uptoBulkEntries {H : Type} : List (Lit × DataW H) → Nat
  | [] => 0
  | x :: r => uptoBulkEntry x + uptoBulkEntries r
def uptoBulkEntry {H : Type} : Lit × DataW H → Nat
  | (.string bytes, d) => bytes.length + uptoBulk d + 1
  | (_, d) => uptoBulk d + 1
 end
def uptoSmall : (H : Type) → List (DataW H) → Bool := fun _ ds => decide (uptoBulkAll ds ≤ 1048576)
def OpenSpec.upto (s : _root_.Go.ChangeSpec) : _root_.Go.OpenSpec := { _root_.Go.OpenSpec.ofChange s with cond := some uptoSmall }

/-- 'cheesepresslaw06.CountsOf', WHERE WHAT IT READS IS OF BULK AT MOST 1048576: true; the input reads as it did. -/
def countsOfUptoRow : OpenClaim := { program := "ytgponpjlkebjcaa", sum := "fbdc38e9c419868de334ba14cbff8de6b8d75df8f1f8c566a2786f79acce2633", func := "cheesepress/cheesepresslaw06.CountsOf", spec := "countsOf", unfollowed := true, recurses := true, apart := false, narrowed := true }
def CountsOfUptoSaid : Prop := countsOfUptoRow.holds Try.pinned (OpenSpec.upto countsOfSpec)

/-- 'cheesepresslaw06.CountsTells', WHERE WHAT IT READS IS OF BULK AT MOST 1048576: true; the input reads as it did. -/
def countsTellsUptoRow : OpenClaim := { program := "ytgponpjlkebjcaa", sum := "fbdc38e9c419868de334ba14cbff8de6b8d75df8f1f8c566a2786f79acce2633", func := "cheesepress/cheesepresslaw06.CountsTells", spec := "countsTells", unfollowed := true, recurses := true, apart := false, narrowed := true }
def CountsTellsUptoSaid : Prop := countsTellsUptoRow.holds Try.pinned (OpenSpec.upto countsTellsSpec)

/-- 'cheesepresslaw06.CountsKnown', WHERE WHAT IT READS IS OF BULK AT MOST 1048576: true; the input reads as it did. -/
def countsKnownUptoRow : OpenClaim := { program := "ytgponpjlkebjcaa", sum := "fbdc38e9c419868de334ba14cbff8de6b8d75df8f1f8c566a2786f79acce2633", func := "cheesepress/cheesepresslaw06.CountsKnown", spec := "countsKnown", unfollowed := true, recurses := true, apart := false, narrowed := true }
def CountsKnownUptoSaid : Prop := countsKnownUptoRow.holds Try.pinned (OpenSpec.upto countsKnownSpec)

/-- 'cheesepresslaw06.CountsHalves', WHERE WHAT IT READS IS OF BULK AT MOST 1048576: true; the input reads as it did. -/
def countsHalvesUptoRow : OpenClaim := { program := "ytgponpjlkebjcaa", sum := "fbdc38e9c419868de334ba14cbff8de6b8d75df8f1f8c566a2786f79acce2633", func := "cheesepress/cheesepresslaw06.CountsHalves", spec := "countsHalves", unfollowed := true, recurses := true, apart := false, narrowed := true }
def CountsHalvesUptoSaid : Prop := countsHalvesUptoRow.holds Try.pinned (OpenSpec.upto countsHalvesSpec)

/-- 'cheesepresslaw06.CountsAdds', WHERE WHAT IT READS IS OF BULK AT MOST 1048576: true; the input reads as it did. -/
def countsAddsUptoRow : OpenClaim := { program := "ytgponpjlkebjcaa", sum := "fbdc38e9c419868de334ba14cbff8de6b8d75df8f1f8c566a2786f79acce2633", func := "cheesepress/cheesepresslaw06.CountsAdds", spec := "countsAdds", unfollowed := true, recurses := true, apart := false, narrowed := true }
def CountsAddsUptoSaid : Prop := countsAddsUptoRow.holds Try.pinned (OpenSpec.upto countsAddsSpec)

/-- 'cheesepresslaw07.NormMakes', WHERE WHAT IT READS IS OF BULK AT MOST 1048576: true; the input reads as it did. -/
def normMakesUptoRow : OpenClaim := { program := "ytgponpjlkebjcaa", sum := "fbdc38e9c419868de334ba14cbff8de6b8d75df8f1f8c566a2786f79acce2633", func := "cheesepress/cheesepresslaw07.NormMakes", spec := "normMakes", unfollowed := true, recurses := true, apart := false, narrowed := true }
def NormMakesUptoSaid : Prop := normMakesUptoRow.holds Try.pinned (OpenSpec.upto normMakesSpec)

/-- 'cheesepresslaw07.NormScales', WHERE WHAT IT READS IS OF BULK AT MOST 1048576: true; the input reads as it did. -/
def normScalesUptoRow : OpenClaim := { program := "ytgponpjlkebjcaa", sum := "fbdc38e9c419868de334ba14cbff8de6b8d75df8f1f8c566a2786f79acce2633", func := "cheesepress/cheesepresslaw07.NormScales", spec := "normScales", unfollowed := true, recurses := true, apart := false, narrowed := true }
def NormScalesUptoSaid : Prop := normScalesUptoRow.holds Try.pinned (OpenSpec.upto normScalesSpec)

/-- 'cheesepresslaw07.NormShares', WHERE WHAT IT READS IS OF BULK AT MOST 1048576: true; the input reads as it did. -/
def normSharesUptoRow : OpenClaim := { program := "ytgponpjlkebjcaa", sum := "fbdc38e9c419868de334ba14cbff8de6b8d75df8f1f8c566a2786f79acce2633", func := "cheesepress/cheesepresslaw07.NormShares", spec := "normShares", unfollowed := true, recurses := true, apart := false, narrowed := true }
def NormSharesUptoSaid : Prop := normSharesUptoRow.holds Try.pinned (OpenSpec.upto normSharesSpec)

/-- 'cheesepresslaw07.NormKnown', WHERE WHAT IT READS IS OF BULK AT MOST 1048576: true; the input reads as it did. -/
def normKnownUptoRow : OpenClaim := { program := "ytgponpjlkebjcaa", sum := "fbdc38e9c419868de334ba14cbff8de6b8d75df8f1f8c566a2786f79acce2633", func := "cheesepress/cheesepresslaw07.NormKnown", spec := "normKnown", unfollowed := true, recurses := true, apart := false, narrowed := true }
def NormKnownUptoSaid : Prop := normKnownUptoRow.holds Try.pinned (OpenSpec.upto normKnownSpec)

/-- 'cheesepresslaw07.NormSums', WHERE WHAT IT READS IS OF BULK AT MOST 1048576: true; the input reads as it did. -/
def normSumsUptoRow : OpenClaim := { program := "ytgponpjlkebjcaa", sum := "fbdc38e9c419868de334ba14cbff8de6b8d75df8f1f8c566a2786f79acce2633", func := "cheesepress/cheesepresslaw07.NormSums", spec := "normSums", unfollowed := true, recurses := true, apart := false, narrowed := true }
def NormSumsUptoSaid : Prop := normSumsUptoRow.holds Try.pinned (OpenSpec.upto normSumsSpec)

/-- 'cheesepresslaw07.NormSizes', WHERE WHAT IT READS IS OF BULK AT MOST 1048576: true; the input reads as it did. -/
def normSizesUptoRow : OpenClaim := { program := "ytgponpjlkebjcaa", sum := "fbdc38e9c419868de334ba14cbff8de6b8d75df8f1f8c566a2786f79acce2633", func := "cheesepress/cheesepresslaw07.NormSizes", spec := "normSizes", unfollowed := true, recurses := true, apart := false, narrowed := true }
def NormSizesUptoSaid : Prop := normSizesUptoRow.holds Try.pinned (OpenSpec.upto normSizesSpec)

end Rows
end Go.Proofs.Ytgponpjlkebjcaa
