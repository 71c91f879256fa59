/-
  No cell of these rows narrows 'for every input' (looked for: loops, veiled, ifaces, maps, wideKeys, modest, calm, conditions, laid).
  DERIVED. THE GIVEN ROWS OF THIS SEAT. 5 by the template 'for every input the law returns true; each argument reads behind the call as it read before'; 0 by the template 'total and deterministic' (their statements: YtmfgkimbehkdeaaTotals.lean).
  GIVEN WITH THE SEED: the statements are not yours to turn. If you find one false, say at which input.
  Laid BY PROGRAM, IN A SANDBOX (cutbox-rows.mjs): the forced cells as the released guide's own fill.sh prints them over the translation f8532c2f8930a205… (all of the seat's roots in one cut). By AI agents, Wed Nov 11 2026. No macro, syntax, notation, axiom, sorry.
-/
import Derived.Test.YtmfgkimbehkdeaaChecked
import GoSem.Claim
import GoSem.ClaimJoined
import GoSem.ClaimMapViews
import Derived.JoinedTies
import Derived.KernelRfl
namespace Go.Proofs.Ytmfgkimbehkdeaa
/- THE CELL 'sum', in the pinned program and in every row, IS THE sha256 OF THE DUMP (.gsa) THAT YtmfgkimbehkdeaaProg.lean LOADS. Nothing in Lean hashes anything: it is a label: what it is worth is what the hold of that sum in a sandbox is worth. -/
noncomputable def Try.pinned : Pinned := { name := "ytmfgkimbehkdeaa", sum := "f8532c2f8930a205f40a15a542999bb278681491ac078725218efd58c0996654", checked := Try.checked }
namespace Rows
def none {H : Type} : Left H := { results := [], args := [] }

/-- 'cheesepresslaw13.LengthMakes': WHATEVER THE INPUT: true; the input reads as it did. -/
def lengthMakesSpec : ChangeSpec := { name := "lengthMakes", fn := fun _ => fun
  | [d] => { results := [.lit (.bool true)], args := [d] }
  | _ => none }
def lengthMakesRow : OpenClaim := { program := "ytmfgkimbehkdeaa", sum := "f8532c2f8930a205f40a15a542999bb278681491ac078725218efd58c0996654", func := "cheesepress/cheesepresslaw13.LengthMakes", spec := "lengthMakes", unfollowed := true, recurses := true, apart := false }
def LengthMakesSaid : Prop := lengthMakesRow.holds Try.pinned (OpenSpec.ofChange lengthMakesSpec)

/-- ITS FALSE NEIGHBOUR: 'it returns false'. Refute it at one input. -/
def lengthMakesWrong : ChangeSpec := { name := "lengthMakes", fn := fun _ => fun
  | [d] => { results := [.lit (.bool false)], args := [d] }
  | _ => none }
def LengthMakesWrongFalsely : Prop := lengthMakesRow.holds Try.pinned (OpenSpec.ofChange lengthMakesWrong)

/-- 'cheesepresslaw13.LengthAsks': WHATEVER THE INPUT: true; the input reads as it did. -/
def lengthAsksSpec : ChangeSpec := { name := "lengthAsks", fn := fun _ => fun
  | [d1, d2] => { results := [.lit (.bool true)], args := [d1, d2] }
  | _ => none }
def lengthAsksRow : OpenClaim := { program := "ytmfgkimbehkdeaa", sum := "f8532c2f8930a205f40a15a542999bb278681491ac078725218efd58c0996654", func := "cheesepress/cheesepresslaw13.LengthAsks", spec := "lengthAsks", unfollowed := true, recurses := true, apart := false }
def LengthAsksSaid : Prop := lengthAsksRow.holds Try.pinned (OpenSpec.ofChange lengthAsksSpec)

/-- ITS FALSE NEIGHBOUR: 'it returns false'. Refute it at one input. -/
def lengthAsksWrong : ChangeSpec := { name := "lengthAsks", fn := fun _ => fun
  | [d1, d2] => { results := [.lit (.bool false)], args := [d1, d2] }
  | _ => none }
def LengthAsksWrongFalsely : Prop := lengthAsksRow.holds Try.pinned (OpenSpec.ofChange lengthAsksWrong)

/-- 'cheesepresslaw13.LengthKnown': WHATEVER THE INPUT: true; the input reads as it did. -/
def lengthKnownSpec : ChangeSpec := { name := "lengthKnown", fn := fun _ => fun
  | [] => { results := [.lit (.bool true)], args := [] }
  | _ => none }
def lengthKnownRow : OpenClaim := { program := "ytmfgkimbehkdeaa", sum := "f8532c2f8930a205f40a15a542999bb278681491ac078725218efd58c0996654", func := "cheesepress/cheesepresslaw13.LengthKnown", spec := "lengthKnown", unfollowed := true, recurses := true, apart := false }
def LengthKnownSaid : Prop := lengthKnownRow.holds Try.pinned (OpenSpec.ofChange lengthKnownSpec)

/-- ITS FALSE NEIGHBOUR: 'it returns false'. Refute it at one input. -/
def lengthKnownWrong : ChangeSpec := { name := "lengthKnown", fn := fun _ => fun
  | [] => { results := [.lit (.bool false)], args := [] }
  | _ => none }
def LengthKnownWrongFalsely : Prop := lengthKnownRow.holds Try.pinned (OpenSpec.ofChange lengthKnownWrong)

/-- 'cheesepresslaw13.LengthWhole': WHATEVER THE INPUT: true; the input reads as it did. -/
def lengthWholeSpec : ChangeSpec := { name := "lengthWhole", fn := fun _ => fun
  | [d] => { results := [.lit (.bool true)], args := [d] }
  | _ => none }
def lengthWholeRow : OpenClaim := { program := "ytmfgkimbehkdeaa", sum := "f8532c2f8930a205f40a15a542999bb278681491ac078725218efd58c0996654", func := "cheesepress/cheesepresslaw13.LengthWhole", spec := "lengthWhole", unfollowed := true, recurses := true, apart := false }
def LengthWholeSaid : Prop := lengthWholeRow.holds Try.pinned (OpenSpec.ofChange lengthWholeSpec)

/-- ITS FALSE NEIGHBOUR: 'it returns false'. Refute it at one input. -/
def lengthWholeWrong : ChangeSpec := { name := "lengthWhole", fn := fun _ => fun
  | [d] => { results := [.lit (.bool false)], args := [d] }
  | _ => none }
def LengthWholeWrongFalsely : Prop := lengthWholeRow.holds Try.pinned (OpenSpec.ofChange lengthWholeWrong)

/-- 'cheesepresslaw13.LengthLeast': WHATEVER THE INPUT: true; the input reads as it did. -/
def lengthLeastSpec : ChangeSpec := { name := "lengthLeast", fn := fun _ => fun
  | [d1, d2, d3, d4] => { results := [.lit (.bool true)], args := [d1, d2, d3, d4] }
  | _ => none }
def lengthLeastRow : OpenClaim := { program := "ytmfgkimbehkdeaa", sum := "f8532c2f8930a205f40a15a542999bb278681491ac078725218efd58c0996654", func := "cheesepress/cheesepresslaw13.LengthLeast", spec := "lengthLeast", unfollowed := true, recurses := true, apart := false }
def LengthLeastSaid : Prop := lengthLeastRow.holds Try.pinned (OpenSpec.ofChange lengthLeastSpec)

/-- ITS FALSE NEIGHBOUR: 'it returns false'. Refute it at one input. -/
def lengthLeastWrong : ChangeSpec := { name := "lengthLeast", fn := fun _ => fun
  | [d1, d2, d3, d4] => { results := [.lit (.bool false)], args := [d1, d2, d3, d4] }
  | _ => none }
def LengthLeastWrongFalsely : Prop := lengthLeastRow.holds Try.pinned (OpenSpec.ofChange lengthLeastWrong)

/- THE SECOND FORM. 'bulk': how many values and letters a reading holds, each counted each time it is reached (what is shared counts as often as it is met; a slice's spare places count too). A statement '..UptoSaid' is the law's where the arguments, and the package variables that the reading takes, are together of bulk at most 1048576: NARROWER than '..Said'. Prove '..Said' where nothing that the law and all that it calls make is longer than what came in: it says more and counts as full. Else prove '..UptoSaid'. A law counts once. -/
mutual
def uptoBulk {H : Type} : DataW H → Nat
  | .lit (.string bytes) => bytes.length + 1
  | .lit _ => 1
  | .nil => 1
  | .ptr d => uptoBulk d + 1
  | .slice elems spare => uptoBulkAll elems + uptoBulkAll spare + 1
  | .agg parts => uptoBulkAll parts + 1
  | .iface _ d => uptoBulk d + 1
  | .map entries => uptoBulkEntries entries + 1
  | .held _ => 1
def uptoBulkAll {H : Type} : List (DataW H) → Nat
  | [] => 0
  | d :: r => uptoBulk d + uptoBulkAll r
def uptoBulkEntries {H : Type} : List (Lit × DataW H) → Nat
  | [] => 0
  | x :: r => uptoBulkEntry x + uptoBulkEntries r
def uptoBulkEntry {H : Type} : Lit × DataW H → Nat
  | (.string bytes, d) => bytes.length + uptoBulk d + 1
  | (_, d) => uptoBulk d + 1
 end
def uptoSmall : (H : Type) → List (DataW H) → Bool := fun _ ds => decide (uptoBulkAll ds ≤ 1048576)
def OpenSpec.upto (s : _root_.Go.ChangeSpec) : _root_.Go.OpenSpec := { _root_.Go.OpenSpec.ofChange s with cond := some uptoSmall }

/-- 'cheesepresslaw13.LengthMakes', WHERE WHAT IT READS IS OF BULK AT MOST 1048576: true; the input reads as it did. -/
def lengthMakesUptoRow : OpenClaim := { program := "ytmfgkimbehkdeaa", sum := "f8532c2f8930a205f40a15a542999bb278681491ac078725218efd58c0996654", func := "cheesepress/cheesepresslaw13.LengthMakes", spec := "lengthMakes", unfollowed := true, recurses := true, apart := false, narrowed := true }
def LengthMakesUptoSaid : Prop := lengthMakesUptoRow.holds Try.pinned (OpenSpec.upto lengthMakesSpec)

/-- 'cheesepresslaw13.LengthAsks', WHERE WHAT IT READS IS OF BULK AT MOST 1048576: true; the input reads as it did. -/
def lengthAsksUptoRow : OpenClaim := { program := "ytmfgkimbehkdeaa", sum := "f8532c2f8930a205f40a15a542999bb278681491ac078725218efd58c0996654", func := "cheesepress/cheesepresslaw13.LengthAsks", spec := "lengthAsks", unfollowed := true, recurses := true, apart := false, narrowed := true }
def LengthAsksUptoSaid : Prop := lengthAsksUptoRow.holds Try.pinned (OpenSpec.upto lengthAsksSpec)

/-- 'cheesepresslaw13.LengthKnown', WHERE WHAT IT READS IS OF BULK AT MOST 1048576: true; the input reads as it did. -/
def lengthKnownUptoRow : OpenClaim := { program := "ytmfgkimbehkdeaa", sum := "f8532c2f8930a205f40a15a542999bb278681491ac078725218efd58c0996654", func := "cheesepress/cheesepresslaw13.LengthKnown", spec := "lengthKnown", unfollowed := true, recurses := true, apart := false, narrowed := true }
def LengthKnownUptoSaid : Prop := lengthKnownUptoRow.holds Try.pinned (OpenSpec.upto lengthKnownSpec)

/-- 'cheesepresslaw13.LengthWhole', WHERE WHAT IT READS IS OF BULK AT MOST 1048576: true; the input reads as it did. -/
def lengthWholeUptoRow : OpenClaim := { program := "ytmfgkimbehkdeaa", sum := "f8532c2f8930a205f40a15a542999bb278681491ac078725218efd58c0996654", func := "cheesepress/cheesepresslaw13.LengthWhole", spec := "lengthWhole", unfollowed := true, recurses := true, apart := false, narrowed := true }
def LengthWholeUptoSaid : Prop := lengthWholeUptoRow.holds Try.pinned (OpenSpec.upto lengthWholeSpec)

/-- 'cheesepresslaw13.LengthLeast', WHERE WHAT IT READS IS OF BULK AT MOST 1048576: true; the input reads as it did. -/
def lengthLeastUptoRow : OpenClaim := { program := "ytmfgkimbehkdeaa", sum := "f8532c2f8930a205f40a15a542999bb278681491ac078725218efd58c0996654", func := "cheesepress/cheesepresslaw13.LengthLeast", spec := "lengthLeast", unfollowed := true, recurses := true, apart := false, narrowed := true }
def LengthLeastUptoSaid : Prop := lengthLeastUptoRow.holds Try.pinned (OpenSpec.upto lengthLeastSpec)

end Rows
end Go.Proofs.Ytmfgkimbehkdeaa
