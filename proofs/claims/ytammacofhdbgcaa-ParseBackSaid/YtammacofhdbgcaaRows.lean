/-
  No cell of these rows narrows 'for every input' (looked for: loops, veiled, ifaces, maps, wideKeys, modest, calm, conditions, laid).
  DERIVED. THE GIVEN ROWS OF THIS SEAT. 12 by the template 'for every input the law returns true; each argument reads behind the call as it read before'; 0 by the template 'total and deterministic' (their statements: YtammacofhdbgcaaTotals.lean).
  GIVEN WITH THE SEED: the statements are not yours to turn. If you find one false, say at which input.
  Laid BY PROGRAM, IN A SANDBOX (cutbox-rows.mjs): the forced cells as the released guide's own fill.sh prints them over the translation d5e8a30c8fe963a8… (all of the seat's roots in one cut). By AI agents, Wed Nov 11 2026. No macro, syntax, notation, axiom, sorry.
-/
import Derived.Test.YtammacofhdbgcaaChecked
import GoSem.Claim
import GoSem.ClaimJoined
import GoSem.ClaimMapViews
import Derived.JoinedTies
import Derived.KernelRfl
namespace Go.Proofs.Ytammacofhdbgcaa
/- THE CELL 'sum', in the pinned program and in every row, IS THE sha256 OF THE DUMP (.gsa) THAT YtammacofhdbgcaaProg.lean LOADS. Nothing in Lean hashes anything: it is a label: what it is worth is what the hold of that sum in a sandbox is worth. -/
noncomputable def Try.pinned : Pinned := { name := "ytammacofhdbgcaa", sum := "d5e8a30c8fe963a88137fb45181e41fc43e887f24be38d045d21c4c9ca0d2f0f", checked := Try.checked }
namespace Rows
def none {H : Type} : Left H := { results := [], args := [] }

/-- 'cheesepresslaw23.MatchFinds': WHATEVER THE INPUT: true; the input reads as it did. -/
def matchFindsSpec : ChangeSpec := { name := "matchFinds", fn := fun _ => fun
  | [d] => { results := [.lit (.bool true)], args := [d] }
  | _ => none }
def matchFindsRow : OpenClaim := { program := "ytammacofhdbgcaa", sum := "d5e8a30c8fe963a88137fb45181e41fc43e887f24be38d045d21c4c9ca0d2f0f", func := "cheesepress/cheesepresslaw23.MatchFinds", spec := "matchFinds", unfollowed := true, recurses := true, plainKeys := false, apart := false }
def MatchFindsSaid : Prop := matchFindsRow.holds Try.pinned (OpenSpec.ofChange matchFindsSpec)

/-- ITS FALSE NEIGHBOUR: 'it returns false'. Refute it at one input. -/
def matchFindsWrong : ChangeSpec := { name := "matchFinds", fn := fun _ => fun
  | [d] => { results := [.lit (.bool false)], args := [d] }
  | _ => none }
def MatchFindsWrongFalsely : Prop := matchFindsRow.holds Try.pinned (OpenSpec.ofChange matchFindsWrong)

/-- 'cheesepresslaw23.MatchBlind': WHATEVER THE INPUT: true; the input reads as it did. -/
def matchBlindSpec : ChangeSpec := { name := "matchBlind", fn := fun _ => fun
  | [d1, d2, d3, d4, d5, d6] => { results := [.lit (.bool true)], args := [d1, d2, d3, d4, d5, d6] }
  | _ => none }
def matchBlindRow : OpenClaim := { program := "ytammacofhdbgcaa", sum := "d5e8a30c8fe963a88137fb45181e41fc43e887f24be38d045d21c4c9ca0d2f0f", func := "cheesepress/cheesepresslaw23.MatchBlind", spec := "matchBlind", unfollowed := true, recurses := true, plainKeys := false, apart := false }
def MatchBlindSaid : Prop := matchBlindRow.holds Try.pinned (OpenSpec.ofChange matchBlindSpec)

/-- ITS FALSE NEIGHBOUR: 'it returns false'. Refute it at one input. -/
def matchBlindWrong : ChangeSpec := { name := "matchBlind", fn := fun _ => fun
  | [d1, d2, d3, d4, d5, d6] => { results := [.lit (.bool false)], args := [d1, d2, d3, d4, d5, d6] }
  | _ => none }
def MatchBlindWrongFalsely : Prop := matchBlindRow.holds Try.pinned (OpenSpec.ofChange matchBlindWrong)

/-- 'cheesepresslaw23.MatchDeeper': WHATEVER THE INPUT: true; the input reads as it did. -/
def matchDeeperSpec : ChangeSpec := { name := "matchDeeper", fn := fun _ => fun
  | [d1, d2, d3, d4, d5] => { results := [.lit (.bool true)], args := [d1, d2, d3, d4, d5] }
  | _ => none }
def matchDeeperRow : OpenClaim := { program := "ytammacofhdbgcaa", sum := "d5e8a30c8fe963a88137fb45181e41fc43e887f24be38d045d21c4c9ca0d2f0f", func := "cheesepress/cheesepresslaw23.MatchDeeper", spec := "matchDeeper", unfollowed := true, recurses := true, plainKeys := false, apart := false }
def MatchDeeperSaid : Prop := matchDeeperRow.holds Try.pinned (OpenSpec.ofChange matchDeeperSpec)

/-- ITS FALSE NEIGHBOUR: 'it returns false'. Refute it at one input. -/
def matchDeeperWrong : ChangeSpec := { name := "matchDeeper", fn := fun _ => fun
  | [d1, d2, d3, d4, d5] => { results := [.lit (.bool false)], args := [d1, d2, d3, d4, d5] }
  | _ => none }
def MatchDeeperWrongFalsely : Prop := matchDeeperRow.holds Try.pinned (OpenSpec.ofChange matchDeeperWrong)

/-- 'cheesepresslaw23.MatchKnown': WHATEVER THE INPUT: true; the input reads as it did. -/
def matchKnownSpec : ChangeSpec := { name := "matchKnown", fn := fun _ => fun
  | [] => { results := [.lit (.bool true)], args := [] }
  | _ => none }
def matchKnownRow : OpenClaim := { program := "ytammacofhdbgcaa", sum := "d5e8a30c8fe963a88137fb45181e41fc43e887f24be38d045d21c4c9ca0d2f0f", func := "cheesepress/cheesepresslaw23.MatchKnown", spec := "matchKnown", unfollowed := true, recurses := true, plainKeys := false, apart := false }
def MatchKnownSaid : Prop := matchKnownRow.holds Try.pinned (OpenSpec.ofChange matchKnownSpec)

/-- ITS FALSE NEIGHBOUR: 'it returns false'. Refute it at one input. -/
def matchKnownWrong : ChangeSpec := { name := "matchKnown", fn := fun _ => fun
  | [] => { results := [.lit (.bool false)], args := [] }
  | _ => none }
def MatchKnownWrongFalsely : Prop := matchKnownRow.holds Try.pinned (OpenSpec.ofChange matchKnownWrong)

/-- 'cheesepresslaw23.MatchChecks': WHATEVER THE INPUT: true; the input reads as it did. -/
def matchChecksSpec : ChangeSpec := { name := "matchChecks", fn := fun _ => fun
  | [d1, d2, d3] => { results := [.lit (.bool true)], args := [d1, d2, d3] }
  | _ => none }
def matchChecksRow : OpenClaim := { program := "ytammacofhdbgcaa", sum := "d5e8a30c8fe963a88137fb45181e41fc43e887f24be38d045d21c4c9ca0d2f0f", func := "cheesepress/cheesepresslaw23.MatchChecks", spec := "matchChecks", unfollowed := true, recurses := true, plainKeys := false, apart := false }
def MatchChecksSaid : Prop := matchChecksRow.holds Try.pinned (OpenSpec.ofChange matchChecksSpec)

/-- ITS FALSE NEIGHBOUR: 'it returns false'. Refute it at one input. -/
def matchChecksWrong : ChangeSpec := { name := "matchChecks", fn := fun _ => fun
  | [d1, d2, d3] => { results := [.lit (.bool false)], args := [d1, d2, d3] }
  | _ => none }
def MatchChecksWrongFalsely : Prop := matchChecksRow.holds Try.pinned (OpenSpec.ofChange matchChecksWrong)

/-- 'cheesepresslaw23.MatchRight': WHATEVER THE INPUT: true; the input reads as it did. -/
def matchRightSpec : ChangeSpec := { name := "matchRight", fn := fun _ => fun
  | [d1, d2, d3, d4] => { results := [.lit (.bool true)], args := [d1, d2, d3, d4] }
  | _ => none }
def matchRightRow : OpenClaim := { program := "ytammacofhdbgcaa", sum := "d5e8a30c8fe963a88137fb45181e41fc43e887f24be38d045d21c4c9ca0d2f0f", func := "cheesepress/cheesepresslaw23.MatchRight", spec := "matchRight", unfollowed := true, recurses := true, plainKeys := false, apart := false }
def MatchRightSaid : Prop := matchRightRow.holds Try.pinned (OpenSpec.ofChange matchRightSpec)

/-- ITS FALSE NEIGHBOUR: 'it returns false'. Refute it at one input. -/
def matchRightWrong : ChangeSpec := { name := "matchRight", fn := fun _ => fun
  | [d1, d2, d3, d4] => { results := [.lit (.bool false)], args := [d1, d2, d3, d4] }
  | _ => none }
def MatchRightWrongFalsely : Prop := matchRightRow.holds Try.pinned (OpenSpec.ofChange matchRightWrong)

/-- 'cheesepresslaw24.ParseBlocks': WHATEVER THE INPUT: true; the input reads as it did. -/
def parseBlocksSpec : ChangeSpec := { name := "parseBlocks", fn := fun _ => fun
  | [d1, d2, d3, d4, d5] => { results := [.lit (.bool true)], args := [d1, d2, d3, d4, d5] }
  | _ => none }
def parseBlocksRow : OpenClaim := { program := "ytammacofhdbgcaa", sum := "d5e8a30c8fe963a88137fb45181e41fc43e887f24be38d045d21c4c9ca0d2f0f", func := "cheesepress/cheesepresslaw24.ParseBlocks", spec := "parseBlocks", unfollowed := true, recurses := true, plainKeys := false, apart := false }
def ParseBlocksSaid : Prop := parseBlocksRow.holds Try.pinned (OpenSpec.ofChange parseBlocksSpec)

/-- ITS FALSE NEIGHBOUR: 'it returns false'. Refute it at one input. -/
def parseBlocksWrong : ChangeSpec := { name := "parseBlocks", fn := fun _ => fun
  | [d1, d2, d3, d4, d5] => { results := [.lit (.bool false)], args := [d1, d2, d3, d4, d5] }
  | _ => none }
def ParseBlocksWrongFalsely : Prop := parseBlocksRow.holds Try.pinned (OpenSpec.ofChange parseBlocksWrong)

/-- 'cheesepresslaw24.ParseBack': WHATEVER THE INPUT: true; the input reads as it did. -/
def parseBackSpec : ChangeSpec := { name := "parseBack", fn := fun _ => fun
  | [d1, d2, d3, d4, d5] => { results := [.lit (.bool true)], args := [d1, d2, d3, d4, d5] }
  | _ => none }
def parseBackRow : OpenClaim := { program := "ytammacofhdbgcaa", sum := "d5e8a30c8fe963a88137fb45181e41fc43e887f24be38d045d21c4c9ca0d2f0f", func := "cheesepress/cheesepresslaw24.ParseBack", spec := "parseBack", unfollowed := true, recurses := true, plainKeys := false, apart := false }
def ParseBackSaid : Prop := parseBackRow.holds Try.pinned (OpenSpec.ofChange parseBackSpec)

/-- ITS FALSE NEIGHBOUR: 'it returns false'. Refute it at one input. -/
def parseBackWrong : ChangeSpec := { name := "parseBack", fn := fun _ => fun
  | [d1, d2, d3, d4, d5] => { results := [.lit (.bool false)], args := [d1, d2, d3, d4, d5] }
  | _ => none }
def ParseBackWrongFalsely : Prop := parseBackRow.holds Try.pinned (OpenSpec.ofChange parseBackWrong)

/-- 'cheesepresslaw24.ParseEager': WHATEVER THE INPUT: true; the input reads as it did. -/
def parseEagerSpec : ChangeSpec := { name := "parseEager", fn := fun _ => fun
  | [d1, d2] => { results := [.lit (.bool true)], args := [d1, d2] }
  | _ => none }
def parseEagerRow : OpenClaim := { program := "ytammacofhdbgcaa", sum := "d5e8a30c8fe963a88137fb45181e41fc43e887f24be38d045d21c4c9ca0d2f0f", func := "cheesepress/cheesepresslaw24.ParseEager", spec := "parseEager", unfollowed := true, recurses := true, plainKeys := false, apart := false }
def ParseEagerSaid : Prop := parseEagerRow.holds Try.pinned (OpenSpec.ofChange parseEagerSpec)

/-- ITS FALSE NEIGHBOUR: 'it returns false'. Refute it at one input. -/
def parseEagerWrong : ChangeSpec := { name := "parseEager", fn := fun _ => fun
  | [d1, d2] => { results := [.lit (.bool false)], args := [d1, d2] }
  | _ => none }
def ParseEagerWrongFalsely : Prop := parseEagerRow.holds Try.pinned (OpenSpec.ofChange parseEagerWrong)

/-- 'cheesepresslaw24.ParseBlind': WHATEVER THE INPUT: true; the input reads as it did. -/
def parseBlindSpec : ChangeSpec := { name := "parseBlind", fn := fun _ => fun
  | [d1, d2, d3, d4, d5] => { results := [.lit (.bool true)], args := [d1, d2, d3, d4, d5] }
  | _ => none }
def parseBlindRow : OpenClaim := { program := "ytammacofhdbgcaa", sum := "d5e8a30c8fe963a88137fb45181e41fc43e887f24be38d045d21c4c9ca0d2f0f", func := "cheesepress/cheesepresslaw24.ParseBlind", spec := "parseBlind", unfollowed := true, recurses := true, plainKeys := false, apart := false }
def ParseBlindSaid : Prop := parseBlindRow.holds Try.pinned (OpenSpec.ofChange parseBlindSpec)

/-- ITS FALSE NEIGHBOUR: 'it returns false'. Refute it at one input. -/
def parseBlindWrong : ChangeSpec := { name := "parseBlind", fn := fun _ => fun
  | [d1, d2, d3, d4, d5] => { results := [.lit (.bool false)], args := [d1, d2, d3, d4, d5] }
  | _ => none }
def ParseBlindWrongFalsely : Prop := parseBlindRow.holds Try.pinned (OpenSpec.ofChange parseBlindWrong)

/-- 'cheesepresslaw24.ParseSteps': WHATEVER THE INPUT: true; the input reads as it did. -/
def parseStepsSpec : ChangeSpec := { name := "parseSteps", fn := fun _ => fun
  | [d1, d2, d3, d4, d5, d6, d7] => { results := [.lit (.bool true)], args := [d1, d2, d3, d4, d5, d6, d7] }
  | _ => none }
def parseStepsRow : OpenClaim := { program := "ytammacofhdbgcaa", sum := "d5e8a30c8fe963a88137fb45181e41fc43e887f24be38d045d21c4c9ca0d2f0f", func := "cheesepress/cheesepresslaw24.ParseSteps", spec := "parseSteps", unfollowed := true, recurses := true, plainKeys := false, apart := false }
def ParseStepsSaid : Prop := parseStepsRow.holds Try.pinned (OpenSpec.ofChange parseStepsSpec)

/-- ITS FALSE NEIGHBOUR: 'it returns false'. Refute it at one input. -/
def parseStepsWrong : ChangeSpec := { name := "parseSteps", fn := fun _ => fun
  | [d1, d2, d3, d4, d5, d6, d7] => { results := [.lit (.bool false)], args := [d1, d2, d3, d4, d5, d6, d7] }
  | _ => none }
def ParseStepsWrongFalsely : Prop := parseStepsRow.holds Try.pinned (OpenSpec.ofChange parseStepsWrong)

/-- 'cheesepresslaw24.ParseKnown': WHATEVER THE INPUT: true; the input reads as it did. -/
def parseKnownSpec : ChangeSpec := { name := "parseKnown", fn := fun _ => fun
  | [] => { results := [.lit (.bool true)], args := [] }
  | _ => none }
def parseKnownRow : OpenClaim := { program := "ytammacofhdbgcaa", sum := "d5e8a30c8fe963a88137fb45181e41fc43e887f24be38d045d21c4c9ca0d2f0f", func := "cheesepress/cheesepresslaw24.ParseKnown", spec := "parseKnown", unfollowed := true, recurses := true, plainKeys := false, apart := false }
def ParseKnownSaid : Prop := parseKnownRow.holds Try.pinned (OpenSpec.ofChange parseKnownSpec)

/-- ITS FALSE NEIGHBOUR: 'it returns false'. Refute it at one input. -/
def parseKnownWrong : ChangeSpec := { name := "parseKnown", fn := fun _ => fun
  | [] => { results := [.lit (.bool false)], args := [] }
  | _ => none }
def ParseKnownWrongFalsely : Prop := parseKnownRow.holds Try.pinned (OpenSpec.ofChange parseKnownWrong)

/- THE SECOND FORM. 'bulk': how many values and letters a reading holds, each counted each time it is reached (what is shared counts as often as it is met; a slice's spare places count too). A statement '..UptoSaid' is the law's where the arguments, and the package variables that the reading takes, are together of bulk at most 1048576: NARROWER than '..Said'. Prove '..Said' where nothing that the law and all that it calls make is longer than what came in: it says more and counts as full. Else prove '..UptoSaid'. A law counts once. -/
mutual
def uptoBulk {H : Type} : DataW H → Nat
  | .lit (.string bytes) => bytes.length + 1
  | .lit _ => 1
  | .nil => 1
  | .ptr d => uptoBulk d + 1
  | .slice elems spare => uptoBulkAll elems + uptoBulkAll spare + 1
  | .agg parts => uptoBulkAll parts + 1
  | .iface _ d => uptoBulk d + 1
  | .map entries => uptoBulkEntries entries + 1
  | .held _ => 1
def uptoBulkAll {H : Type} : List (DataW H) → Nat
  | [] => 0
  | d :: r => uptoBulk d + uptoBulkAll r
def uptoBulkEntries {H : Type} : List (Lit × DataW H) → Nat
  | [] => 0
  | x :: r => uptoBulkEntry x + uptoBulkEntries r
def uptoBulkEntry {H : Type} : Lit × DataW H → Nat
  | (.string bytes, d) => bytes.length + uptoBulk d + 1
  | (_, d) => uptoBulk d + 1
 end
def uptoSmall : (H : Type) → List (DataW H) → Bool := fun _ ds => decide (uptoBulkAll ds ≤ 1048576)
def OpenSpec.upto (s : _root_.Go.ChangeSpec) : _root_.Go.OpenSpec := { _root_.Go.OpenSpec.ofChange s with cond := some uptoSmall }

/-- 'cheesepresslaw23.MatchFinds', WHERE WHAT IT READS IS OF BULK AT MOST 1048576: true; the input reads as it did. -/
def matchFindsUptoRow : OpenClaim := { program := "ytammacofhdbgcaa", sum := "d5e8a30c8fe963a88137fb45181e41fc43e887f24be38d045d21c4c9ca0d2f0f", func := "cheesepress/cheesepresslaw23.MatchFinds", spec := "matchFinds", unfollowed := true, recurses := true, plainKeys := false, apart := false, narrowed := true }
def MatchFindsUptoSaid : Prop := matchFindsUptoRow.holds Try.pinned (OpenSpec.upto matchFindsSpec)

/-- 'cheesepresslaw23.MatchBlind', WHERE WHAT IT READS IS OF BULK AT MOST 1048576: true; the input reads as it did. -/
def matchBlindUptoRow : OpenClaim := { program := "ytammacofhdbgcaa", sum := "d5e8a30c8fe963a88137fb45181e41fc43e887f24be38d045d21c4c9ca0d2f0f", func := "cheesepress/cheesepresslaw23.MatchBlind", spec := "matchBlind", unfollowed := true, recurses := true, plainKeys := false, apart := false, narrowed := true }
def MatchBlindUptoSaid : Prop := matchBlindUptoRow.holds Try.pinned (OpenSpec.upto matchBlindSpec)

/-- 'cheesepresslaw23.MatchDeeper', WHERE WHAT IT READS IS OF BULK AT MOST 1048576: true; the input reads as it did. -/
def matchDeeperUptoRow : OpenClaim := { program := "ytammacofhdbgcaa", sum := "d5e8a30c8fe963a88137fb45181e41fc43e887f24be38d045d21c4c9ca0d2f0f", func := "cheesepress/cheesepresslaw23.MatchDeeper", spec := "matchDeeper", unfollowed := true, recurses := true, plainKeys := false, apart := false, narrowed := true }
def MatchDeeperUptoSaid : Prop := matchDeeperUptoRow.holds Try.pinned (OpenSpec.upto matchDeeperSpec)

/-- 'cheesepresslaw23.MatchKnown', WHERE WHAT IT READS IS OF BULK AT MOST 1048576: true; the input reads as it did. -/
def matchKnownUptoRow : OpenClaim := { program := "ytammacofhdbgcaa", sum := "d5e8a30c8fe963a88137fb45181e41fc43e887f24be38d045d21c4c9ca0d2f0f", func := "cheesepress/cheesepresslaw23.MatchKnown", spec := "matchKnown", unfollowed := true, recurses := true, plainKeys := false, apart := false, narrowed := true }
def MatchKnownUptoSaid : Prop := matchKnownUptoRow.holds Try.pinned (OpenSpec.upto matchKnownSpec)

/-- 'cheesepresslaw23.MatchChecks', WHERE WHAT IT READS IS OF BULK AT MOST 1048576: true; the input reads as it did. -/
def matchChecksUptoRow : OpenClaim := { program := "ytammacofhdbgcaa", sum := "d5e8a30c8fe963a88137fb45181e41fc43e887f24be38d045d21c4c9ca0d2f0f", func := "cheesepress/cheesepresslaw23.MatchChecks", spec := "matchChecks", unfollowed := true, recurses := true, plainKeys := false, apart := false, narrowed := true }
def MatchChecksUptoSaid : Prop := matchChecksUptoRow.holds Try.pinned (OpenSpec.upto matchChecksSpec)

/-- 'cheesepresslaw23.MatchRight', WHERE WHAT IT READS IS OF BULK AT MOST 1048576: true; the input reads as it did. -/
def matchRightUptoRow : OpenClaim := { program := "ytammacofhdbgcaa", sum := "d5e8a30c8fe963a88137fb45181e41fc43e887f24be38d045d21c4c9ca0d2f0f", func := "cheesepress/cheesepresslaw23.MatchRight", spec := "matchRight", unfollowed := true, recurses := true, plainKeys := false, apart := false, narrowed := true }
def MatchRightUptoSaid : Prop := matchRightUptoRow.holds Try.pinned (OpenSpec.upto matchRightSpec)

/-- 'cheesepresslaw24.ParseBlocks', WHERE WHAT IT READS IS OF BULK AT MOST 1048576: true; the input reads as it did. -/
def parseBlocksUptoRow : OpenClaim := { program := "ytammacofhdbgcaa", sum := "d5e8a30c8fe963a88137fb45181e41fc43e887f24be38d045d21c4c9ca0d2f0f", func := "cheesepress/cheesepresslaw24.ParseBlocks", spec := "parseBlocks", unfollowed := true, recurses := true, plainKeys := false, apart := false, narrowed := true }
def ParseBlocksUptoSaid : Prop := parseBlocksUptoRow.holds Try.pinned (OpenSpec.upto parseBlocksSpec)

/-- 'cheesepresslaw24.ParseBack', WHERE WHAT IT READS IS OF BULK AT MOST 1048576: true; the input reads as it did. -/
def parseBackUptoRow : OpenClaim := { program := "ytammacofhdbgcaa", sum := "d5e8a30c8fe963a88137fb45181e41fc43e887f24be38d045d21c4c9ca0d2f0f", func := "cheesepress/cheesepresslaw24.ParseBack", spec := "parseBack", unfollowed := true, recurses := true, plainKeys := false, apart := false, narrowed := true }
def ParseBackUptoSaid : Prop := parseBackUptoRow.holds Try.pinned (OpenSpec.upto parseBackSpec)

/-- 'cheesepresslaw24.ParseEager', WHERE WHAT IT READS IS OF BULK AT MOST 1048576: true; the input reads as it did. -/
def parseEagerUptoRow : OpenClaim := { program := "ytammacofhdbgcaa", sum := "d5e8a30c8fe963a88137fb45181e41fc43e887f24be38d045d21c4c9ca0d2f0f", func := "cheesepress/cheesepresslaw24.ParseEager", spec := "parseEager", unfollowed := true, recurses := true, plainKeys := false, apart := false, narrowed := true }
def ParseEagerUptoSaid : Prop := parseEagerUptoRow.holds Try.pinned (OpenSpec.upto parseEagerSpec)

/-- 'cheesepresslaw24.ParseBlind', WHERE WHAT IT READS IS OF BULK AT MOST 1048576: true; the input reads as it did. -/
def parseBlindUptoRow : OpenClaim := { program := "ytammacofhdbgcaa", sum := "d5e8a30c8fe963a88137fb45181e41fc43e887f24be38d045d21c4c9ca0d2f0f", func := "cheesepress/cheesepresslaw24.ParseBlind", spec := "parseBlind", unfollowed := true, recurses := true, plainKeys := false, apart := false, narrowed := true }
def ParseBlindUptoSaid : Prop := parseBlindUptoRow.holds Try.pinned (OpenSpec.upto parseBlindSpec)

/-- 'cheesepresslaw24.ParseSteps', WHERE WHAT IT READS IS OF BULK AT MOST 1048576: true; the input reads as it did. -/
def parseStepsUptoRow : OpenClaim := { program := "ytammacofhdbgcaa", sum := "d5e8a30c8fe963a88137fb45181e41fc43e887f24be38d045d21c4c9ca0d2f0f", func := "cheesepress/cheesepresslaw24.ParseSteps", spec := "parseSteps", unfollowed := true, recurses := true, plainKeys := false, apart := false, narrowed := true }
def ParseStepsUptoSaid : Prop := parseStepsUptoRow.holds Try.pinned (OpenSpec.upto parseStepsSpec)

/-- 'cheesepresslaw24.ParseKnown', WHERE WHAT IT READS IS OF BULK AT MOST 1048576: true; the input reads as it did. -/
def parseKnownUptoRow : OpenClaim := { program := "ytammacofhdbgcaa", sum := "d5e8a30c8fe963a88137fb45181e41fc43e887f24be38d045d21c4c9ca0d2f0f", func := "cheesepress/cheesepresslaw24.ParseKnown", spec := "parseKnown", unfollowed := true, recurses := true, plainKeys := false, apart := false, narrowed := true }
def ParseKnownUptoSaid : Prop := parseKnownUptoRow.holds Try.pinned (OpenSpec.upto parseKnownSpec)

end Rows
end Go.Proofs.Ytammacofhdbgcaa
