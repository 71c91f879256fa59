/-
  DERIVED. GIVEN WITH THE SEED: THE CARDS: each row of YtmblpmaelglnpaaDoorRows.lean that lists a variable, with what it lists TIED to the program's text (the seventh form; the later family's looks); each row that meets fmt, with fmt's text TOLD by the authors' own Lean function (tested against real Go, not proved from fmt's source: count such statements apart). THE CARD IS WHAT COUNTS. Prove the row's statement (the work); the ties are given (YtmblpmaelglnpaaDoorTie.lean); close each card by the builder's one call (the guide's Derived/Test/ToyasCard.lean, 'card_holds'). Laid BY PROGRAM, IN A SANDBOX (cutbox-door.mjs). By AI agents, Wed Nov 11 2026. No macro, syntax, notation, axiom, sorry.
-/
import Derived.Test.YtmblpmaelglnpaaDoorRows
import GoSem.ClaimSeven
namespace Go.Proofs.YtmblpmaelglnpaaDoor
namespace Rows

/-- THE TIED CARD OF 'cheesepresslaw20.SeqExecutes'. -/
def seqExecutesCard : Claim7 := { stood := { row := seqExecutesRow, standIns := [], harness := (true, "cb37553061920402bdd055af3009b9a8cb29df3de4f6bee80ff080aa395d4ff6"), looks := true }, kinds := [], alts := [], laidByText := true, laidKinds := [.handle], laidTests := true, laidLooks := .later }
def SeqExecutesCardSaid : Prop := Claim7.holds Tryd.pinned (.plain (OpenSpec.ofChange seqExecutesSpec)) seqExecutesCard

/-- THE TIED CARD OF 'cheesepresslaw20.SeqMore'. -/
def seqMoreCard : Claim7 := { stood := { row := seqMoreRow, standIns := [], harness := (true, "cb37553061920402bdd055af3009b9a8cb29df3de4f6bee80ff080aa395d4ff6"), looks := true }, kinds := [], alts := [], laidByText := true, laidKinds := [.handle], laidTests := true, laidLooks := .later }
def SeqMoreCardSaid : Prop := Claim7.holds Tryd.pinned (.plain (OpenSpec.ofChange seqMoreSpec)) seqMoreCard

/-- THE TIED CARD OF 'cheesepresslaw20.SeqParts'. -/
def seqPartsCard : Claim7 := { stood := { row := seqPartsRow, standIns := [], harness := (true, "cb37553061920402bdd055af3009b9a8cb29df3de4f6bee80ff080aa395d4ff6"), looks := true }, kinds := [], alts := [], laidByText := true, laidKinds := [.handle], laidTests := true, laidLooks := .later }
def SeqPartsCardSaid : Prop := Claim7.holds Tryd.pinned (.plain (OpenSpec.ofChange seqPartsSpec)) seqPartsCard

/-- THE TIED CARD OF 'cheesepresslaw20.SeqChecks'. -/
def seqChecksCard : Claim7 := { stood := { row := seqChecksRow, standIns := [], harness := (true, "cb37553061920402bdd055af3009b9a8cb29df3de4f6bee80ff080aa395d4ff6"), looks := true }, kinds := [], alts := [], laidByText := true, laidKinds := [.handle], laidTests := true, laidLooks := .later }
def SeqChecksCardSaid : Prop := Claim7.holds Tryd.pinned (.plain (OpenSpec.ofChange seqChecksSpec)) seqChecksCard

/-- THE TIED CARD OF 'cheesepresslaw20.SeqMakes'. -/
def seqMakesCard : Claim7 := { stood := { row := seqMakesRow, standIns := [], harness := (true, "cb37553061920402bdd055af3009b9a8cb29df3de4f6bee80ff080aa395d4ff6"), looks := true }, kinds := [], alts := [], laidByText := true, laidKinds := [.handle], laidTests := true, laidLooks := .later }
def SeqMakesCardSaid : Prop := Claim7.holds Tryd.pinned (.plain (OpenSpec.ofChange seqMakesSpec)) seqMakesCard

/-- THE TIED CARD OF 'cheesepresslaw20.SeqBack'. -/
def seqBackCard : Claim7 := { stood := { row := seqBackRow, standIns := [], harness := (true, "cb37553061920402bdd055af3009b9a8cb29df3de4f6bee80ff080aa395d4ff6"), looks := true }, kinds := [], alts := [], laidByText := true, laidKinds := [.handle], laidTests := true, laidLooks := .later }
def SeqBackCardSaid : Prop := Claim7.holds Tryd.pinned (.plain (OpenSpec.ofChange seqBackSpec)) seqBackCard

/-- THE TIED CARD OF 'cheesepresslaw20.SeqKnown'. -/
def seqKnownCard : Claim7 := { stood := { row := seqKnownRow, standIns := [], harness := (true, "cb37553061920402bdd055af3009b9a8cb29df3de4f6bee80ff080aa395d4ff6"), looks := true }, kinds := [], alts := [], laidByText := true, laidKinds := [.handle], laidTests := true, laidLooks := .later }
def SeqKnownCardSaid : Prop := Claim7.holds Tryd.pinned (.plain (OpenSpec.ofChange seqKnownSpec)) seqKnownCard

/-- THE TIED CARD OF 'cheesepresslaw21.ParamsReads'. -/
def paramsReadsCard : Claim7 := { stood := { row := paramsReadsRow, standIns := [], harness := (true, "cb37553061920402bdd055af3009b9a8cb29df3de4f6bee80ff080aa395d4ff6"), looks := true }, kinds := [], alts := [], laidByText := true, laidKinds := [.data, .data, .data, .data, .sentinel, .sentinel, .pinned], laidTests := true, laidLooks := .later }
def ParamsReadsCardSaid : Prop := Claim7.holds Tryd.pinned (.plain (OpenSpec.ofChange paramsReadsSpec)) paramsReadsCard

/-- THE TIED CARD OF 'cheesepresslaw21.ParamsTells'. -/
def paramsTellsCard : Claim7 := { stood := { row := paramsTellsRow, standIns := [], harness := (true, "cb37553061920402bdd055af3009b9a8cb29df3de4f6bee80ff080aa395d4ff6"), looks := true }, kinds := [], alts := [], laidByText := true, laidKinds := [.data, .data, .data, .data, .sentinel, .sentinel, .pinned], laidTests := true, laidLooks := .later }
def ParamsTellsCardSaid : Prop := Claim7.holds Tryd.pinned (.plain (OpenSpec.ofChange paramsTellsSpec)) paramsTellsCard

/-- THE TIED CARD OF 'cheesepresslaw21.ParamsKnown'. -/
def paramsKnownCard : Claim7 := { stood := { row := paramsKnownRow, standIns := [], harness := (true, "cb37553061920402bdd055af3009b9a8cb29df3de4f6bee80ff080aa395d4ff6"), looks := true }, kinds := [], alts := [], laidByText := true, laidKinds := [.data, .data, .data, .data, .sentinel, .sentinel, .pinned], laidTests := true, laidLooks := .later }
def ParamsKnownCardSaid : Prop := Claim7.holds Tryd.pinned (.plain (OpenSpec.ofChange paramsKnownSpec)) paramsKnownCard

/-- THE TIED CARD OF 'cheesepresslaw21.ParamsBack'. -/
def paramsBackCard : Claim7 := { stood := { row := paramsBackRow, standIns := [], harness := (true, "cb37553061920402bdd055af3009b9a8cb29df3de4f6bee80ff080aa395d4ff6"), looks := true }, kinds := [], alts := [], laidByText := true, laidKinds := [.data, .data, .data, .data, .sentinel, .sentinel, .pinned], laidTests := true, laidLooks := .later }
def ParamsBackCardSaid : Prop := Claim7.holds Tryd.pinned (.plain (OpenSpec.ofChange paramsBackSpec)) paramsBackCard

/-- THE TIED CARD OF 'cheesepresslaw21.ParamsGrow'. -/
def paramsGrowCard : Claim7 := { stood := { row := paramsGrowRow, standIns := [], harness := (true, "cb37553061920402bdd055af3009b9a8cb29df3de4f6bee80ff080aa395d4ff6"), looks := true }, kinds := [], alts := [], laidByText := true, laidKinds := [.data, .data, .data, .data, .sentinel, .sentinel, .pinned], laidTests := true, laidLooks := .later }
def ParamsGrowCardSaid : Prop := Claim7.holds Tryd.pinned (.plain (OpenSpec.ofChange paramsGrowSpec)) paramsGrowCard

/-- THE SECOND FORM's CARD OF 'cheesepresslaw20.SeqExecutes'. -/
def seqExecutesUptoCard : Claim7 := { stood := { row := seqExecutesUptoRow, standIns := [], harness := (true, "cb37553061920402bdd055af3009b9a8cb29df3de4f6bee80ff080aa395d4ff6"), looks := true }, kinds := [], alts := [], laidByText := true, laidKinds := [.handle], laidTests := true, laidLooks := .later }
def SeqExecutesUptoCardSaid : Prop := Claim7.holds Tryd.pinned (.plain (OpenSpec.upto seqExecutesSpec)) seqExecutesUptoCard

/-- THE SECOND FORM's CARD OF 'cheesepresslaw20.SeqMore'. -/
def seqMoreUptoCard : Claim7 := { stood := { row := seqMoreUptoRow, standIns := [], harness := (true, "cb37553061920402bdd055af3009b9a8cb29df3de4f6bee80ff080aa395d4ff6"), looks := true }, kinds := [], alts := [], laidByText := true, laidKinds := [.handle], laidTests := true, laidLooks := .later }
def SeqMoreUptoCardSaid : Prop := Claim7.holds Tryd.pinned (.plain (OpenSpec.upto seqMoreSpec)) seqMoreUptoCard

/-- THE SECOND FORM's CARD OF 'cheesepresslaw20.SeqParts'. -/
def seqPartsUptoCard : Claim7 := { stood := { row := seqPartsUptoRow, standIns := [], harness := (true, "cb37553061920402bdd055af3009b9a8cb29df3de4f6bee80ff080aa395d4ff6"), looks := true }, kinds := [], alts := [], laidByText := true, laidKinds := [.handle], laidTests := true, laidLooks := .later }
def SeqPartsUptoCardSaid : Prop := Claim7.holds Tryd.pinned (.plain (OpenSpec.upto seqPartsSpec)) seqPartsUptoCard

/-- THE SECOND FORM's CARD OF 'cheesepresslaw20.SeqChecks'. -/
def seqChecksUptoCard : Claim7 := { stood := { row := seqChecksUptoRow, standIns := [], harness := (true, "cb37553061920402bdd055af3009b9a8cb29df3de4f6bee80ff080aa395d4ff6"), looks := true }, kinds := [], alts := [], laidByText := true, laidKinds := [.handle], laidTests := true, laidLooks := .later }
def SeqChecksUptoCardSaid : Prop := Claim7.holds Tryd.pinned (.plain (OpenSpec.upto seqChecksSpec)) seqChecksUptoCard

/-- THE SECOND FORM's CARD OF 'cheesepresslaw20.SeqMakes'. -/
def seqMakesUptoCard : Claim7 := { stood := { row := seqMakesUptoRow, standIns := [], harness := (true, "cb37553061920402bdd055af3009b9a8cb29df3de4f6bee80ff080aa395d4ff6"), looks := true }, kinds := [], alts := [], laidByText := true, laidKinds := [.handle], laidTests := true, laidLooks := .later }
def SeqMakesUptoCardSaid : Prop := Claim7.holds Tryd.pinned (.plain (OpenSpec.upto seqMakesSpec)) seqMakesUptoCard

/-- THE SECOND FORM's CARD OF 'cheesepresslaw20.SeqBack'. -/
def seqBackUptoCard : Claim7 := { stood := { row := seqBackUptoRow, standIns := [], harness := (true, "cb37553061920402bdd055af3009b9a8cb29df3de4f6bee80ff080aa395d4ff6"), looks := true }, kinds := [], alts := [], laidByText := true, laidKinds := [.handle], laidTests := true, laidLooks := .later }
def SeqBackUptoCardSaid : Prop := Claim7.holds Tryd.pinned (.plain (OpenSpec.upto seqBackSpec)) seqBackUptoCard

/-- THE SECOND FORM's CARD OF 'cheesepresslaw20.SeqKnown'. -/
def seqKnownUptoCard : Claim7 := { stood := { row := seqKnownUptoRow, standIns := [], harness := (true, "cb37553061920402bdd055af3009b9a8cb29df3de4f6bee80ff080aa395d4ff6"), looks := true }, kinds := [], alts := [], laidByText := true, laidKinds := [.handle], laidTests := true, laidLooks := .later }
def SeqKnownUptoCardSaid : Prop := Claim7.holds Tryd.pinned (.plain (OpenSpec.upto seqKnownSpec)) seqKnownUptoCard

/-- THE SECOND FORM's CARD OF 'cheesepresslaw21.ParamsReads'. -/
def paramsReadsUptoCard : Claim7 := { stood := { row := paramsReadsUptoRow, standIns := [], harness := (true, "cb37553061920402bdd055af3009b9a8cb29df3de4f6bee80ff080aa395d4ff6"), looks := true }, kinds := [], alts := [], laidByText := true, laidKinds := [.data, .data, .data, .data, .sentinel, .sentinel, .pinned], laidTests := true, laidLooks := .later }
def ParamsReadsUptoCardSaid : Prop := Claim7.holds Tryd.pinned (.plain (OpenSpec.upto paramsReadsSpec)) paramsReadsUptoCard

/-- THE SECOND FORM's CARD OF 'cheesepresslaw21.ParamsTells'. -/
def paramsTellsUptoCard : Claim7 := { stood := { row := paramsTellsUptoRow, standIns := [], harness := (true, "cb37553061920402bdd055af3009b9a8cb29df3de4f6bee80ff080aa395d4ff6"), looks := true }, kinds := [], alts := [], laidByText := true, laidKinds := [.data, .data, .data, .data, .sentinel, .sentinel, .pinned], laidTests := true, laidLooks := .later }
def ParamsTellsUptoCardSaid : Prop := Claim7.holds Tryd.pinned (.plain (OpenSpec.upto paramsTellsSpec)) paramsTellsUptoCard

/-- THE SECOND FORM's CARD OF 'cheesepresslaw21.ParamsKnown'. -/
def paramsKnownUptoCard : Claim7 := { stood := { row := paramsKnownUptoRow, standIns := [], harness := (true, "cb37553061920402bdd055af3009b9a8cb29df3de4f6bee80ff080aa395d4ff6"), looks := true }, kinds := [], alts := [], laidByText := true, laidKinds := [.data, .data, .data, .data, .sentinel, .sentinel, .pinned], laidTests := true, laidLooks := .later }
def ParamsKnownUptoCardSaid : Prop := Claim7.holds Tryd.pinned (.plain (OpenSpec.upto paramsKnownSpec)) paramsKnownUptoCard

/-- THE SECOND FORM's CARD OF 'cheesepresslaw21.ParamsBack'. -/
def paramsBackUptoCard : Claim7 := { stood := { row := paramsBackUptoRow, standIns := [], harness := (true, "cb37553061920402bdd055af3009b9a8cb29df3de4f6bee80ff080aa395d4ff6"), looks := true }, kinds := [], alts := [], laidByText := true, laidKinds := [.data, .data, .data, .data, .sentinel, .sentinel, .pinned], laidTests := true, laidLooks := .later }
def ParamsBackUptoCardSaid : Prop := Claim7.holds Tryd.pinned (.plain (OpenSpec.upto paramsBackSpec)) paramsBackUptoCard

/-- THE SECOND FORM's CARD OF 'cheesepresslaw21.ParamsGrow'. -/
def paramsGrowUptoCard : Claim7 := { stood := { row := paramsGrowUptoRow, standIns := [], harness := (true, "cb37553061920402bdd055af3009b9a8cb29df3de4f6bee80ff080aa395d4ff6"), looks := true }, kinds := [], alts := [], laidByText := true, laidKinds := [.data, .data, .data, .data, .sentinel, .sentinel, .pinned], laidTests := true, laidLooks := .later }
def ParamsGrowUptoCardSaid : Prop := Claim7.holds Tryd.pinned (.plain (OpenSpec.upto paramsGrowSpec)) paramsGrowUptoCard
end Rows
end Go.Proofs.YtmblpmaelglnpaaDoor
