/-
  DERIVED. GIVEN WITH THE SEED: THE CARDS: each row of YtpdjahhimmaonaaDoorRows.lean that lists a variable, with what it lists TIED to the program's text (the seventh form; the later family's looks); each row that meets fmt, with fmt's text TOLD by the authors' own Lean function (tested against real Go, not proved from fmt's source: count such statements apart). THE CARD IS WHAT COUNTS. Prove the row's statement (the work); the ties are given (YtpdjahhimmaonaaDoorTie.lean); close each card by the builder's one call (the guide's Derived/Test/ToyasCard.lean, 'card_holds'). Laid BY PROGRAM, IN A SANDBOX (cutbox-door.mjs). By AI agents, Wed Nov 11 2026. No macro, syntax, notation, axiom, sorry.
-/
import Derived.Test.YtpdjahhimmaonaaDoorRows
import GoSem.ClaimSeven
namespace Go.Proofs.YtpdjahhimmaonaaDoor
namespace Rows

/-- THE TIED CARD OF 'vernierlaw40.DumpTells'. -/
def dumpTellsCard : Claim7 := { stood := { row := dumpTellsRow, standIns := [], harness := (true, "7e3eb92deb814ed202ac5df9261176964bea97af4fdbf08d112b97e5502f62e2"), looks := true }, kinds := [], alts := [], laidByText := true, laidKinds := [.data], laidTests := true, laidLooks := .later }
def DumpTellsCardSaid : Prop := Claim7.holds Tryd.pinned (.plain (OpenSpec.ofChange dumpTellsSpec)) dumpTellsCard

/-- THE TIED CARD OF 'vernierlaw34.BoundRises'. -/
def boundRisesCard : Claim7 := { stood := { row := boundRisesRow, standIns := [], harness := (true, "7e3eb92deb814ed202ac5df9261176964bea97af4fdbf08d112b97e5502f62e2"), looks := true }, kinds := [], alts := [], laidByText := true, laidKinds := [.data], laidTests := true, laidLooks := .later }
def BoundRisesCardSaid : Prop := Claim7.holds Tryd.pinned (.plain (OpenSpec.ofChange boundRisesSpec)) boundRisesCard

/-- THE TIED CARD OF 'vernierlaw34.BoundOwn'. -/
def boundOwnCard : Claim7 := { stood := { row := boundOwnRow, standIns := [], harness := (true, "7e3eb92deb814ed202ac5df9261176964bea97af4fdbf08d112b97e5502f62e2"), looks := true }, kinds := [], alts := [], laidByText := true, laidKinds := [.data], laidTests := true, laidLooks := .later }
def BoundOwnCardSaid : Prop := Claim7.holds Tryd.pinned (.plain (OpenSpec.ofChange boundOwnSpec)) boundOwnCard

/-- THE TIED CARD OF 'vernierlaw40.DumpBack'. -/
def dumpBackCard : Claim7 := { stood := { row := dumpBackRow, standIns := [], harness := (true, "7e3eb92deb814ed202ac5df9261176964bea97af4fdbf08d112b97e5502f62e2"), looks := true }, kinds := [], alts := [], laidByText := true, laidKinds := [.data, .data, .pinned], laidTests := true, laidLooks := .later }
def DumpBackCardSaid : Prop := Claim7.holds Tryd.pinned (.plain (OpenSpec.ofChange dumpBackSpec)) dumpBackCard

/-- THE SECOND FORM's CARD OF 'vernierlaw40.DumpTells'. -/
def dumpTellsUptoCard : Claim7 := { stood := { row := dumpTellsUptoRow, standIns := [], harness := (true, "7e3eb92deb814ed202ac5df9261176964bea97af4fdbf08d112b97e5502f62e2"), looks := true }, kinds := [], alts := [], laidByText := true, laidKinds := [.data], laidTests := true, laidLooks := .later }
def DumpTellsUptoCardSaid : Prop := Claim7.holds Tryd.pinned (.plain (OpenSpec.upto dumpTellsSpec)) dumpTellsUptoCard

/-- THE SECOND FORM's CARD OF 'vernierlaw34.BoundRises'. -/
def boundRisesUptoCard : Claim7 := { stood := { row := boundRisesUptoRow, standIns := [], harness := (true, "7e3eb92deb814ed202ac5df9261176964bea97af4fdbf08d112b97e5502f62e2"), looks := true }, kinds := [], alts := [], laidByText := true, laidKinds := [.data], laidTests := true, laidLooks := .later }
def BoundRisesUptoCardSaid : Prop := Claim7.holds Tryd.pinned (.plain (OpenSpec.upto boundRisesSpec)) boundRisesUptoCard

/-- THE SECOND FORM's CARD OF 'vernierlaw34.BoundOwn'. -/
def boundOwnUptoCard : Claim7 := { stood := { row := boundOwnUptoRow, standIns := [], harness := (true, "7e3eb92deb814ed202ac5df9261176964bea97af4fdbf08d112b97e5502f62e2"), looks := true }, kinds := [], alts := [], laidByText := true, laidKinds := [.data], laidTests := true, laidLooks := .later }
def BoundOwnUptoCardSaid : Prop := Claim7.holds Tryd.pinned (.plain (OpenSpec.upto boundOwnSpec)) boundOwnUptoCard

/-- THE SECOND FORM's CARD OF 'vernierlaw40.DumpBack'. -/
def dumpBackUptoCard : Claim7 := { stood := { row := dumpBackUptoRow, standIns := [], harness := (true, "7e3eb92deb814ed202ac5df9261176964bea97af4fdbf08d112b97e5502f62e2"), looks := true }, kinds := [], alts := [], laidByText := true, laidKinds := [.data, .data, .pinned], laidTests := true, laidLooks := .later }
def DumpBackUptoCardSaid : Prop := Claim7.holds Tryd.pinned (.plain (OpenSpec.upto dumpBackSpec)) dumpBackUptoCard
end Rows
end Go.Proofs.YtpdjahhimmaonaaDoor
