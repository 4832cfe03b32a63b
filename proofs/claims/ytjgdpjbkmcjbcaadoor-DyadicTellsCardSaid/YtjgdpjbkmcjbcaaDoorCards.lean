/-
  DERIVED. GIVEN WITH THE SEED: THE CARDS: each row of YtjgdpjbkmcjbcaaDoorRows.lean that lists a variable, with what it lists TIED to the program's text (the seventh form; the later family's looks); each row that meets fmt, with fmt's text TOLD by the authors' own Lean function (tested against real Go, not proved from fmt's source: count such statements apart). THE CARD IS WHAT COUNTS. Prove the row's statement (the work); the ties are given (YtjgdpjbkmcjbcaaDoorTie.lean); close each card by the builder's one call (the guide's Derived/Test/ToyasCard.lean, 'card_holds'). Laid BY PROGRAM, IN A SANDBOX (cutbox-door.mjs). By AI agents, Wed Nov 11 2026. No macro, syntax, notation, axiom, sorry.
-/
import Derived.Test.YtjgdpjbkmcjbcaaDoorRows
import GoSem.ClaimSeven
namespace Go.Proofs.YtjgdpjbkmcjbcaaDoor
namespace Rows

/-- THE TIED CARD OF 'vernierlaw02.NatdivGcd'. -/
def natdivGcdCard : Claim7 := { stood := { row := natdivGcdRow, standIns := [], harness := (true, "54ac4c23ef5b469e1c5b6e945e924c4bea3515e3ff0223d19672349e85d92e25"), looks := false }, kinds := [], alts := [], laidByText := true, laidKinds := [.data], laidTests := true, laidLooks := .later }
def NatdivGcdCardSaid : Prop := Claim7.holds Tryd.pinned (.plain (OpenSpec.ofChange natdivGcdSpec)) natdivGcdCard

/-- THE TIED CARD OF 'vernierlaw04.DyadicPlain'. -/
def dyadicPlainCard : Claim7 := { stood := { row := dyadicPlainRow, standIns := [], harness := (true, "54ac4c23ef5b469e1c5b6e945e924c4bea3515e3ff0223d19672349e85d92e25"), looks := false }, kinds := [], alts := [], laidByText := true, laidKinds := [.data], laidTests := true, laidLooks := .later }
def DyadicPlainCardSaid : Prop := Claim7.holds Tryd.pinned (.plain (OpenSpec.ofChange dyadicPlainSpec)) dyadicPlainCard

/-- THE TIED CARD OF 'vernierlaw04.DyadicAbove'. -/
def dyadicAboveCard : Claim7 := { stood := { row := dyadicAboveRow, standIns := [], harness := (true, "54ac4c23ef5b469e1c5b6e945e924c4bea3515e3ff0223d19672349e85d92e25"), looks := false }, kinds := [], alts := [], laidByText := true, laidKinds := [.data], laidTests := true, laidLooks := .later }
def DyadicAboveCardSaid : Prop := Claim7.holds Tryd.pinned (.plain (OpenSpec.ofChange dyadicAboveSpec)) dyadicAboveCard

/-- THE TIED CARD OF 'vernierlaw04.DyadicRing'. -/
def dyadicRingCard : Claim7 := { stood := { row := dyadicRingRow, standIns := [], harness := (true, "54ac4c23ef5b469e1c5b6e945e924c4bea3515e3ff0223d19672349e85d92e25"), looks := false }, kinds := [], alts := [], laidByText := true, laidKinds := [.data], laidTests := true, laidLooks := .later }
def DyadicRingCardSaid : Prop := Claim7.holds Tryd.pinned (.plain (OpenSpec.ofChange dyadicRingSpec)) dyadicRingCard

/-- THE TIED CARD OF 'vernierlaw04.DyadicTells'. -/
def dyadicTellsCard : Claim7 := { stood := { row := dyadicTellsRow, standIns := [], harness := (true, "54ac4c23ef5b469e1c5b6e945e924c4bea3515e3ff0223d19672349e85d92e25"), looks := false }, kinds := [], alts := [], laidByText := true, laidKinds := [.data], laidTests := true, laidLooks := .later }
def DyadicTellsCardSaid : Prop := Claim7.holds Tryd.pinned (.plain (OpenSpec.ofChange dyadicTellsSpec)) dyadicTellsCard

/-- THE TIED CARD OF 'vernierlaw11.FfmaTells'. -/
def ffmaTellsCard : Claim7 := { stood := { row := ffmaTellsRow, standIns := [], harness := (true, "54ac4c23ef5b469e1c5b6e945e924c4bea3515e3ff0223d19672349e85d92e25"), looks := false }, kinds := [], alts := [], laidByText := true, laidKinds := [.data], laidTests := true, laidLooks := .later }
def FfmaTellsCardSaid : Prop := Claim7.holds Tryd.pinned (.plain (OpenSpec.ofChange ffmaTellsSpec)) ffmaTellsCard

/-- THE TIED CARD OF 'vernierlaw11.FfmaParts'. -/
def ffmaPartsCard : Claim7 := { stood := { row := ffmaPartsRow, standIns := [], harness := (true, "54ac4c23ef5b469e1c5b6e945e924c4bea3515e3ff0223d19672349e85d92e25"), looks := false }, kinds := [], alts := [], laidByText := true, laidKinds := [.data], laidTests := true, laidLooks := .later }
def FfmaPartsCardSaid : Prop := Claim7.holds Tryd.pinned (.plain (OpenSpec.ofChange ffmaPartsSpec)) ffmaPartsCard

/-- THE TIED CARD OF 'vernierlaw11.FfmaDots'. -/
def ffmaDotsCard : Claim7 := { stood := { row := ffmaDotsRow, standIns := [], harness := (true, "54ac4c23ef5b469e1c5b6e945e924c4bea3515e3ff0223d19672349e85d92e25"), looks := false }, kinds := [], alts := [], laidByText := true, laidKinds := [.data], laidTests := true, laidLooks := .later }
def FfmaDotsCardSaid : Prop := Claim7.holds Tryd.pinned (.plain (OpenSpec.ofChange ffmaDotsSpec)) ffmaDotsCard

/-- THE TIED CARD OF 'vernierlaw13.FconvFrom'. -/
def fconvFromCard : Claim7 := { stood := { row := fconvFromRow, standIns := [], harness := (true, "54ac4c23ef5b469e1c5b6e945e924c4bea3515e3ff0223d19672349e85d92e25"), looks := false }, kinds := [], alts := [], laidByText := true, laidKinds := [.data], laidTests := true, laidLooks := .later }
def FconvFromCardSaid : Prop := Claim7.holds Tryd.pinned (.plain (OpenSpec.ofChange fconvFromSpec)) fconvFromCard

/-- THE TIED CARD OF 'vernierlaw13.FconvBack'. -/
def fconvBackCard : Claim7 := { stood := { row := fconvBackRow, standIns := [], harness := (true, "54ac4c23ef5b469e1c5b6e945e924c4bea3515e3ff0223d19672349e85d92e25"), looks := false }, kinds := [], alts := [], laidByText := true, laidKinds := [.data], laidTests := true, laidLooks := .later }
def FconvBackCardSaid : Prop := Claim7.holds Tryd.pinned (.plain (OpenSpec.ofChange fconvBackSpec)) fconvBackCard

/-- THE TIED CARD OF 'vernierlaw13.FconvScales'. -/
def fconvScalesCard : Claim7 := { stood := { row := fconvScalesRow, standIns := [], harness := (true, "54ac4c23ef5b469e1c5b6e945e924c4bea3515e3ff0223d19672349e85d92e25"), looks := false }, kinds := [], alts := [], laidByText := true, laidKinds := [.data], laidTests := true, laidLooks := .later }
def FconvScalesCardSaid : Prop := Claim7.holds Tryd.pinned (.plain (OpenSpec.ofChange fconvScalesSpec)) fconvScalesCard

/-- THE SECOND FORM's CARD OF 'vernierlaw02.NatdivGcd'. -/
def natdivGcdUptoCard : Claim7 := { stood := { row := natdivGcdUptoRow, standIns := [], harness := (true, "54ac4c23ef5b469e1c5b6e945e924c4bea3515e3ff0223d19672349e85d92e25"), looks := false }, kinds := [], alts := [], laidByText := true, laidKinds := [.data], laidTests := true, laidLooks := .later }
def NatdivGcdUptoCardSaid : Prop := Claim7.holds Tryd.pinned (.plain (OpenSpec.upto natdivGcdSpec)) natdivGcdUptoCard

/-- THE SECOND FORM's CARD OF 'vernierlaw04.DyadicPlain'. -/
def dyadicPlainUptoCard : Claim7 := { stood := { row := dyadicPlainUptoRow, standIns := [], harness := (true, "54ac4c23ef5b469e1c5b6e945e924c4bea3515e3ff0223d19672349e85d92e25"), looks := false }, kinds := [], alts := [], laidByText := true, laidKinds := [.data], laidTests := true, laidLooks := .later }
def DyadicPlainUptoCardSaid : Prop := Claim7.holds Tryd.pinned (.plain (OpenSpec.upto dyadicPlainSpec)) dyadicPlainUptoCard

/-- THE SECOND FORM's CARD OF 'vernierlaw04.DyadicAbove'. -/
def dyadicAboveUptoCard : Claim7 := { stood := { row := dyadicAboveUptoRow, standIns := [], harness := (true, "54ac4c23ef5b469e1c5b6e945e924c4bea3515e3ff0223d19672349e85d92e25"), looks := false }, kinds := [], alts := [], laidByText := true, laidKinds := [.data], laidTests := true, laidLooks := .later }
def DyadicAboveUptoCardSaid : Prop := Claim7.holds Tryd.pinned (.plain (OpenSpec.upto dyadicAboveSpec)) dyadicAboveUptoCard

/-- THE SECOND FORM's CARD OF 'vernierlaw04.DyadicRing'. -/
def dyadicRingUptoCard : Claim7 := { stood := { row := dyadicRingUptoRow, standIns := [], harness := (true, "54ac4c23ef5b469e1c5b6e945e924c4bea3515e3ff0223d19672349e85d92e25"), looks := false }, kinds := [], alts := [], laidByText := true, laidKinds := [.data], laidTests := true, laidLooks := .later }
def DyadicRingUptoCardSaid : Prop := Claim7.holds Tryd.pinned (.plain (OpenSpec.upto dyadicRingSpec)) dyadicRingUptoCard

/-- THE SECOND FORM's CARD OF 'vernierlaw04.DyadicTells'. -/
def dyadicTellsUptoCard : Claim7 := { stood := { row := dyadicTellsUptoRow, standIns := [], harness := (true, "54ac4c23ef5b469e1c5b6e945e924c4bea3515e3ff0223d19672349e85d92e25"), looks := false }, kinds := [], alts := [], laidByText := true, laidKinds := [.data], laidTests := true, laidLooks := .later }
def DyadicTellsUptoCardSaid : Prop := Claim7.holds Tryd.pinned (.plain (OpenSpec.upto dyadicTellsSpec)) dyadicTellsUptoCard

/-- THE SECOND FORM's CARD OF 'vernierlaw11.FfmaTells'. -/
def ffmaTellsUptoCard : Claim7 := { stood := { row := ffmaTellsUptoRow, standIns := [], harness := (true, "54ac4c23ef5b469e1c5b6e945e924c4bea3515e3ff0223d19672349e85d92e25"), looks := false }, kinds := [], alts := [], laidByText := true, laidKinds := [.data], laidTests := true, laidLooks := .later }
def FfmaTellsUptoCardSaid : Prop := Claim7.holds Tryd.pinned (.plain (OpenSpec.upto ffmaTellsSpec)) ffmaTellsUptoCard

/-- THE SECOND FORM's CARD OF 'vernierlaw11.FfmaParts'. -/
def ffmaPartsUptoCard : Claim7 := { stood := { row := ffmaPartsUptoRow, standIns := [], harness := (true, "54ac4c23ef5b469e1c5b6e945e924c4bea3515e3ff0223d19672349e85d92e25"), looks := false }, kinds := [], alts := [], laidByText := true, laidKinds := [.data], laidTests := true, laidLooks := .later }
def FfmaPartsUptoCardSaid : Prop := Claim7.holds Tryd.pinned (.plain (OpenSpec.upto ffmaPartsSpec)) ffmaPartsUptoCard

/-- THE SECOND FORM's CARD OF 'vernierlaw11.FfmaDots'. -/
def ffmaDotsUptoCard : Claim7 := { stood := { row := ffmaDotsUptoRow, standIns := [], harness := (true, "54ac4c23ef5b469e1c5b6e945e924c4bea3515e3ff0223d19672349e85d92e25"), looks := false }, kinds := [], alts := [], laidByText := true, laidKinds := [.data], laidTests := true, laidLooks := .later }
def FfmaDotsUptoCardSaid : Prop := Claim7.holds Tryd.pinned (.plain (OpenSpec.upto ffmaDotsSpec)) ffmaDotsUptoCard

/-- THE SECOND FORM's CARD OF 'vernierlaw13.FconvFrom'. -/
def fconvFromUptoCard : Claim7 := { stood := { row := fconvFromUptoRow, standIns := [], harness := (true, "54ac4c23ef5b469e1c5b6e945e924c4bea3515e3ff0223d19672349e85d92e25"), looks := false }, kinds := [], alts := [], laidByText := true, laidKinds := [.data], laidTests := true, laidLooks := .later }
def FconvFromUptoCardSaid : Prop := Claim7.holds Tryd.pinned (.plain (OpenSpec.upto fconvFromSpec)) fconvFromUptoCard

/-- THE SECOND FORM's CARD OF 'vernierlaw13.FconvBack'. -/
def fconvBackUptoCard : Claim7 := { stood := { row := fconvBackUptoRow, standIns := [], harness := (true, "54ac4c23ef5b469e1c5b6e945e924c4bea3515e3ff0223d19672349e85d92e25"), looks := false }, kinds := [], alts := [], laidByText := true, laidKinds := [.data], laidTests := true, laidLooks := .later }
def FconvBackUptoCardSaid : Prop := Claim7.holds Tryd.pinned (.plain (OpenSpec.upto fconvBackSpec)) fconvBackUptoCard

/-- THE SECOND FORM's CARD OF 'vernierlaw13.FconvScales'. -/
def fconvScalesUptoCard : Claim7 := { stood := { row := fconvScalesUptoRow, standIns := [], harness := (true, "54ac4c23ef5b469e1c5b6e945e924c4bea3515e3ff0223d19672349e85d92e25"), looks := false }, kinds := [], alts := [], laidByText := true, laidKinds := [.data], laidTests := true, laidLooks := .later }
def FconvScalesUptoCardSaid : Prop := Claim7.holds Tryd.pinned (.plain (OpenSpec.upto fconvScalesSpec)) fconvScalesUptoCard
end Rows
end Go.Proofs.YtjgdpjbkmcjbcaaDoor
