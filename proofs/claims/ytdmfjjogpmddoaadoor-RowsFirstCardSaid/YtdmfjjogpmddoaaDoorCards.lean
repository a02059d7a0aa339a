/-
  DERIVED. GIVEN WITH THE SEED: THE CARDS: each row of YtdmfjjogpmddoaaDoorRows.lean that lists a variable, with what it lists TIED to the program's text (the seventh form; the later family's looks); each row that meets fmt, with fmt's text TOLD by the authors' own Lean function (tested against real Go, not proved from fmt's source: count such statements apart). THE CARD IS WHAT COUNTS. Prove the row's statement (the work); the ties are given (YtdmfjjogpmddoaaDoorTie.lean); close each card by the builder's one call (the guide's Derived/Test/ToyasCard.lean, 'card_holds'). Laid BY PROGRAM, IN A SANDBOX (cutbox-door.mjs). By AI agents, Wed Nov 11 2026. No macro, syntax, notation, axiom, sorry.
-/
import Derived.Test.YtdmfjjogpmddoaaDoorRows
import GoSem.ClaimSeven
namespace Go.Proofs.YtdmfjjogpmddoaaDoor
namespace Rows

/-- THE TIED CARD OF 'quadrillelaw12.RowsRound'. -/
def rowsRoundCard : Claim7 := { stood := { row := rowsRoundRow, standIns := [], harness := (true, "86a1950679c6e302df567596b1ce70534988441a199adcc810f44d25cfbe767f"), looks := true }, kinds := [], alts := [], laidByText := true, laidKinds := [.data], laidTests := true, laidLooks := .later }
def RowsRoundCardSaid : Prop := Claim7.holds Tryd.pinned (.plain (OpenSpec.ofChange rowsRoundSpec)) rowsRoundCard

/-- THE TIED CARD OF 'quadrillelaw12.RowsFirst'. -/
def rowsFirstCard : Claim7 := { stood := { row := rowsFirstRow, standIns := [], harness := (true, "86a1950679c6e302df567596b1ce70534988441a199adcc810f44d25cfbe767f"), looks := true }, kinds := [], alts := [], laidByText := true, laidKinds := [.data], laidTests := true, laidLooks := .later }
def RowsFirstCardSaid : Prop := Claim7.holds Tryd.pinned (.plain (OpenSpec.ofChange rowsFirstSpec)) rowsFirstCard

/-- THE TIED CARD OF 'quadrillelaw12.RowsFill'. -/
def rowsFillCard : Claim7 := { stood := { row := rowsFillRow, standIns := [], harness := (true, "86a1950679c6e302df567596b1ce70534988441a199adcc810f44d25cfbe767f"), looks := true }, kinds := [], alts := [], laidByText := true, laidKinds := [.data], laidTests := true, laidLooks := .later }
def RowsFillCardSaid : Prop := Claim7.holds Tryd.pinned (.plain (OpenSpec.ofChange rowsFillSpec)) rowsFillCard

/-- THE TIED CARD OF 'quadrillelaw12.RowsApart'. -/
def rowsApartCard : Claim7 := { stood := { row := rowsApartRow, standIns := [], harness := (true, "86a1950679c6e302df567596b1ce70534988441a199adcc810f44d25cfbe767f"), looks := true }, kinds := [], alts := [], laidByText := true, laidKinds := [.data], laidTests := true, laidLooks := .later }
def RowsApartCardSaid : Prop := Claim7.holds Tryd.pinned (.plain (OpenSpec.ofChange rowsApartSpec)) rowsApartCard

/-- THE TIED CARD OF 'quadrillelaw12.RowsFull'. -/
def rowsFullCard : Claim7 := { stood := { row := rowsFullRow, standIns := [], harness := (true, "86a1950679c6e302df567596b1ce70534988441a199adcc810f44d25cfbe767f"), looks := true }, kinds := [], alts := [], laidByText := true, laidKinds := [.data], laidTests := true, laidLooks := .later }
def RowsFullCardSaid : Prop := Claim7.holds Tryd.pinned (.plain (OpenSpec.ofChange rowsFullSpec)) rowsFullCard

/-- THE TIED CARD OF 'quadrillelaw12.RowsBack'. -/
def rowsBackCard : Claim7 := { stood := { row := rowsBackRow, standIns := [], harness := (true, "86a1950679c6e302df567596b1ce70534988441a199adcc810f44d25cfbe767f"), looks := true }, kinds := [], alts := [], laidByText := true, laidKinds := [.data], laidTests := true, laidLooks := .later }
def RowsBackCardSaid : Prop := Claim7.holds Tryd.pinned (.plain (OpenSpec.ofChange rowsBackSpec)) rowsBackCard

/-- THE TIED CARD OF 'quadrillelaw12.RowsPlays'. -/
def rowsPlaysCard : Claim7 := { stood := { row := rowsPlaysRow, standIns := [], harness := (true, "86a1950679c6e302df567596b1ce70534988441a199adcc810f44d25cfbe767f"), looks := true }, kinds := [], alts := [], laidByText := true, laidKinds := [.data], laidTests := true, laidLooks := .later }
def RowsPlaysCardSaid : Prop := Claim7.holds Tryd.pinned (.plain (OpenSpec.ofChange rowsPlaysSpec)) rowsPlaysCard

/-- THE SECOND FORM's CARD OF 'quadrillelaw12.RowsRound'. -/
def rowsRoundUptoCard : Claim7 := { stood := { row := rowsRoundUptoRow, standIns := [], harness := (true, "86a1950679c6e302df567596b1ce70534988441a199adcc810f44d25cfbe767f"), looks := true }, kinds := [], alts := [], laidByText := true, laidKinds := [.data], laidTests := true, laidLooks := .later }
def RowsRoundUptoCardSaid : Prop := Claim7.holds Tryd.pinned (.plain (OpenSpec.upto rowsRoundSpec)) rowsRoundUptoCard

/-- THE SECOND FORM's CARD OF 'quadrillelaw12.RowsFirst'. -/
def rowsFirstUptoCard : Claim7 := { stood := { row := rowsFirstUptoRow, standIns := [], harness := (true, "86a1950679c6e302df567596b1ce70534988441a199adcc810f44d25cfbe767f"), looks := true }, kinds := [], alts := [], laidByText := true, laidKinds := [.data], laidTests := true, laidLooks := .later }
def RowsFirstUptoCardSaid : Prop := Claim7.holds Tryd.pinned (.plain (OpenSpec.upto rowsFirstSpec)) rowsFirstUptoCard

/-- THE SECOND FORM's CARD OF 'quadrillelaw12.RowsFill'. -/
def rowsFillUptoCard : Claim7 := { stood := { row := rowsFillUptoRow, standIns := [], harness := (true, "86a1950679c6e302df567596b1ce70534988441a199adcc810f44d25cfbe767f"), looks := true }, kinds := [], alts := [], laidByText := true, laidKinds := [.data], laidTests := true, laidLooks := .later }
def RowsFillUptoCardSaid : Prop := Claim7.holds Tryd.pinned (.plain (OpenSpec.upto rowsFillSpec)) rowsFillUptoCard

/-- THE SECOND FORM's CARD OF 'quadrillelaw12.RowsApart'. -/
def rowsApartUptoCard : Claim7 := { stood := { row := rowsApartUptoRow, standIns := [], harness := (true, "86a1950679c6e302df567596b1ce70534988441a199adcc810f44d25cfbe767f"), looks := true }, kinds := [], alts := [], laidByText := true, laidKinds := [.data], laidTests := true, laidLooks := .later }
def RowsApartUptoCardSaid : Prop := Claim7.holds Tryd.pinned (.plain (OpenSpec.upto rowsApartSpec)) rowsApartUptoCard

/-- THE SECOND FORM's CARD OF 'quadrillelaw12.RowsFull'. -/
def rowsFullUptoCard : Claim7 := { stood := { row := rowsFullUptoRow, standIns := [], harness := (true, "86a1950679c6e302df567596b1ce70534988441a199adcc810f44d25cfbe767f"), looks := true }, kinds := [], alts := [], laidByText := true, laidKinds := [.data], laidTests := true, laidLooks := .later }
def RowsFullUptoCardSaid : Prop := Claim7.holds Tryd.pinned (.plain (OpenSpec.upto rowsFullSpec)) rowsFullUptoCard

/-- THE SECOND FORM's CARD OF 'quadrillelaw12.RowsBack'. -/
def rowsBackUptoCard : Claim7 := { stood := { row := rowsBackUptoRow, standIns := [], harness := (true, "86a1950679c6e302df567596b1ce70534988441a199adcc810f44d25cfbe767f"), looks := true }, kinds := [], alts := [], laidByText := true, laidKinds := [.data], laidTests := true, laidLooks := .later }
def RowsBackUptoCardSaid : Prop := Claim7.holds Tryd.pinned (.plain (OpenSpec.upto rowsBackSpec)) rowsBackUptoCard

/-- THE SECOND FORM's CARD OF 'quadrillelaw12.RowsPlays'. -/
def rowsPlaysUptoCard : Claim7 := { stood := { row := rowsPlaysUptoRow, standIns := [], harness := (true, "86a1950679c6e302df567596b1ce70534988441a199adcc810f44d25cfbe767f"), looks := true }, kinds := [], alts := [], laidByText := true, laidKinds := [.data], laidTests := true, laidLooks := .later }
def RowsPlaysUptoCardSaid : Prop := Claim7.holds Tryd.pinned (.plain (OpenSpec.upto rowsPlaysSpec)) rowsPlaysUptoCard
end Rows
end Go.Proofs.YtdmfjjogpmddoaaDoor
