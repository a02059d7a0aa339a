/-
  DERIVED. GIVEN WITH THE SEED: THE CARDS: each row of YtmhdapbfpenjpaaDoorRows.lean that lists a variable, with what it lists TIED to the program's text (the seventh form; the later family's looks); each row that meets fmt, with fmt's text TOLD by the authors' own Lean function (tested against real Go, not proved from fmt's source: count such statements apart). THE CARD IS WHAT COUNTS. Prove the row's statement (the work); the ties are given (YtmhdapbfpenjpaaDoorTie.lean); close each card by the builder's one call (the guide's Derived/Test/ToyasCard.lean, 'card_holds'). Laid BY PROGRAM, IN A SANDBOX (cutbox-door.mjs). By AI agents, Wed Nov 11 2026. No macro, syntax, notation, axiom, sorry.
-/
import Derived.Test.YtmhdapbfpenjpaaDoorRows
import GoSem.ClaimSeven
namespace Go.Proofs.YtmhdapbfpenjpaaDoor
namespace Rows

/-- THE TIED CARD OF 'quadrillelaw15.VictimPlays'. -/
def victimPlaysCard : Claim7 := { stood := { row := victimPlaysRow, standIns := [], harness := (true, "21aec34ea999ad6b65f709c9daebdd010d0ae6c2425dde88f7cd8918f57ba87f"), looks := true }, kinds := [], alts := [], laidByText := true, laidKinds := [.data], laidTests := true, laidLooks := .later }
def VictimPlaysCardSaid : Prop := Claim7.holds Tryd.pinned (.plain (OpenSpec.ofChange victimPlaysSpec)) victimPlaysCard

/-- THE TIED CARD OF 'quadrillelaw15.VictimFair'. -/
def victimFairCard : Claim7 := { stood := { row := victimFairRow, standIns := [], harness := (true, "21aec34ea999ad6b65f709c9daebdd010d0ae6c2425dde88f7cd8918f57ba87f"), looks := true }, kinds := [], alts := [], laidByText := true, laidKinds := [.data], laidTests := true, laidLooks := .later }
def VictimFairCardSaid : Prop := Claim7.holds Tryd.pinned (.plain (OpenSpec.ofChange victimFairSpec)) victimFairCard

/-- THE TIED CARD OF 'quadrillelaw13.ShufflePlays'. -/
def shufflePlaysCard : Claim7 := { stood := { row := shufflePlaysRow, standIns := [], harness := (true, "21aec34ea999ad6b65f709c9daebdd010d0ae6c2425dde88f7cd8918f57ba87f"), looks := true }, kinds := [], alts := [], laidByText := true, laidKinds := [.data], laidTests := true, laidLooks := .later }
def ShufflePlaysCardSaid : Prop := Claim7.holds Tryd.pinned (.plain (OpenSpec.ofChange shufflePlaysSpec)) shufflePlaysCard

/-- THE TIED CARD OF 'quadrillelaw12.RowsFill'. -/
def rowsFillCard : Claim7 := { stood := { row := rowsFillRow, standIns := [], harness := (true, "21aec34ea999ad6b65f709c9daebdd010d0ae6c2425dde88f7cd8918f57ba87f"), looks := true }, kinds := [], alts := [], laidByText := true, laidKinds := [.data], laidTests := true, laidLooks := .later }
def RowsFillCardSaid : Prop := Claim7.holds Tryd.pinned (.plain (OpenSpec.ofChange rowsFillSpec)) rowsFillCard

/-- THE TIED CARD OF 'quadrillelaw12.RowsApart'. -/
def rowsApartCard : Claim7 := { stood := { row := rowsApartRow, standIns := [], harness := (true, "21aec34ea999ad6b65f709c9daebdd010d0ae6c2425dde88f7cd8918f57ba87f"), looks := true }, kinds := [], alts := [], laidByText := true, laidKinds := [.data], laidTests := true, laidLooks := .later }
def RowsApartCardSaid : Prop := Claim7.holds Tryd.pinned (.plain (OpenSpec.ofChange rowsApartSpec)) rowsApartCard

/-- THE TIED CARD OF 'quadrillelaw12.RowsFull'. -/
def rowsFullCard : Claim7 := { stood := { row := rowsFullRow, standIns := [], harness := (true, "21aec34ea999ad6b65f709c9daebdd010d0ae6c2425dde88f7cd8918f57ba87f"), looks := true }, kinds := [], alts := [], laidByText := true, laidKinds := [.data], laidTests := true, laidLooks := .later }
def RowsFullCardSaid : Prop := Claim7.holds Tryd.pinned (.plain (OpenSpec.ofChange rowsFullSpec)) rowsFullCard

/-- THE TIED CARD OF 'quadrillelaw12.RowsBack'. -/
def rowsBackCard : Claim7 := { stood := { row := rowsBackRow, standIns := [], harness := (true, "21aec34ea999ad6b65f709c9daebdd010d0ae6c2425dde88f7cd8918f57ba87f"), looks := true }, kinds := [], alts := [], laidByText := true, laidKinds := [.data], laidTests := true, laidLooks := .later }
def RowsBackCardSaid : Prop := Claim7.holds Tryd.pinned (.plain (OpenSpec.ofChange rowsBackSpec)) rowsBackCard

/-- THE TIED CARD OF 'quadrillelaw13.ShuffleKeeps'. -/
def shuffleKeepsCard : Claim7 := { stood := { row := shuffleKeepsRow, standIns := [], harness := (true, "21aec34ea999ad6b65f709c9daebdd010d0ae6c2425dde88f7cd8918f57ba87f"), looks := true }, kinds := [], alts := [], laidByText := true, laidKinds := [.data], laidTests := true, laidLooks := .later }
def ShuffleKeepsCardSaid : Prop := Claim7.holds Tryd.pinned (.plain (OpenSpec.ofChange shuffleKeepsSpec)) shuffleKeepsCard

/-- THE TIED CARD OF 'quadrillelaw13.ShuffleMoves'. -/
def shuffleMovesCard : Claim7 := { stood := { row := shuffleMovesRow, standIns := [], harness := (true, "21aec34ea999ad6b65f709c9daebdd010d0ae6c2425dde88f7cd8918f57ba87f"), looks := true }, kinds := [], alts := [], laidByText := true, laidKinds := [.data], laidTests := true, laidLooks := .later }
def ShuffleMovesCardSaid : Prop := Claim7.holds Tryd.pinned (.plain (OpenSpec.ofChange shuffleMovesSpec)) shuffleMovesCard

/-- THE TIED CARD OF 'quadrillelaw12.RowsPlays'. -/
def rowsPlaysCard : Claim7 := { stood := { row := rowsPlaysRow, standIns := [], harness := (true, "21aec34ea999ad6b65f709c9daebdd010d0ae6c2425dde88f7cd8918f57ba87f"), looks := true }, kinds := [], alts := [], laidByText := true, laidKinds := [.data], laidTests := true, laidLooks := .later }
def RowsPlaysCardSaid : Prop := Claim7.holds Tryd.pinned (.plain (OpenSpec.ofChange rowsPlaysSpec)) rowsPlaysCard

/-- THE SECOND FORM's CARD OF 'quadrillelaw15.VictimPlays'. -/
def victimPlaysUptoCard : Claim7 := { stood := { row := victimPlaysUptoRow, standIns := [], harness := (true, "21aec34ea999ad6b65f709c9daebdd010d0ae6c2425dde88f7cd8918f57ba87f"), looks := true }, kinds := [], alts := [], laidByText := true, laidKinds := [.data], laidTests := true, laidLooks := .later }
def VictimPlaysUptoCardSaid : Prop := Claim7.holds Tryd.pinned (.plain (OpenSpec.upto victimPlaysSpec)) victimPlaysUptoCard

/-- THE SECOND FORM's CARD OF 'quadrillelaw15.VictimFair'. -/
def victimFairUptoCard : Claim7 := { stood := { row := victimFairUptoRow, standIns := [], harness := (true, "21aec34ea999ad6b65f709c9daebdd010d0ae6c2425dde88f7cd8918f57ba87f"), looks := true }, kinds := [], alts := [], laidByText := true, laidKinds := [.data], laidTests := true, laidLooks := .later }
def VictimFairUptoCardSaid : Prop := Claim7.holds Tryd.pinned (.plain (OpenSpec.upto victimFairSpec)) victimFairUptoCard

/-- THE SECOND FORM's CARD OF 'quadrillelaw13.ShufflePlays'. -/
def shufflePlaysUptoCard : Claim7 := { stood := { row := shufflePlaysUptoRow, standIns := [], harness := (true, "21aec34ea999ad6b65f709c9daebdd010d0ae6c2425dde88f7cd8918f57ba87f"), looks := true }, kinds := [], alts := [], laidByText := true, laidKinds := [.data], laidTests := true, laidLooks := .later }
def ShufflePlaysUptoCardSaid : Prop := Claim7.holds Tryd.pinned (.plain (OpenSpec.upto shufflePlaysSpec)) shufflePlaysUptoCard

/-- THE SECOND FORM's CARD OF 'quadrillelaw12.RowsFill'. -/
def rowsFillUptoCard : Claim7 := { stood := { row := rowsFillUptoRow, standIns := [], harness := (true, "21aec34ea999ad6b65f709c9daebdd010d0ae6c2425dde88f7cd8918f57ba87f"), looks := true }, kinds := [], alts := [], laidByText := true, laidKinds := [.data], laidTests := true, laidLooks := .later }
def RowsFillUptoCardSaid : Prop := Claim7.holds Tryd.pinned (.plain (OpenSpec.upto rowsFillSpec)) rowsFillUptoCard

/-- THE SECOND FORM's CARD OF 'quadrillelaw12.RowsApart'. -/
def rowsApartUptoCard : Claim7 := { stood := { row := rowsApartUptoRow, standIns := [], harness := (true, "21aec34ea999ad6b65f709c9daebdd010d0ae6c2425dde88f7cd8918f57ba87f"), looks := true }, kinds := [], alts := [], laidByText := true, laidKinds := [.data], laidTests := true, laidLooks := .later }
def RowsApartUptoCardSaid : Prop := Claim7.holds Tryd.pinned (.plain (OpenSpec.upto rowsApartSpec)) rowsApartUptoCard

/-- THE SECOND FORM's CARD OF 'quadrillelaw12.RowsFull'. -/
def rowsFullUptoCard : Claim7 := { stood := { row := rowsFullUptoRow, standIns := [], harness := (true, "21aec34ea999ad6b65f709c9daebdd010d0ae6c2425dde88f7cd8918f57ba87f"), looks := true }, kinds := [], alts := [], laidByText := true, laidKinds := [.data], laidTests := true, laidLooks := .later }
def RowsFullUptoCardSaid : Prop := Claim7.holds Tryd.pinned (.plain (OpenSpec.upto rowsFullSpec)) rowsFullUptoCard

/-- THE SECOND FORM's CARD OF 'quadrillelaw12.RowsBack'. -/
def rowsBackUptoCard : Claim7 := { stood := { row := rowsBackUptoRow, standIns := [], harness := (true, "21aec34ea999ad6b65f709c9daebdd010d0ae6c2425dde88f7cd8918f57ba87f"), looks := true }, kinds := [], alts := [], laidByText := true, laidKinds := [.data], laidTests := true, laidLooks := .later }
def RowsBackUptoCardSaid : Prop := Claim7.holds Tryd.pinned (.plain (OpenSpec.upto rowsBackSpec)) rowsBackUptoCard

/-- THE SECOND FORM's CARD OF 'quadrillelaw13.ShuffleKeeps'. -/
def shuffleKeepsUptoCard : Claim7 := { stood := { row := shuffleKeepsUptoRow, standIns := [], harness := (true, "21aec34ea999ad6b65f709c9daebdd010d0ae6c2425dde88f7cd8918f57ba87f"), looks := true }, kinds := [], alts := [], laidByText := true, laidKinds := [.data], laidTests := true, laidLooks := .later }
def ShuffleKeepsUptoCardSaid : Prop := Claim7.holds Tryd.pinned (.plain (OpenSpec.upto shuffleKeepsSpec)) shuffleKeepsUptoCard

/-- THE SECOND FORM's CARD OF 'quadrillelaw13.ShuffleMoves'. -/
def shuffleMovesUptoCard : Claim7 := { stood := { row := shuffleMovesUptoRow, standIns := [], harness := (true, "21aec34ea999ad6b65f709c9daebdd010d0ae6c2425dde88f7cd8918f57ba87f"), looks := true }, kinds := [], alts := [], laidByText := true, laidKinds := [.data], laidTests := true, laidLooks := .later }
def ShuffleMovesUptoCardSaid : Prop := Claim7.holds Tryd.pinned (.plain (OpenSpec.upto shuffleMovesSpec)) shuffleMovesUptoCard

/-- THE SECOND FORM's CARD OF 'quadrillelaw12.RowsPlays'. -/
def rowsPlaysUptoCard : Claim7 := { stood := { row := rowsPlaysUptoRow, standIns := [], harness := (true, "21aec34ea999ad6b65f709c9daebdd010d0ae6c2425dde88f7cd8918f57ba87f"), looks := true }, kinds := [], alts := [], laidByText := true, laidKinds := [.data], laidTests := true, laidLooks := .later }
def RowsPlaysUptoCardSaid : Prop := Claim7.holds Tryd.pinned (.plain (OpenSpec.upto rowsPlaysSpec)) rowsPlaysUptoCard
end Rows
end Go.Proofs.YtmhdapbfpenjpaaDoor
