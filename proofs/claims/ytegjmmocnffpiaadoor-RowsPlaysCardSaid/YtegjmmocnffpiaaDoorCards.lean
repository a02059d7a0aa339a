/-
  DERIVED. GIVEN WITH THE SEED: THE CARDS: each row of YtegjmmocnffpiaaDoorRows.lean that lists a variable, with what it lists TIED to the program's text (the seventh form; the later family's looks); each row that meets fmt, with fmt's text TOLD by the authors' own Lean function (tested against real Go, not proved from fmt's source: count such statements apart). THE CARD IS WHAT COUNTS. Prove the row's statement (the work); the ties are given (YtegjmmocnffpiaaDoorTie.lean); close each card by the builder's one call (the guide's Derived/Test/ToyasCard.lean, 'card_holds'). Laid BY PROGRAM, IN A SANDBOX (cutbox-door.mjs). By AI agents, Wed Nov 11 2026. No macro, syntax, notation, axiom, sorry.
-/
import Derived.Test.YtegjmmocnffpiaaDoorRows
import GoSem.ClaimSeven
namespace Go.Proofs.YtegjmmocnffpiaaDoor
namespace Rows

/-- THE TIED CARD OF 'quadrillelaw15.VictimPlays'. -/
def victimPlaysCard : Claim7 := { stood := { row := victimPlaysRow, standIns := [], harness := (true, "d82cf9a8b09ce163cf9661778cc21f6eeb0c8c5bd78b509f1c907566ac05aee4"), looks := true }, kinds := [], alts := [], laidByText := true, laidKinds := [.data], laidTests := true, laidLooks := .later }
def VictimPlaysCardSaid : Prop := Claim7.holds Tryd.pinned (.plain (OpenSpec.ofChange victimPlaysSpec)) victimPlaysCard

/-- THE TIED CARD OF 'quadrillelaw13.ShufflePlays'. -/
def shufflePlaysCard : Claim7 := { stood := { row := shufflePlaysRow, standIns := [], harness := (true, "d82cf9a8b09ce163cf9661778cc21f6eeb0c8c5bd78b509f1c907566ac05aee4"), looks := true }, kinds := [], alts := [], laidByText := true, laidKinds := [.data], laidTests := true, laidLooks := .later }
def ShufflePlaysCardSaid : Prop := Claim7.holds Tryd.pinned (.plain (OpenSpec.ofChange shufflePlaysSpec)) shufflePlaysCard

/-- THE TIED CARD OF 'quadrillelaw12.RowsPlays'. -/
def rowsPlaysCard : Claim7 := { stood := { row := rowsPlaysRow, standIns := [], harness := (true, "d82cf9a8b09ce163cf9661778cc21f6eeb0c8c5bd78b509f1c907566ac05aee4"), looks := true }, kinds := [], alts := [], laidByText := true, laidKinds := [.data], laidTests := true, laidLooks := .later }
def RowsPlaysCardSaid : Prop := Claim7.holds Tryd.pinned (.plain (OpenSpec.ofChange rowsPlaysSpec)) rowsPlaysCard

/-- THE SECOND FORM's CARD OF 'quadrillelaw15.VictimPlays'. -/
def victimPlaysUptoCard : Claim7 := { stood := { row := victimPlaysUptoRow, standIns := [], harness := (true, "d82cf9a8b09ce163cf9661778cc21f6eeb0c8c5bd78b509f1c907566ac05aee4"), looks := true }, kinds := [], alts := [], laidByText := true, laidKinds := [.data], laidTests := true, laidLooks := .later }
def VictimPlaysUptoCardSaid : Prop := Claim7.holds Tryd.pinned (.plain (OpenSpec.upto victimPlaysSpec)) victimPlaysUptoCard

/-- THE SECOND FORM's CARD OF 'quadrillelaw13.ShufflePlays'. -/
def shufflePlaysUptoCard : Claim7 := { stood := { row := shufflePlaysUptoRow, standIns := [], harness := (true, "d82cf9a8b09ce163cf9661778cc21f6eeb0c8c5bd78b509f1c907566ac05aee4"), looks := true }, kinds := [], alts := [], laidByText := true, laidKinds := [.data], laidTests := true, laidLooks := .later }
def ShufflePlaysUptoCardSaid : Prop := Claim7.holds Tryd.pinned (.plain (OpenSpec.upto shufflePlaysSpec)) shufflePlaysUptoCard

/-- THE SECOND FORM's CARD OF 'quadrillelaw12.RowsPlays'. -/
def rowsPlaysUptoCard : Claim7 := { stood := { row := rowsPlaysUptoRow, standIns := [], harness := (true, "d82cf9a8b09ce163cf9661778cc21f6eeb0c8c5bd78b509f1c907566ac05aee4"), looks := true }, kinds := [], alts := [], laidByText := true, laidKinds := [.data], laidTests := true, laidLooks := .later }
def RowsPlaysUptoCardSaid : Prop := Claim7.holds Tryd.pinned (.plain (OpenSpec.upto rowsPlaysSpec)) rowsPlaysUptoCard
end Rows
end Go.Proofs.YtegjmmocnffpiaaDoor
