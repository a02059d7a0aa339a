/-
  DERIVED. GIVEN WITH THE SEED: THE CARDS: each row of YtbhnbnecaejjiaaDoorRows.lean that lists a variable, with what it lists TIED to the program's text (the seventh form; the later family's looks); each row that meets fmt, with fmt's text TOLD by the authors' own Lean function (tested against real Go, not proved from fmt's source: count such statements apart). THE CARD IS WHAT COUNTS. Prove the row's statement (the work); the ties are given (YtbhnbnecaejjiaaDoorTie.lean); close each card by the builder's one call (the guide's Derived/Test/ToyasCard.lean, 'card_holds'). Laid BY PROGRAM, IN A SANDBOX (cutbox-door.mjs). By AI agents, Wed Nov 11 2026. No macro, syntax, notation, axiom, sorry.
-/
import Derived.Test.YtbhnbnecaejjiaaDoorRows
import GoSem.ClaimSeven
namespace Go.Proofs.YtbhnbnecaejjiaaDoor
namespace Rows

/-- THE TIED CARD OF 'quadrillelaw13.ShuffleFull'. -/
def shuffleFullCard : Claim7 := { stood := { row := shuffleFullRow, standIns := [], harness := (true, "159500d8f53921207f8a94d76c36f16f18e500f3350336e687406a81b385dd96"), looks := true }, kinds := [], alts := [], laidByText := true, laidKinds := [.data], laidTests := true, laidLooks := .later }
def ShuffleFullCardSaid : Prop := Claim7.holds Tryd.pinned (.plain (OpenSpec.ofChange shuffleFullSpec)) shuffleFullCard

/-- THE TIED CARD OF 'quadrillelaw13.ShuffleAgain'. -/
def shuffleAgainCard : Claim7 := { stood := { row := shuffleAgainRow, standIns := [], harness := (true, "159500d8f53921207f8a94d76c36f16f18e500f3350336e687406a81b385dd96"), looks := true }, kinds := [], alts := [], laidByText := true, laidKinds := [.data], laidTests := true, laidLooks := .later }
def ShuffleAgainCardSaid : Prop := Claim7.holds Tryd.pinned (.plain (OpenSpec.ofChange shuffleAgainSpec)) shuffleAgainCard

/-- THE TIED CARD OF 'quadrillelaw13.ShufflePlays'. -/
def shufflePlaysCard : Claim7 := { stood := { row := shufflePlaysRow, standIns := [], harness := (true, "159500d8f53921207f8a94d76c36f16f18e500f3350336e687406a81b385dd96"), looks := true }, kinds := [], alts := [], laidByText := true, laidKinds := [.data], laidTests := true, laidLooks := .later }
def ShufflePlaysCardSaid : Prop := Claim7.holds Tryd.pinned (.plain (OpenSpec.ofChange shufflePlaysSpec)) shufflePlaysCard

/-- THE TIED CARD OF 'quadrillelaw13.ShuffleKeeps'. -/
def shuffleKeepsCard : Claim7 := { stood := { row := shuffleKeepsRow, standIns := [], harness := (true, "159500d8f53921207f8a94d76c36f16f18e500f3350336e687406a81b385dd96"), looks := true }, kinds := [], alts := [], laidByText := true, laidKinds := [.data], laidTests := true, laidLooks := .later }
def ShuffleKeepsCardSaid : Prop := Claim7.holds Tryd.pinned (.plain (OpenSpec.ofChange shuffleKeepsSpec)) shuffleKeepsCard

/-- THE TIED CARD OF 'quadrillelaw13.ShuffleMoves'. -/
def shuffleMovesCard : Claim7 := { stood := { row := shuffleMovesRow, standIns := [], harness := (true, "159500d8f53921207f8a94d76c36f16f18e500f3350336e687406a81b385dd96"), looks := true }, kinds := [], alts := [], laidByText := true, laidKinds := [.data], laidTests := true, laidLooks := .later }
def ShuffleMovesCardSaid : Prop := Claim7.holds Tryd.pinned (.plain (OpenSpec.ofChange shuffleMovesSpec)) shuffleMovesCard

/-- THE TIED CARD OF 'quadrillelaw15.VictimFree'. -/
def victimFreeCard : Claim7 := { stood := { row := victimFreeRow, standIns := [], harness := (true, "159500d8f53921207f8a94d76c36f16f18e500f3350336e687406a81b385dd96"), looks := true }, kinds := [], alts := [], laidByText := true, laidKinds := [.data], laidTests := true, laidLooks := .later }
def VictimFreeCardSaid : Prop := Claim7.holds Tryd.pinned (.plain (OpenSpec.ofChange victimFreeSpec)) victimFreeCard

/-- THE TIED CARD OF 'quadrillelaw15.VictimApart'. -/
def victimApartCard : Claim7 := { stood := { row := victimApartRow, standIns := [], harness := (true, "159500d8f53921207f8a94d76c36f16f18e500f3350336e687406a81b385dd96"), looks := true }, kinds := [], alts := [], laidByText := true, laidKinds := [.data], laidTests := true, laidLooks := .later }
def VictimApartCardSaid : Prop := Claim7.holds Tryd.pinned (.plain (OpenSpec.ofChange victimApartSpec)) victimApartCard

/-- THE TIED CARD OF 'quadrillelaw15.VictimPlays'. -/
def victimPlaysCard : Claim7 := { stood := { row := victimPlaysRow, standIns := [], harness := (true, "159500d8f53921207f8a94d76c36f16f18e500f3350336e687406a81b385dd96"), looks := true }, kinds := [], alts := [], laidByText := true, laidKinds := [.data], laidTests := true, laidLooks := .later }
def VictimPlaysCardSaid : Prop := Claim7.holds Tryd.pinned (.plain (OpenSpec.ofChange victimPlaysSpec)) victimPlaysCard

/-- THE TIED CARD OF 'quadrillelaw15.VictimFew'. -/
def victimFewCard : Claim7 := { stood := { row := victimFewRow, standIns := [], harness := (true, "159500d8f53921207f8a94d76c36f16f18e500f3350336e687406a81b385dd96"), looks := true }, kinds := [], alts := [], laidByText := true, laidKinds := [.data], laidTests := true, laidLooks := .later }
def VictimFewCardSaid : Prop := Claim7.holds Tryd.pinned (.plain (OpenSpec.ofChange victimFewSpec)) victimFewCard

/-- THE TIED CARD OF 'quadrillelaw15.VictimFair'. -/
def victimFairCard : Claim7 := { stood := { row := victimFairRow, standIns := [], harness := (true, "159500d8f53921207f8a94d76c36f16f18e500f3350336e687406a81b385dd96"), looks := true }, kinds := [], alts := [], laidByText := true, laidKinds := [.data], laidTests := true, laidLooks := .later }
def VictimFairCardSaid : Prop := Claim7.holds Tryd.pinned (.plain (OpenSpec.ofChange victimFairSpec)) victimFairCard

/-- THE SECOND FORM's CARD OF 'quadrillelaw13.ShuffleFull'. -/
def shuffleFullUptoCard : Claim7 := { stood := { row := shuffleFullUptoRow, standIns := [], harness := (true, "159500d8f53921207f8a94d76c36f16f18e500f3350336e687406a81b385dd96"), looks := true }, kinds := [], alts := [], laidByText := true, laidKinds := [.data], laidTests := true, laidLooks := .later }
def ShuffleFullUptoCardSaid : Prop := Claim7.holds Tryd.pinned (.plain (OpenSpec.upto shuffleFullSpec)) shuffleFullUptoCard

/-- THE SECOND FORM's CARD OF 'quadrillelaw13.ShuffleAgain'. -/
def shuffleAgainUptoCard : Claim7 := { stood := { row := shuffleAgainUptoRow, standIns := [], harness := (true, "159500d8f53921207f8a94d76c36f16f18e500f3350336e687406a81b385dd96"), looks := true }, kinds := [], alts := [], laidByText := true, laidKinds := [.data], laidTests := true, laidLooks := .later }
def ShuffleAgainUptoCardSaid : Prop := Claim7.holds Tryd.pinned (.plain (OpenSpec.upto shuffleAgainSpec)) shuffleAgainUptoCard

/-- THE SECOND FORM's CARD OF 'quadrillelaw13.ShufflePlays'. -/
def shufflePlaysUptoCard : Claim7 := { stood := { row := shufflePlaysUptoRow, standIns := [], harness := (true, "159500d8f53921207f8a94d76c36f16f18e500f3350336e687406a81b385dd96"), looks := true }, kinds := [], alts := [], laidByText := true, laidKinds := [.data], laidTests := true, laidLooks := .later }
def ShufflePlaysUptoCardSaid : Prop := Claim7.holds Tryd.pinned (.plain (OpenSpec.upto shufflePlaysSpec)) shufflePlaysUptoCard

/-- THE SECOND FORM's CARD OF 'quadrillelaw13.ShuffleKeeps'. -/
def shuffleKeepsUptoCard : Claim7 := { stood := { row := shuffleKeepsUptoRow, standIns := [], harness := (true, "159500d8f53921207f8a94d76c36f16f18e500f3350336e687406a81b385dd96"), looks := true }, kinds := [], alts := [], laidByText := true, laidKinds := [.data], laidTests := true, laidLooks := .later }
def ShuffleKeepsUptoCardSaid : Prop := Claim7.holds Tryd.pinned (.plain (OpenSpec.upto shuffleKeepsSpec)) shuffleKeepsUptoCard

/-- THE SECOND FORM's CARD OF 'quadrillelaw13.ShuffleMoves'. -/
def shuffleMovesUptoCard : Claim7 := { stood := { row := shuffleMovesUptoRow, standIns := [], harness := (true, "159500d8f53921207f8a94d76c36f16f18e500f3350336e687406a81b385dd96"), looks := true }, kinds := [], alts := [], laidByText := true, laidKinds := [.data], laidTests := true, laidLooks := .later }
def ShuffleMovesUptoCardSaid : Prop := Claim7.holds Tryd.pinned (.plain (OpenSpec.upto shuffleMovesSpec)) shuffleMovesUptoCard

/-- THE SECOND FORM's CARD OF 'quadrillelaw15.VictimFree'. -/
def victimFreeUptoCard : Claim7 := { stood := { row := victimFreeUptoRow, standIns := [], harness := (true, "159500d8f53921207f8a94d76c36f16f18e500f3350336e687406a81b385dd96"), looks := true }, kinds := [], alts := [], laidByText := true, laidKinds := [.data], laidTests := true, laidLooks := .later }
def VictimFreeUptoCardSaid : Prop := Claim7.holds Tryd.pinned (.plain (OpenSpec.upto victimFreeSpec)) victimFreeUptoCard

/-- THE SECOND FORM's CARD OF 'quadrillelaw15.VictimApart'. -/
def victimApartUptoCard : Claim7 := { stood := { row := victimApartUptoRow, standIns := [], harness := (true, "159500d8f53921207f8a94d76c36f16f18e500f3350336e687406a81b385dd96"), looks := true }, kinds := [], alts := [], laidByText := true, laidKinds := [.data], laidTests := true, laidLooks := .later }
def VictimApartUptoCardSaid : Prop := Claim7.holds Tryd.pinned (.plain (OpenSpec.upto victimApartSpec)) victimApartUptoCard

/-- THE SECOND FORM's CARD OF 'quadrillelaw15.VictimPlays'. -/
def victimPlaysUptoCard : Claim7 := { stood := { row := victimPlaysUptoRow, standIns := [], harness := (true, "159500d8f53921207f8a94d76c36f16f18e500f3350336e687406a81b385dd96"), looks := true }, kinds := [], alts := [], laidByText := true, laidKinds := [.data], laidTests := true, laidLooks := .later }
def VictimPlaysUptoCardSaid : Prop := Claim7.holds Tryd.pinned (.plain (OpenSpec.upto victimPlaysSpec)) victimPlaysUptoCard

/-- THE SECOND FORM's CARD OF 'quadrillelaw15.VictimFew'. -/
def victimFewUptoCard : Claim7 := { stood := { row := victimFewUptoRow, standIns := [], harness := (true, "159500d8f53921207f8a94d76c36f16f18e500f3350336e687406a81b385dd96"), looks := true }, kinds := [], alts := [], laidByText := true, laidKinds := [.data], laidTests := true, laidLooks := .later }
def VictimFewUptoCardSaid : Prop := Claim7.holds Tryd.pinned (.plain (OpenSpec.upto victimFewSpec)) victimFewUptoCard

/-- THE SECOND FORM's CARD OF 'quadrillelaw15.VictimFair'. -/
def victimFairUptoCard : Claim7 := { stood := { row := victimFairUptoRow, standIns := [], harness := (true, "159500d8f53921207f8a94d76c36f16f18e500f3350336e687406a81b385dd96"), looks := true }, kinds := [], alts := [], laidByText := true, laidKinds := [.data], laidTests := true, laidLooks := .later }
def VictimFairUptoCardSaid : Prop := Claim7.holds Tryd.pinned (.plain (OpenSpec.upto victimFairSpec)) victimFairUptoCard
end Rows
end Go.Proofs.YtbhnbnecaejjiaaDoor
