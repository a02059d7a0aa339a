/-
  DERIVED. GIVEN WITH THE SEED: THE CARDS: each row of YtdackcibfkkniaaGreatDoorRows.lean that lists a variable, with what it lists TIED to the program's text (the seventh form; the later family's looks); each row that meets fmt, with fmt's text TOLD by the authors' own Lean function (tested against real Go, not proved from fmt's source: count such statements apart). THE CARD IS WHAT COUNTS. Prove the row's statement (the work); the ties are given (YtdackcibfkkniaaGreatDoorTie.lean); close each card by the builder's one call (the guide's Derived/Test/ToyasCard.lean, 'card_holds'). Laid BY PROGRAM, IN A SANDBOX (cutbox-door.mjs). By AI agents, Wed Nov 11 2026. No macro, syntax, notation, axiom, sorry.
-/
import Derived.Test.YtdackcibfkkniaaGreatDoorRows
import GoSem.ClaimSeven
namespace Go.Proofs.YtdackcibfkkniaaGreatDoor
namespace Rows

/-- THE TIED CARD OF 'quadrillelaw19.BrainHold'. -/
def brainHoldCard : Claim7 := { stood := { row := brainHoldRow, standIns := [], harness := (true, "4872c1f8a3b510e83d0b533b5dde514eb1aba5b287cb337591b3ec3084a339dd"), looks := true }, kinds := [], alts := [], laidByText := true, laidKinds := [.data], laidTests := true, laidLooks := .later }
def BrainHoldCardSaid : Prop := Claim7.holds Tryz.pinned (.plain (OpenSpec.ofChange brainHoldSpec)) brainHoldCard

/-- THE TIED CARD OF 'quadrillelaw19.BrainCredit'. -/
def brainCreditCard : Claim7 := { stood := { row := brainCreditRow, standIns := [], harness := (true, "4872c1f8a3b510e83d0b533b5dde514eb1aba5b287cb337591b3ec3084a339dd"), looks := true }, kinds := [], alts := [], laidByText := true, laidKinds := [.data], laidTests := true, laidLooks := .later }
def BrainCreditCardSaid : Prop := Claim7.holds Tryz.pinned (.plain (OpenSpec.ofChange brainCreditSpec)) brainCreditCard

/-- THE TIED CARD OF 'quadrillelaw19.BrainGang'. -/
def brainGangCard : Claim7 := { stood := { row := brainGangRow, standIns := [], harness := (true, "4872c1f8a3b510e83d0b533b5dde514eb1aba5b287cb337591b3ec3084a339dd"), looks := true }, kinds := [], alts := [], laidByText := true, laidKinds := [.data], laidTests := true, laidLooks := .later }
def BrainGangCardSaid : Prop := Claim7.holds Tryz.pinned (.plain (OpenSpec.ofChange brainGangSpec)) brainGangCard

/-- THE TIED CARD OF 'quadrillelaw19.BrainKeeps'. -/
def brainKeepsCard : Claim7 := { stood := { row := brainKeepsRow, standIns := [], harness := (true, "4872c1f8a3b510e83d0b533b5dde514eb1aba5b287cb337591b3ec3084a339dd"), looks := true }, kinds := [], alts := [], laidByText := true, laidKinds := [.data], laidTests := true, laidLooks := .later }
def BrainKeepsCardSaid : Prop := Claim7.holds Tryz.pinned (.plain (OpenSpec.ofChange brainKeepsSpec)) brainKeepsCard

/-- THE TIED CARD OF 'quadrillelaw19.BrainEnds'. -/
def brainEndsCard : Claim7 := { stood := { row := brainEndsRow, standIns := [], harness := (true, "4872c1f8a3b510e83d0b533b5dde514eb1aba5b287cb337591b3ec3084a339dd"), looks := true }, kinds := [], alts := [], laidByText := true, laidKinds := [.data], laidTests := true, laidLooks := .later }
def BrainEndsCardSaid : Prop := Claim7.holds Tryz.pinned (.plain (OpenSpec.ofChange brainEndsSpec)) brainEndsCard

/-- THE TIED CARD OF 'quadrillelaw19.BrainErrs'. -/
def brainErrsCard : Claim7 := { stood := { row := brainErrsRow, standIns := [], harness := (true, "4872c1f8a3b510e83d0b533b5dde514eb1aba5b287cb337591b3ec3084a339dd"), looks := true }, kinds := [], alts := [], laidByText := true, laidKinds := [.data], laidTests := true, laidLooks := .later }
def BrainErrsCardSaid : Prop := Claim7.holds Tryz.pinned (.plain (OpenSpec.ofChange brainErrsSpec)) brainErrsCard

/-- THE SECOND FORM's CARD OF 'quadrillelaw19.BrainHold'. -/
def brainHoldUptoCard : Claim7 := { stood := { row := brainHoldUptoRow, standIns := [], harness := (true, "4872c1f8a3b510e83d0b533b5dde514eb1aba5b287cb337591b3ec3084a339dd"), looks := true }, kinds := [], alts := [], laidByText := true, laidKinds := [.data], laidTests := true, laidLooks := .later }
def BrainHoldUptoCardSaid : Prop := Claim7.holds Tryz.pinned (.plain (OpenSpec.upto brainHoldSpec)) brainHoldUptoCard

/-- THE SECOND FORM's CARD OF 'quadrillelaw19.BrainCredit'. -/
def brainCreditUptoCard : Claim7 := { stood := { row := brainCreditUptoRow, standIns := [], harness := (true, "4872c1f8a3b510e83d0b533b5dde514eb1aba5b287cb337591b3ec3084a339dd"), looks := true }, kinds := [], alts := [], laidByText := true, laidKinds := [.data], laidTests := true, laidLooks := .later }
def BrainCreditUptoCardSaid : Prop := Claim7.holds Tryz.pinned (.plain (OpenSpec.upto brainCreditSpec)) brainCreditUptoCard

/-- THE SECOND FORM's CARD OF 'quadrillelaw19.BrainGang'. -/
def brainGangUptoCard : Claim7 := { stood := { row := brainGangUptoRow, standIns := [], harness := (true, "4872c1f8a3b510e83d0b533b5dde514eb1aba5b287cb337591b3ec3084a339dd"), looks := true }, kinds := [], alts := [], laidByText := true, laidKinds := [.data], laidTests := true, laidLooks := .later }
def BrainGangUptoCardSaid : Prop := Claim7.holds Tryz.pinned (.plain (OpenSpec.upto brainGangSpec)) brainGangUptoCard

/-- THE SECOND FORM's CARD OF 'quadrillelaw19.BrainKeeps'. -/
def brainKeepsUptoCard : Claim7 := { stood := { row := brainKeepsUptoRow, standIns := [], harness := (true, "4872c1f8a3b510e83d0b533b5dde514eb1aba5b287cb337591b3ec3084a339dd"), looks := true }, kinds := [], alts := [], laidByText := true, laidKinds := [.data], laidTests := true, laidLooks := .later }
def BrainKeepsUptoCardSaid : Prop := Claim7.holds Tryz.pinned (.plain (OpenSpec.upto brainKeepsSpec)) brainKeepsUptoCard

/-- THE SECOND FORM's CARD OF 'quadrillelaw19.BrainEnds'. -/
def brainEndsUptoCard : Claim7 := { stood := { row := brainEndsUptoRow, standIns := [], harness := (true, "4872c1f8a3b510e83d0b533b5dde514eb1aba5b287cb337591b3ec3084a339dd"), looks := true }, kinds := [], alts := [], laidByText := true, laidKinds := [.data], laidTests := true, laidLooks := .later }
def BrainEndsUptoCardSaid : Prop := Claim7.holds Tryz.pinned (.plain (OpenSpec.upto brainEndsSpec)) brainEndsUptoCard

/-- THE SECOND FORM's CARD OF 'quadrillelaw19.BrainErrs'. -/
def brainErrsUptoCard : Claim7 := { stood := { row := brainErrsUptoRow, standIns := [], harness := (true, "4872c1f8a3b510e83d0b533b5dde514eb1aba5b287cb337591b3ec3084a339dd"), looks := true }, kinds := [], alts := [], laidByText := true, laidKinds := [.data], laidTests := true, laidLooks := .later }
def BrainErrsUptoCardSaid : Prop := Claim7.holds Tryz.pinned (.plain (OpenSpec.upto brainErrsSpec)) brainErrsUptoCard
end Rows
end Go.Proofs.YtdackcibfkkniaaGreatDoor
