/-
  NARROWER THAN 'FOR EVERY INPUT', by the rows' own cells (each row's printed sentence says how): BrainHold: laid · BrainCredit: laid · BrainGang: laid · BrainKeeps: laid · BrainEnds: laid · BrainErrs: laid.
  DERIVED. THE GIVEN ROWS OF THIS SEAT. 6 by the template 'for every input the law returns true; each argument reads behind the call as it read before'; 0 by the template 'total and deterministic' (their statements: YtdackcibfkkniaaGreatDoorTotals.lean).
  GIVEN WITH THE SEED: the statements are not yours to turn. If you find one false, say at which input.
  Laid BY PROGRAM, IN A SANDBOX (cutbox-rows.mjs): the forced cells as the released guide's own fill.sh prints them over the translation 9febfa4b410b517b… (all of the seat's roots in one cut). By AI agents, Wed Nov 11 2026. No macro, syntax, notation, axiom, sorry.
-/
import Derived.Test.YtdackcibfkkniaaGreatDoorChecked
import GoSem.Claim
import GoSem.ClaimJoined
import GoSem.ClaimMapViews
import Derived.JoinedTies
import Derived.KernelRfl
namespace Go.Proofs.YtdackcibfkkniaaGreatDoor
/- THE CELL 'sum', in the pinned program and in every row, IS THE sha256 OF THE DUMP (.gsa) THAT YtdackcibfkkniaaGreatDoorProg.lean LOADS. Nothing in Lean hashes anything: it is a label: what it is worth is what the hold of that sum in a sandbox is worth. -/
noncomputable def Tryz.pinned : Pinned := { name := "ytdackcibfkkniaagreatdoor", sum := "9febfa4b410b517bf08a10cade63895de5ebb5aae39069efac2586e1bfcf297b", checked := Tryz.checked }
namespace Rows
def none {H : Type} : Left H := { results := [], args := [] }

/- WHAT THE LISTED PACKAGE-LEVEL VARIABLES READ AS WHEN THE CALL BEGINS. Each datum BY PROGRAM (the guide's laid-datum.mjs) off the statement by which the dump's own 'gosem.cut.vars' lays the variable. In a bare row this is a premise. The card (YtdackcibfkkniaaGreatDoorCards.lean) ties it to the program's text. -/
def laid_math_bits_deBruijn32tab {H : Type} : DataW H := .agg [.lit (.int .u8 0), .lit (.int .u8 1), .lit (.int .u8 28), .lit (.int .u8 2), .lit (.int .u8 29), .lit (.int .u8 14), .lit (.int .u8 24), .lit (.int .u8 3), .lit (.int .u8 30), .lit (.int .u8 22), .lit (.int .u8 20), .lit (.int .u8 15), .lit (.int .u8 25), .lit (.int .u8 17), .lit (.int .u8 4), .lit (.int .u8 8), .lit (.int .u8 31), .lit (.int .u8 27), .lit (.int .u8 13), .lit (.int .u8 23), .lit (.int .u8 21), .lit (.int .u8 19), .lit (.int .u8 16), .lit (.int .u8 7), .lit (.int .u8 26), .lit (.int .u8 12), .lit (.int .u8 18), .lit (.int .u8 6), .lit (.int .u8 11), .lit (.int .u8 5), .lit (.int .u8 10), .lit (.int .u8 9)]

/-- 'quadrillelaw19.BrainHold': WHATEVER THE INPUT: true; the input reads as it did. -/
def brainHoldSpec : ChangeSpec := { name := "brainHold", fn := fun _ => fun
  | [d1, d2, d3, d4, d5] => { results := [.lit (.bool true)], args := [d1, d2, d3, d4, d5] }
  | _ => none }
def brainHoldRow : OpenClaim := { program := "ytdackcibfkkniaagreatdoor", sum := "9febfa4b410b517bf08a10cade63895de5ebb5aae39069efac2586e1bfcf297b", func := "quadrille/quadrillelaw19.BrainHold", spec := "brainHold", inPlace := ["maps.clone"], unfollowed := true, recurses := true, named := ["math/bits.deBruijn32tab"], apart := false, laid := [("math/bits.deBruijn32tab", laid_math_bits_deBruijn32tab)] }
def BrainHoldSaid : Prop := brainHoldRow.holds Tryz.pinned (OpenSpec.ofChange brainHoldSpec)

/-- ITS FALSE NEIGHBOUR: 'it returns false'. Refute it at one input. -/
def brainHoldWrong : ChangeSpec := { name := "brainHold", fn := fun _ => fun
  | [d1, d2, d3, d4, d5] => { results := [.lit (.bool false)], args := [d1, d2, d3, d4, d5] }
  | _ => none }
def BrainHoldWrongFalsely : Prop := brainHoldRow.holds Tryz.pinned (OpenSpec.ofChange brainHoldWrong)

/-- 'quadrillelaw19.BrainCredit': WHATEVER THE INPUT: true; the input reads as it did. -/
def brainCreditSpec : ChangeSpec := { name := "brainCredit", fn := fun _ => fun
  | [d1, d2, d3, d4, d5] => { results := [.lit (.bool true)], args := [d1, d2, d3, d4, d5] }
  | _ => none }
def brainCreditRow : OpenClaim := { program := "ytdackcibfkkniaagreatdoor", sum := "9febfa4b410b517bf08a10cade63895de5ebb5aae39069efac2586e1bfcf297b", func := "quadrille/quadrillelaw19.BrainCredit", spec := "brainCredit", inPlace := ["maps.clone"], unfollowed := true, recurses := true, named := ["math/bits.deBruijn32tab"], apart := false, laid := [("math/bits.deBruijn32tab", laid_math_bits_deBruijn32tab)] }
def BrainCreditSaid : Prop := brainCreditRow.holds Tryz.pinned (OpenSpec.ofChange brainCreditSpec)

/-- ITS FALSE NEIGHBOUR: 'it returns false'. Refute it at one input. -/
def brainCreditWrong : ChangeSpec := { name := "brainCredit", fn := fun _ => fun
  | [d1, d2, d3, d4, d5] => { results := [.lit (.bool false)], args := [d1, d2, d3, d4, d5] }
  | _ => none }
def BrainCreditWrongFalsely : Prop := brainCreditRow.holds Tryz.pinned (OpenSpec.ofChange brainCreditWrong)

/-- 'quadrillelaw19.BrainGang': WHATEVER THE INPUT: true; the input reads as it did. -/
def brainGangSpec : ChangeSpec := { name := "brainGang", fn := fun _ => fun
  | [d1, d2, d3, d4, d5] => { results := [.lit (.bool true)], args := [d1, d2, d3, d4, d5] }
  | _ => none }
def brainGangRow : OpenClaim := { program := "ytdackcibfkkniaagreatdoor", sum := "9febfa4b410b517bf08a10cade63895de5ebb5aae39069efac2586e1bfcf297b", func := "quadrille/quadrillelaw19.BrainGang", spec := "brainGang", inPlace := ["maps.clone"], unfollowed := true, recurses := true, named := ["math/bits.deBruijn32tab"], apart := false, laid := [("math/bits.deBruijn32tab", laid_math_bits_deBruijn32tab)] }
def BrainGangSaid : Prop := brainGangRow.holds Tryz.pinned (OpenSpec.ofChange brainGangSpec)

/-- ITS FALSE NEIGHBOUR: 'it returns false'. Refute it at one input. -/
def brainGangWrong : ChangeSpec := { name := "brainGang", fn := fun _ => fun
  | [d1, d2, d3, d4, d5] => { results := [.lit (.bool false)], args := [d1, d2, d3, d4, d5] }
  | _ => none }
def BrainGangWrongFalsely : Prop := brainGangRow.holds Tryz.pinned (OpenSpec.ofChange brainGangWrong)

/-- 'quadrillelaw19.BrainKeeps': WHATEVER THE INPUT: true; the input reads as it did. -/
def brainKeepsSpec : ChangeSpec := { name := "brainKeeps", fn := fun _ => fun
  | [d1, d2, d3, d4, d5] => { results := [.lit (.bool true)], args := [d1, d2, d3, d4, d5] }
  | _ => none }
def brainKeepsRow : OpenClaim := { program := "ytdackcibfkkniaagreatdoor", sum := "9febfa4b410b517bf08a10cade63895de5ebb5aae39069efac2586e1bfcf297b", func := "quadrille/quadrillelaw19.BrainKeeps", spec := "brainKeeps", inPlace := ["maps.clone"], unfollowed := true, recurses := true, named := ["math/bits.deBruijn32tab"], apart := false, laid := [("math/bits.deBruijn32tab", laid_math_bits_deBruijn32tab)] }
def BrainKeepsSaid : Prop := brainKeepsRow.holds Tryz.pinned (OpenSpec.ofChange brainKeepsSpec)

/-- ITS FALSE NEIGHBOUR: 'it returns false'. Refute it at one input. -/
def brainKeepsWrong : ChangeSpec := { name := "brainKeeps", fn := fun _ => fun
  | [d1, d2, d3, d4, d5] => { results := [.lit (.bool false)], args := [d1, d2, d3, d4, d5] }
  | _ => none }
def BrainKeepsWrongFalsely : Prop := brainKeepsRow.holds Tryz.pinned (OpenSpec.ofChange brainKeepsWrong)

/-- 'quadrillelaw19.BrainEnds': WHATEVER THE INPUT: true; the input reads as it did. -/
def brainEndsSpec : ChangeSpec := { name := "brainEnds", fn := fun _ => fun
  | [d1, d2, d3, d4, d5] => { results := [.lit (.bool true)], args := [d1, d2, d3, d4, d5] }
  | _ => none }
def brainEndsRow : OpenClaim := { program := "ytdackcibfkkniaagreatdoor", sum := "9febfa4b410b517bf08a10cade63895de5ebb5aae39069efac2586e1bfcf297b", func := "quadrille/quadrillelaw19.BrainEnds", spec := "brainEnds", inPlace := ["maps.clone"], unfollowed := true, recurses := true, named := ["math/bits.deBruijn32tab"], apart := false, laid := [("math/bits.deBruijn32tab", laid_math_bits_deBruijn32tab)] }
def BrainEndsSaid : Prop := brainEndsRow.holds Tryz.pinned (OpenSpec.ofChange brainEndsSpec)

/-- ITS FALSE NEIGHBOUR: 'it returns false'. Refute it at one input. -/
def brainEndsWrong : ChangeSpec := { name := "brainEnds", fn := fun _ => fun
  | [d1, d2, d3, d4, d5] => { results := [.lit (.bool false)], args := [d1, d2, d3, d4, d5] }
  | _ => none }
def BrainEndsWrongFalsely : Prop := brainEndsRow.holds Tryz.pinned (OpenSpec.ofChange brainEndsWrong)

/-- 'quadrillelaw19.BrainErrs': WHATEVER THE INPUT: true; the input reads as it did. -/
def brainErrsSpec : ChangeSpec := { name := "brainErrs", fn := fun _ => fun
  | [d1, d2, d3, d4, d5] => { results := [.lit (.bool true)], args := [d1, d2, d3, d4, d5] }
  | _ => none }
def brainErrsRow : OpenClaim := { program := "ytdackcibfkkniaagreatdoor", sum := "9febfa4b410b517bf08a10cade63895de5ebb5aae39069efac2586e1bfcf297b", func := "quadrille/quadrillelaw19.BrainErrs", spec := "brainErrs", inPlace := ["maps.clone"], unfollowed := true, recurses := true, named := ["math/bits.deBruijn32tab"], apart := false, laid := [("math/bits.deBruijn32tab", laid_math_bits_deBruijn32tab)] }
def BrainErrsSaid : Prop := brainErrsRow.holds Tryz.pinned (OpenSpec.ofChange brainErrsSpec)

/-- ITS FALSE NEIGHBOUR: 'it returns false'. Refute it at one input. -/
def brainErrsWrong : ChangeSpec := { name := "brainErrs", fn := fun _ => fun
  | [d1, d2, d3, d4, d5] => { results := [.lit (.bool false)], args := [d1, d2, d3, d4, d5] }
  | _ => none }
def BrainErrsWrongFalsely : Prop := brainErrsRow.holds Tryz.pinned (OpenSpec.ofChange brainErrsWrong)

/- THE SECOND FORM. 'bulk': how many values and letters a reading holds, each counted each time it is reached (what is shared counts as often as it is met; a slice's spare places count too). A statement '..UptoSaid' is the law's where the arguments, and the package variables that the reading takes, are together of bulk at most 1048576: NARROWER than '..Said'. Prove '..Said' where nothing that the law and all that it calls make is longer than what came in: it says more and counts as full. Else prove '..UptoSaid'. A law counts once. -/
mutual
def uptoBulk {H : Type} : DataW H → Nat
  | .lit (.string bytes) => bytes.length + 1
  | .lit _ => 1
  | .nil => 1
  | .ptr d => uptoBulk d + 1
  | .slice elems spare => uptoBulkAll elems + uptoBulkAll spare + 1
  | .agg parts => uptoBulkAll parts + 1
  | .iface _ d => uptoBulk d + 1
  | .map entries => uptoBulkEntries entries + 1
  | .held _ => 1
def uptoBulkAll {H : Type} : List (DataW H) → Nat
  | [] => 0
  | d :: r => uptoBulk d + uptoBulkAll r
def uptoBulkEntries {H : Type} : List (Lit × DataW H) → Nat
  | [] => 0
  | x :: r => uptoBulkEntry x + uptoBulkEntries r
def uptoBulkEntry {H : Type} : Lit × DataW H → Nat
  | (.string bytes, d) => bytes.length + uptoBulk d + 1
  | (_, d) => uptoBulk d + 1
 end
def uptoSmall : (H : Type) → List (DataW H) → Bool := fun _ ds => decide (uptoBulkAll ds ≤ 1048576)
def OpenSpec.upto (s : _root_.Go.ChangeSpec) : _root_.Go.OpenSpec := { _root_.Go.OpenSpec.ofChange s with cond := some uptoSmall }

/-- 'quadrillelaw19.BrainHold', WHERE WHAT IT READS IS OF BULK AT MOST 1048576: true; the input reads as it did. -/
def brainHoldUptoRow : OpenClaim := { program := "ytdackcibfkkniaagreatdoor", sum := "9febfa4b410b517bf08a10cade63895de5ebb5aae39069efac2586e1bfcf297b", func := "quadrille/quadrillelaw19.BrainHold", spec := "brainHold", inPlace := ["maps.clone"], unfollowed := true, recurses := true, named := ["math/bits.deBruijn32tab"], apart := false, laid := [("math/bits.deBruijn32tab", laid_math_bits_deBruijn32tab)], narrowed := true }
def BrainHoldUptoSaid : Prop := brainHoldUptoRow.holds Tryz.pinned (OpenSpec.upto brainHoldSpec)

/-- 'quadrillelaw19.BrainCredit', WHERE WHAT IT READS IS OF BULK AT MOST 1048576: true; the input reads as it did. -/
def brainCreditUptoRow : OpenClaim := { program := "ytdackcibfkkniaagreatdoor", sum := "9febfa4b410b517bf08a10cade63895de5ebb5aae39069efac2586e1bfcf297b", func := "quadrille/quadrillelaw19.BrainCredit", spec := "brainCredit", inPlace := ["maps.clone"], unfollowed := true, recurses := true, named := ["math/bits.deBruijn32tab"], apart := false, laid := [("math/bits.deBruijn32tab", laid_math_bits_deBruijn32tab)], narrowed := true }
def BrainCreditUptoSaid : Prop := brainCreditUptoRow.holds Tryz.pinned (OpenSpec.upto brainCreditSpec)

/-- 'quadrillelaw19.BrainGang', WHERE WHAT IT READS IS OF BULK AT MOST 1048576: true; the input reads as it did. -/
def brainGangUptoRow : OpenClaim := { program := "ytdackcibfkkniaagreatdoor", sum := "9febfa4b410b517bf08a10cade63895de5ebb5aae39069efac2586e1bfcf297b", func := "quadrille/quadrillelaw19.BrainGang", spec := "brainGang", inPlace := ["maps.clone"], unfollowed := true, recurses := true, named := ["math/bits.deBruijn32tab"], apart := false, laid := [("math/bits.deBruijn32tab", laid_math_bits_deBruijn32tab)], narrowed := true }
def BrainGangUptoSaid : Prop := brainGangUptoRow.holds Tryz.pinned (OpenSpec.upto brainGangSpec)

/-- 'quadrillelaw19.BrainKeeps', WHERE WHAT IT READS IS OF BULK AT MOST 1048576: true; the input reads as it did. -/
def brainKeepsUptoRow : OpenClaim := { program := "ytdackcibfkkniaagreatdoor", sum := "9febfa4b410b517bf08a10cade63895de5ebb5aae39069efac2586e1bfcf297b", func := "quadrille/quadrillelaw19.BrainKeeps", spec := "brainKeeps", inPlace := ["maps.clone"], unfollowed := true, recurses := true, named := ["math/bits.deBruijn32tab"], apart := false, laid := [("math/bits.deBruijn32tab", laid_math_bits_deBruijn32tab)], narrowed := true }
def BrainKeepsUptoSaid : Prop := brainKeepsUptoRow.holds Tryz.pinned (OpenSpec.upto brainKeepsSpec)

/-- 'quadrillelaw19.BrainEnds', WHERE WHAT IT READS IS OF BULK AT MOST 1048576: true; the input reads as it did. -/
def brainEndsUptoRow : OpenClaim := { program := "ytdackcibfkkniaagreatdoor", sum := "9febfa4b410b517bf08a10cade63895de5ebb5aae39069efac2586e1bfcf297b", func := "quadrille/quadrillelaw19.BrainEnds", spec := "brainEnds", inPlace := ["maps.clone"], unfollowed := true, recurses := true, named := ["math/bits.deBruijn32tab"], apart := false, laid := [("math/bits.deBruijn32tab", laid_math_bits_deBruijn32tab)], narrowed := true }
def BrainEndsUptoSaid : Prop := brainEndsUptoRow.holds Tryz.pinned (OpenSpec.upto brainEndsSpec)

/-- 'quadrillelaw19.BrainErrs', WHERE WHAT IT READS IS OF BULK AT MOST 1048576: true; the input reads as it did. -/
def brainErrsUptoRow : OpenClaim := { program := "ytdackcibfkkniaagreatdoor", sum := "9febfa4b410b517bf08a10cade63895de5ebb5aae39069efac2586e1bfcf297b", func := "quadrille/quadrillelaw19.BrainErrs", spec := "brainErrs", inPlace := ["maps.clone"], unfollowed := true, recurses := true, named := ["math/bits.deBruijn32tab"], apart := false, laid := [("math/bits.deBruijn32tab", laid_math_bits_deBruijn32tab)], narrowed := true }
def BrainErrsUptoSaid : Prop := brainErrsUptoRow.holds Tryz.pinned (OpenSpec.upto brainErrsSpec)

end Rows
end Go.Proofs.YtdackcibfkkniaaGreatDoor
