/-
  NARROWER THAN 'FOR EVERY INPUT', by the rows' own cells (each row's printed sentence says how): VictimPlays: laid · ShufflePlays: laid · RowsPlays: laid.
  DERIVED. THE GIVEN ROWS OF THIS SEAT. 3 by the template 'for every input the law returns true; each argument reads behind the call as it read before'; 0 by the template 'total and deterministic' (their statements: YtegjmmocnffpiaaDoorTotals.lean).
  GIVEN WITH THE SEED: the statements are not yours to turn. If you find one false, say at which input.
  Laid BY PROGRAM, IN A SANDBOX (cutbox-rows.mjs): the forced cells as the released guide's own fill.sh prints them over the translation f4bb51f6a379b073… (all of the seat's roots in one cut). By AI agents, Wed Nov 11 2026. No macro, syntax, notation, axiom, sorry.
-/
import Derived.Test.YtegjmmocnffpiaaDoorChecked
import GoSem.Claim
import GoSem.ClaimJoined
import GoSem.ClaimMapViews
import Derived.JoinedTies
import Derived.KernelRfl
namespace Go.Proofs.YtegjmmocnffpiaaDoor
/- THE CELL 'sum', in the pinned program and in every row, IS THE sha256 OF THE DUMP (.gsa) THAT YtegjmmocnffpiaaDoorProg.lean LOADS. Nothing in Lean hashes anything: it is a label: what it is worth is what the hold of that sum in a sandbox is worth. -/
noncomputable def Tryd.pinned : Pinned := { name := "ytegjmmocnffpiaadoor", sum := "f4bb51f6a379b0735064cc79e086e6154e0d67186b3dc74e9b87927d3a881734", checked := Tryd.checked }
namespace Rows
def none {H : Type} : Left H := { results := [], args := [] }

/- WHAT THE LISTED PACKAGE-LEVEL VARIABLES READ AS WHEN THE CALL BEGINS. Each datum BY PROGRAM (the guide's laid-datum.mjs) off the statement by which the dump's own 'gosem.cut.vars' lays the variable. In a bare row this is a premise. The card (YtegjmmocnffpiaaDoorCards.lean) ties it to the program's text. -/
def laid_math_bits_deBruijn32tab {H : Type} : DataW H := .agg [.lit (.int .u8 0), .lit (.int .u8 1), .lit (.int .u8 28), .lit (.int .u8 2), .lit (.int .u8 29), .lit (.int .u8 14), .lit (.int .u8 24), .lit (.int .u8 3), .lit (.int .u8 30), .lit (.int .u8 22), .lit (.int .u8 20), .lit (.int .u8 15), .lit (.int .u8 25), .lit (.int .u8 17), .lit (.int .u8 4), .lit (.int .u8 8), .lit (.int .u8 31), .lit (.int .u8 27), .lit (.int .u8 13), .lit (.int .u8 23), .lit (.int .u8 21), .lit (.int .u8 19), .lit (.int .u8 16), .lit (.int .u8 7), .lit (.int .u8 26), .lit (.int .u8 12), .lit (.int .u8 18), .lit (.int .u8 6), .lit (.int .u8 11), .lit (.int .u8 5), .lit (.int .u8 10), .lit (.int .u8 9)]

/-- 'quadrillelaw15.VictimPlays': WHATEVER THE INPUT: true; the input reads as it did. -/
def victimPlaysSpec : ChangeSpec := { name := "victimPlays", fn := fun _ => fun
  | [d1, d2, d3, d4, d5, d6, d7] => { results := [.lit (.bool true)], args := [d1, d2, d3, d4, d5, d6, d7] }
  | _ => none }
def victimPlaysRow : OpenClaim := { program := "ytegjmmocnffpiaadoor", sum := "f4bb51f6a379b0735064cc79e086e6154e0d67186b3dc74e9b87927d3a881734", func := "quadrille/quadrillelaw15.VictimPlays", spec := "victimPlays", unfollowed := true, recurses := true, named := ["math/bits.deBruijn32tab"], apart := false, laid := [("math/bits.deBruijn32tab", laid_math_bits_deBruijn32tab)] }
def VictimPlaysSaid : Prop := victimPlaysRow.holds Tryd.pinned (OpenSpec.ofChange victimPlaysSpec)

/-- ITS FALSE NEIGHBOUR: 'it returns false'. Refute it at one input. -/
def victimPlaysWrong : ChangeSpec := { name := "victimPlays", fn := fun _ => fun
  | [d1, d2, d3, d4, d5, d6, d7] => { results := [.lit (.bool false)], args := [d1, d2, d3, d4, d5, d6, d7] }
  | _ => none }
def VictimPlaysWrongFalsely : Prop := victimPlaysRow.holds Tryd.pinned (OpenSpec.ofChange victimPlaysWrong)

/-- 'quadrillelaw13.ShufflePlays': WHATEVER THE INPUT: true; the input reads as it did. -/
def shufflePlaysSpec : ChangeSpec := { name := "shufflePlays", fn := fun _ => fun
  | [d1, d2, d3, d4] => { results := [.lit (.bool true)], args := [d1, d2, d3, d4] }
  | _ => none }
def shufflePlaysRow : OpenClaim := { program := "ytegjmmocnffpiaadoor", sum := "f4bb51f6a379b0735064cc79e086e6154e0d67186b3dc74e9b87927d3a881734", func := "quadrille/quadrillelaw13.ShufflePlays", spec := "shufflePlays", inPlace := ["maps.clone"], unfollowed := true, recurses := true, named := ["math/bits.deBruijn32tab"], apart := false, laid := [("math/bits.deBruijn32tab", laid_math_bits_deBruijn32tab)] }
def ShufflePlaysSaid : Prop := shufflePlaysRow.holds Tryd.pinned (OpenSpec.ofChange shufflePlaysSpec)

/-- ITS FALSE NEIGHBOUR: 'it returns false'. Refute it at one input. -/
def shufflePlaysWrong : ChangeSpec := { name := "shufflePlays", fn := fun _ => fun
  | [d1, d2, d3, d4] => { results := [.lit (.bool false)], args := [d1, d2, d3, d4] }
  | _ => none }
def ShufflePlaysWrongFalsely : Prop := shufflePlaysRow.holds Tryd.pinned (OpenSpec.ofChange shufflePlaysWrong)

/-- 'quadrillelaw12.RowsPlays': WHATEVER THE INPUT: true; the input reads as it did. -/
def rowsPlaysSpec : ChangeSpec := { name := "rowsPlays", fn := fun _ => fun
  | [d1, d2, d3, d4] => { results := [.lit (.bool true)], args := [d1, d2, d3, d4] }
  | _ => none }
def rowsPlaysRow : OpenClaim := { program := "ytegjmmocnffpiaadoor", sum := "f4bb51f6a379b0735064cc79e086e6154e0d67186b3dc74e9b87927d3a881734", func := "quadrille/quadrillelaw12.RowsPlays", spec := "rowsPlays", inPlace := ["maps.clone"], unfollowed := true, recurses := true, named := ["math/bits.deBruijn32tab"], apart := false, laid := [("math/bits.deBruijn32tab", laid_math_bits_deBruijn32tab)] }
def RowsPlaysSaid : Prop := rowsPlaysRow.holds Tryd.pinned (OpenSpec.ofChange rowsPlaysSpec)

/-- ITS FALSE NEIGHBOUR: 'it returns false'. Refute it at one input. -/
def rowsPlaysWrong : ChangeSpec := { name := "rowsPlays", fn := fun _ => fun
  | [d1, d2, d3, d4] => { results := [.lit (.bool false)], args := [d1, d2, d3, d4] }
  | _ => none }
def RowsPlaysWrongFalsely : Prop := rowsPlaysRow.holds Tryd.pinned (OpenSpec.ofChange rowsPlaysWrong)

/- THE SECOND FORM. 'bulk': how many values and letters a reading holds, each counted each time it is reached (what is shared counts as often as it is met; a slice's spare places count too). A statement '..UptoSaid' is the law's where the arguments, and the package variables that the reading takes, are together of bulk at most 1048576: NARROWER than '..Said'. Prove '..Said' where nothing that the law and all that it calls make is longer than what came in: it says more and counts as full. Else prove '..UptoSaid'. A law counts once. -/
mutual
def uptoBulk {H : Type} : DataW H → Nat
  | .lit (.string bytes) => bytes.length + 1
  | .lit _ => 1
  | .nil => 1
  | .ptr d => uptoBulk d + 1
  | .slice elems spare => uptoBulkAll elems + uptoBulkAll spare + 1
  | .agg parts => uptoBulkAll parts + 1
  | .iface _ d => uptoBulk d + 1
  | .map entries => uptoBulkEntries entries + 1
  | .held _ => 1
def uptoBulkAll {H : Type} : List (DataW H) → Nat
  | [] => 0
  | d :: r => uptoBulk d + uptoBulkAll r
def uptoBulkEntries {H : Type} : List (Lit × DataW H) → Nat
  | [] => 0
  | x :: r => uptoBulkEntry x + uptoBulkEntries r
def uptoBulkEntry {H : Type} : Lit × DataW H → Nat
  | (.string bytes, d) => bytes.length + uptoBulk d + 1
  | (_, d) => uptoBulk d + 1
 end
def uptoSmall : (H : Type) → List (DataW H) → Bool := fun _ ds => decide (uptoBulkAll ds ≤ 1048576)
def OpenSpec.upto (s : _root_.Go.ChangeSpec) : _root_.Go.OpenSpec := { _root_.Go.OpenSpec.ofChange s with cond := some uptoSmall }

/-- 'quadrillelaw15.VictimPlays', WHERE WHAT IT READS IS OF BULK AT MOST 1048576: true; the input reads as it did. -/
def victimPlaysUptoRow : OpenClaim := { program := "ytegjmmocnffpiaadoor", sum := "f4bb51f6a379b0735064cc79e086e6154e0d67186b3dc74e9b87927d3a881734", func := "quadrille/quadrillelaw15.VictimPlays", spec := "victimPlays", unfollowed := true, recurses := true, named := ["math/bits.deBruijn32tab"], apart := false, laid := [("math/bits.deBruijn32tab", laid_math_bits_deBruijn32tab)], narrowed := true }
def VictimPlaysUptoSaid : Prop := victimPlaysUptoRow.holds Tryd.pinned (OpenSpec.upto victimPlaysSpec)

/-- 'quadrillelaw13.ShufflePlays', WHERE WHAT IT READS IS OF BULK AT MOST 1048576: true; the input reads as it did. -/
def shufflePlaysUptoRow : OpenClaim := { program := "ytegjmmocnffpiaadoor", sum := "f4bb51f6a379b0735064cc79e086e6154e0d67186b3dc74e9b87927d3a881734", func := "quadrille/quadrillelaw13.ShufflePlays", spec := "shufflePlays", inPlace := ["maps.clone"], unfollowed := true, recurses := true, named := ["math/bits.deBruijn32tab"], apart := false, laid := [("math/bits.deBruijn32tab", laid_math_bits_deBruijn32tab)], narrowed := true }
def ShufflePlaysUptoSaid : Prop := shufflePlaysUptoRow.holds Tryd.pinned (OpenSpec.upto shufflePlaysSpec)

/-- 'quadrillelaw12.RowsPlays', WHERE WHAT IT READS IS OF BULK AT MOST 1048576: true; the input reads as it did. -/
def rowsPlaysUptoRow : OpenClaim := { program := "ytegjmmocnffpiaadoor", sum := "f4bb51f6a379b0735064cc79e086e6154e0d67186b3dc74e9b87927d3a881734", func := "quadrille/quadrillelaw12.RowsPlays", spec := "rowsPlays", inPlace := ["maps.clone"], unfollowed := true, recurses := true, named := ["math/bits.deBruijn32tab"], apart := false, laid := [("math/bits.deBruijn32tab", laid_math_bits_deBruijn32tab)], narrowed := true }
def RowsPlaysUptoSaid : Prop := rowsPlaysUptoRow.holds Tryd.pinned (OpenSpec.upto rowsPlaysSpec)

end Rows
end Go.Proofs.YtegjmmocnffpiaaDoor
