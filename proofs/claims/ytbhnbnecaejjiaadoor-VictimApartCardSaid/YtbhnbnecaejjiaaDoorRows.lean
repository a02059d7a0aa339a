/-
  NARROWER THAN 'FOR EVERY INPUT', by the rows' own cells (each row's printed sentence says how): ShuffleFull: laid · ShuffleAgain: laid · ShufflePlays: laid · ShuffleKeeps: laid · ShuffleMoves: laid · VictimFree: laid · VictimApart: laid · VictimPlays: laid · VictimFew: laid · VictimFair: laid.
  DERIVED. THE GIVEN ROWS OF THIS SEAT. 10 by the template 'for every input the law returns true; each argument reads behind the call as it read before'; 0 by the template 'total and deterministic' (their statements: YtbhnbnecaejjiaaDoorTotals.lean).
  GIVEN WITH THE SEED: the statements are not yours to turn. If you find one false, say at which input.
  Laid BY PROGRAM, IN A SANDBOX (cutbox-rows.mjs): the forced cells as the released guide's own fill.sh prints them over the translation 3e99cd29bb62be13… (all of the seat's roots in one cut). By AI agents, Wed Nov 11 2026. No macro, syntax, notation, axiom, sorry.
-/
import Derived.Test.YtbhnbnecaejjiaaDoorChecked
import GoSem.Claim
import GoSem.ClaimJoined
import GoSem.ClaimMapViews
import Derived.JoinedTies
import Derived.KernelRfl
namespace Go.Proofs.YtbhnbnecaejjiaaDoor
/- THE CELL 'sum', in the pinned program and in every row, IS THE sha256 OF THE DUMP (.gsa) THAT YtbhnbnecaejjiaaDoorProg.lean LOADS. Nothing in Lean hashes anything: it is a label: what it is worth is what the hold of that sum in a sandbox is worth. -/
noncomputable def Tryd.pinned : Pinned := { name := "ytbhnbnecaejjiaadoor", sum := "3e99cd29bb62be13ed852fd562e785983f797f7b4246a42863ddb2413b980332", checked := Tryd.checked }
namespace Rows
def none {H : Type} : Left H := { results := [], args := [] }

/- WHAT THE LISTED PACKAGE-LEVEL VARIABLES READ AS WHEN THE CALL BEGINS. Each datum BY PROGRAM (the guide's laid-datum.mjs) off the statement by which the dump's own 'gosem.cut.vars' lays the variable. In a bare row this is a premise. The card (YtbhnbnecaejjiaaDoorCards.lean) ties it to the program's text. -/
def laid_math_bits_deBruijn32tab {H : Type} : DataW H := .agg [.lit (.int .u8 0), .lit (.int .u8 1), .lit (.int .u8 28), .lit (.int .u8 2), .lit (.int .u8 29), .lit (.int .u8 14), .lit (.int .u8 24), .lit (.int .u8 3), .lit (.int .u8 30), .lit (.int .u8 22), .lit (.int .u8 20), .lit (.int .u8 15), .lit (.int .u8 25), .lit (.int .u8 17), .lit (.int .u8 4), .lit (.int .u8 8), .lit (.int .u8 31), .lit (.int .u8 27), .lit (.int .u8 13), .lit (.int .u8 23), .lit (.int .u8 21), .lit (.int .u8 19), .lit (.int .u8 16), .lit (.int .u8 7), .lit (.int .u8 26), .lit (.int .u8 12), .lit (.int .u8 18), .lit (.int .u8 6), .lit (.int .u8 11), .lit (.int .u8 5), .lit (.int .u8 10), .lit (.int .u8 9)]

/-- 'quadrillelaw13.ShuffleFull': WHATEVER THE INPUT: true; the input reads as it did. -/
def shuffleFullSpec : ChangeSpec := { name := "shuffleFull", fn := fun _ => fun
  | [d1, d2, d3] => { results := [.lit (.bool true)], args := [d1, d2, d3] }
  | _ => none }
def shuffleFullRow : OpenClaim := { program := "ytbhnbnecaejjiaadoor", sum := "3e99cd29bb62be13ed852fd562e785983f797f7b4246a42863ddb2413b980332", func := "quadrille/quadrillelaw13.ShuffleFull", spec := "shuffleFull", inPlace := ["maps.clone"], unfollowed := true, recurses := true, named := ["math/bits.deBruijn32tab"], apart := false, laid := [("math/bits.deBruijn32tab", laid_math_bits_deBruijn32tab)] }
def ShuffleFullSaid : Prop := shuffleFullRow.holds Tryd.pinned (OpenSpec.ofChange shuffleFullSpec)

/-- ITS FALSE NEIGHBOUR: 'it returns false'. Refute it at one input. -/
def shuffleFullWrong : ChangeSpec := { name := "shuffleFull", fn := fun _ => fun
  | [d1, d2, d3] => { results := [.lit (.bool false)], args := [d1, d2, d3] }
  | _ => none }
def ShuffleFullWrongFalsely : Prop := shuffleFullRow.holds Tryd.pinned (OpenSpec.ofChange shuffleFullWrong)

/-- 'quadrillelaw13.ShuffleAgain': WHATEVER THE INPUT: true; the input reads as it did. -/
def shuffleAgainSpec : ChangeSpec := { name := "shuffleAgain", fn := fun _ => fun
  | [d1, d2, d3] => { results := [.lit (.bool true)], args := [d1, d2, d3] }
  | _ => none }
def shuffleAgainRow : OpenClaim := { program := "ytbhnbnecaejjiaadoor", sum := "3e99cd29bb62be13ed852fd562e785983f797f7b4246a42863ddb2413b980332", func := "quadrille/quadrillelaw13.ShuffleAgain", spec := "shuffleAgain", inPlace := ["maps.clone"], unfollowed := true, recurses := true, named := ["math/bits.deBruijn32tab"], apart := false, laid := [("math/bits.deBruijn32tab", laid_math_bits_deBruijn32tab)] }
def ShuffleAgainSaid : Prop := shuffleAgainRow.holds Tryd.pinned (OpenSpec.ofChange shuffleAgainSpec)

/-- ITS FALSE NEIGHBOUR: 'it returns false'. Refute it at one input. -/
def shuffleAgainWrong : ChangeSpec := { name := "shuffleAgain", fn := fun _ => fun
  | [d1, d2, d3] => { results := [.lit (.bool false)], args := [d1, d2, d3] }
  | _ => none }
def ShuffleAgainWrongFalsely : Prop := shuffleAgainRow.holds Tryd.pinned (OpenSpec.ofChange shuffleAgainWrong)

/-- 'quadrillelaw13.ShufflePlays': WHATEVER THE INPUT: true; the input reads as it did. -/
def shufflePlaysSpec : ChangeSpec := { name := "shufflePlays", fn := fun _ => fun
  | [d1, d2, d3, d4] => { results := [.lit (.bool true)], args := [d1, d2, d3, d4] }
  | _ => none }
def shufflePlaysRow : OpenClaim := { program := "ytbhnbnecaejjiaadoor", sum := "3e99cd29bb62be13ed852fd562e785983f797f7b4246a42863ddb2413b980332", func := "quadrille/quadrillelaw13.ShufflePlays", spec := "shufflePlays", inPlace := ["maps.clone"], unfollowed := true, recurses := true, named := ["math/bits.deBruijn32tab"], apart := false, laid := [("math/bits.deBruijn32tab", laid_math_bits_deBruijn32tab)] }
def ShufflePlaysSaid : Prop := shufflePlaysRow.holds Tryd.pinned (OpenSpec.ofChange shufflePlaysSpec)

/-- ITS FALSE NEIGHBOUR: 'it returns false'. Refute it at one input. -/
def shufflePlaysWrong : ChangeSpec := { name := "shufflePlays", fn := fun _ => fun
  | [d1, d2, d3, d4] => { results := [.lit (.bool false)], args := [d1, d2, d3, d4] }
  | _ => none }
def ShufflePlaysWrongFalsely : Prop := shufflePlaysRow.holds Tryd.pinned (OpenSpec.ofChange shufflePlaysWrong)

/-- 'quadrillelaw13.ShuffleKeeps': WHATEVER THE INPUT: true; the input reads as it did. -/
def shuffleKeepsSpec : ChangeSpec := { name := "shuffleKeeps", fn := fun _ => fun
  | [d1, d2, d3, d4] => { results := [.lit (.bool true)], args := [d1, d2, d3, d4] }
  | _ => none }
def shuffleKeepsRow : OpenClaim := { program := "ytbhnbnecaejjiaadoor", sum := "3e99cd29bb62be13ed852fd562e785983f797f7b4246a42863ddb2413b980332", func := "quadrille/quadrillelaw13.ShuffleKeeps", spec := "shuffleKeeps", inPlace := ["maps.clone"], unfollowed := true, recurses := true, named := ["math/bits.deBruijn32tab"], apart := false, laid := [("math/bits.deBruijn32tab", laid_math_bits_deBruijn32tab)] }
def ShuffleKeepsSaid : Prop := shuffleKeepsRow.holds Tryd.pinned (OpenSpec.ofChange shuffleKeepsSpec)

/-- ITS FALSE NEIGHBOUR: 'it returns false'. Refute it at one input. -/
def shuffleKeepsWrong : ChangeSpec := { name := "shuffleKeeps", fn := fun _ => fun
  | [d1, d2, d3, d4] => { results := [.lit (.bool false)], args := [d1, d2, d3, d4] }
  | _ => none }
def ShuffleKeepsWrongFalsely : Prop := shuffleKeepsRow.holds Tryd.pinned (OpenSpec.ofChange shuffleKeepsWrong)

/-- 'quadrillelaw13.ShuffleMoves': WHATEVER THE INPUT: true; the input reads as it did. -/
def shuffleMovesSpec : ChangeSpec := { name := "shuffleMoves", fn := fun _ => fun
  | [d1, d2, d3, d4] => { results := [.lit (.bool true)], args := [d1, d2, d3, d4] }
  | _ => none }
def shuffleMovesRow : OpenClaim := { program := "ytbhnbnecaejjiaadoor", sum := "3e99cd29bb62be13ed852fd562e785983f797f7b4246a42863ddb2413b980332", func := "quadrille/quadrillelaw13.ShuffleMoves", spec := "shuffleMoves", inPlace := ["maps.clone"], unfollowed := true, recurses := true, named := ["math/bits.deBruijn32tab"], apart := false, laid := [("math/bits.deBruijn32tab", laid_math_bits_deBruijn32tab)] }
def ShuffleMovesSaid : Prop := shuffleMovesRow.holds Tryd.pinned (OpenSpec.ofChange shuffleMovesSpec)

/-- ITS FALSE NEIGHBOUR: 'it returns false'. Refute it at one input. -/
def shuffleMovesWrong : ChangeSpec := { name := "shuffleMoves", fn := fun _ => fun
  | [d1, d2, d3, d4] => { results := [.lit (.bool false)], args := [d1, d2, d3, d4] }
  | _ => none }
def ShuffleMovesWrongFalsely : Prop := shuffleMovesRow.holds Tryd.pinned (OpenSpec.ofChange shuffleMovesWrong)

/-- 'quadrillelaw15.VictimFree': WHATEVER THE INPUT: true; the input reads as it did. -/
def victimFreeSpec : ChangeSpec := { name := "victimFree", fn := fun _ => fun
  | [d1, d2, d3, d4, d5] => { results := [.lit (.bool true)], args := [d1, d2, d3, d4, d5] }
  | _ => none }
def victimFreeRow : OpenClaim := { program := "ytbhnbnecaejjiaadoor", sum := "3e99cd29bb62be13ed852fd562e785983f797f7b4246a42863ddb2413b980332", func := "quadrille/quadrillelaw15.VictimFree", spec := "victimFree", unfollowed := true, recurses := true, named := ["math/bits.deBruijn32tab"], apart := false, laid := [("math/bits.deBruijn32tab", laid_math_bits_deBruijn32tab)] }
def VictimFreeSaid : Prop := victimFreeRow.holds Tryd.pinned (OpenSpec.ofChange victimFreeSpec)

/-- ITS FALSE NEIGHBOUR: 'it returns false'. Refute it at one input. -/
def victimFreeWrong : ChangeSpec := { name := "victimFree", fn := fun _ => fun
  | [d1, d2, d3, d4, d5] => { results := [.lit (.bool false)], args := [d1, d2, d3, d4, d5] }
  | _ => none }
def VictimFreeWrongFalsely : Prop := victimFreeRow.holds Tryd.pinned (OpenSpec.ofChange victimFreeWrong)

/-- 'quadrillelaw15.VictimApart': WHATEVER THE INPUT: true; the input reads as it did. -/
def victimApartSpec : ChangeSpec := { name := "victimApart", fn := fun _ => fun
  | [d1, d2, d3, d4, d5, d6] => { results := [.lit (.bool true)], args := [d1, d2, d3, d4, d5, d6] }
  | _ => none }
def victimApartRow : OpenClaim := { program := "ytbhnbnecaejjiaadoor", sum := "3e99cd29bb62be13ed852fd562e785983f797f7b4246a42863ddb2413b980332", func := "quadrille/quadrillelaw15.VictimApart", spec := "victimApart", unfollowed := true, recurses := true, named := ["math/bits.deBruijn32tab"], apart := false, laid := [("math/bits.deBruijn32tab", laid_math_bits_deBruijn32tab)] }
def VictimApartSaid : Prop := victimApartRow.holds Tryd.pinned (OpenSpec.ofChange victimApartSpec)

/-- ITS FALSE NEIGHBOUR: 'it returns false'. Refute it at one input. -/
def victimApartWrong : ChangeSpec := { name := "victimApart", fn := fun _ => fun
  | [d1, d2, d3, d4, d5, d6] => { results := [.lit (.bool false)], args := [d1, d2, d3, d4, d5, d6] }
  | _ => none }
def VictimApartWrongFalsely : Prop := victimApartRow.holds Tryd.pinned (OpenSpec.ofChange victimApartWrong)

/-- 'quadrillelaw15.VictimPlays': WHATEVER THE INPUT: true; the input reads as it did. -/
def victimPlaysSpec : ChangeSpec := { name := "victimPlays", fn := fun _ => fun
  | [d1, d2, d3, d4, d5, d6, d7] => { results := [.lit (.bool true)], args := [d1, d2, d3, d4, d5, d6, d7] }
  | _ => none }
def victimPlaysRow : OpenClaim := { program := "ytbhnbnecaejjiaadoor", sum := "3e99cd29bb62be13ed852fd562e785983f797f7b4246a42863ddb2413b980332", func := "quadrille/quadrillelaw15.VictimPlays", spec := "victimPlays", unfollowed := true, recurses := true, named := ["math/bits.deBruijn32tab"], apart := false, laid := [("math/bits.deBruijn32tab", laid_math_bits_deBruijn32tab)] }
def VictimPlaysSaid : Prop := victimPlaysRow.holds Tryd.pinned (OpenSpec.ofChange victimPlaysSpec)

/-- ITS FALSE NEIGHBOUR: 'it returns false'. Refute it at one input. -/
def victimPlaysWrong : ChangeSpec := { name := "victimPlays", fn := fun _ => fun
  | [d1, d2, d3, d4, d5, d6, d7] => { results := [.lit (.bool false)], args := [d1, d2, d3, d4, d5, d6, d7] }
  | _ => none }
def VictimPlaysWrongFalsely : Prop := victimPlaysRow.holds Tryd.pinned (OpenSpec.ofChange victimPlaysWrong)

/-- 'quadrillelaw15.VictimFew': WHATEVER THE INPUT: true; the input reads as it did. -/
def victimFewSpec : ChangeSpec := { name := "victimFew", fn := fun _ => fun
  | [d1, d2, d3, d4, d5, d6] => { results := [.lit (.bool true)], args := [d1, d2, d3, d4, d5, d6] }
  | _ => none }
def victimFewRow : OpenClaim := { program := "ytbhnbnecaejjiaadoor", sum := "3e99cd29bb62be13ed852fd562e785983f797f7b4246a42863ddb2413b980332", func := "quadrille/quadrillelaw15.VictimFew", spec := "victimFew", unfollowed := true, recurses := true, named := ["math/bits.deBruijn32tab"], apart := false, laid := [("math/bits.deBruijn32tab", laid_math_bits_deBruijn32tab)] }
def VictimFewSaid : Prop := victimFewRow.holds Tryd.pinned (OpenSpec.ofChange victimFewSpec)

/-- ITS FALSE NEIGHBOUR: 'it returns false'. Refute it at one input. -/
def victimFewWrong : ChangeSpec := { name := "victimFew", fn := fun _ => fun
  | [d1, d2, d3, d4, d5, d6] => { results := [.lit (.bool false)], args := [d1, d2, d3, d4, d5, d6] }
  | _ => none }
def VictimFewWrongFalsely : Prop := victimFewRow.holds Tryd.pinned (OpenSpec.ofChange victimFewWrong)

/-- 'quadrillelaw15.VictimFair': WHATEVER THE INPUT: true; the input reads as it did. -/
def victimFairSpec : ChangeSpec := { name := "victimFair", fn := fun _ => fun
  | [d1, d2, d3, d4, d5, d6] => { results := [.lit (.bool true)], args := [d1, d2, d3, d4, d5, d6] }
  | _ => none }
def victimFairRow : OpenClaim := { program := "ytbhnbnecaejjiaadoor", sum := "3e99cd29bb62be13ed852fd562e785983f797f7b4246a42863ddb2413b980332", func := "quadrille/quadrillelaw15.VictimFair", spec := "victimFair", unfollowed := true, recurses := true, named := ["math/bits.deBruijn32tab"], apart := false, laid := [("math/bits.deBruijn32tab", laid_math_bits_deBruijn32tab)] }
def VictimFairSaid : Prop := victimFairRow.holds Tryd.pinned (OpenSpec.ofChange victimFairSpec)

/-- ITS FALSE NEIGHBOUR: 'it returns false'. Refute it at one input. -/
def victimFairWrong : ChangeSpec := { name := "victimFair", fn := fun _ => fun
  | [d1, d2, d3, d4, d5, d6] => { results := [.lit (.bool false)], args := [d1, d2, d3, d4, d5, d6] }
  | _ => none }
def VictimFairWrongFalsely : Prop := victimFairRow.holds Tryd.pinned (OpenSpec.ofChange victimFairWrong)

/- THE SECOND FORM. 'bulk': how many values and letters a reading holds, each counted each time it is reached (what is shared counts as often as it is met; a slice's spare places count too). A statement '..UptoSaid' is the law's where the arguments, and the package variables that the reading takes, are together of bulk at most 1048576: NARROWER than '..Said'. Prove '..Said' where nothing that the law and all that it calls make is longer than what came in: it says more and counts as full. Else prove '..UptoSaid'. A law counts once. -/
mutual
def uptoBulk {H : Type} : DataW H → Nat
  | .lit (.string bytes) => bytes.length + 1
  | .lit _ => 1
  | .nil => 1
  | .ptr d => uptoBulk d + 1
  | .slice elems spare => uptoBulkAll elems + uptoBulkAll spare + 1
  | .agg parts => uptoBulkAll parts + 1
  | .iface _ d => uptoBulk d + 1
  | .map entries => uptoBulkEntries entries + 1
  | .held _ => 1
def uptoBulkAll {H : Type} : List (DataW H) → Nat
  | [] => 0
  | d :: r => uptoBulk d + uptoBulkAll r
def uptoBulkEntries {H : Type} : List (Lit × DataW H) → Nat
  | [] => 0
  | x :: r => uptoBulkEntry x + uptoBulkEntries r
def uptoBulkEntry {H : Type} : Lit × DataW H → Nat
  | (.string bytes, d) => bytes.length + uptoBulk d + 1
  | (_, d) => uptoBulk d + 1
 end
def uptoSmall : (H : Type) → List (DataW H) → Bool := fun _ ds => decide (uptoBulkAll ds ≤ 1048576)
def OpenSpec.upto (s : _root_.Go.ChangeSpec) : _root_.Go.OpenSpec := { _root_.Go.OpenSpec.ofChange s with cond := some uptoSmall }

/-- 'quadrillelaw13.ShuffleFull', WHERE WHAT IT READS IS OF BULK AT MOST 1048576: true; the input reads as it did. -/
def shuffleFullUptoRow : OpenClaim := { program := "ytbhnbnecaejjiaadoor", sum := "3e99cd29bb62be13ed852fd562e785983f797f7b4246a42863ddb2413b980332", func := "quadrille/quadrillelaw13.ShuffleFull", spec := "shuffleFull", inPlace := ["maps.clone"], unfollowed := true, recurses := true, named := ["math/bits.deBruijn32tab"], apart := false, laid := [("math/bits.deBruijn32tab", laid_math_bits_deBruijn32tab)], narrowed := true }
def ShuffleFullUptoSaid : Prop := shuffleFullUptoRow.holds Tryd.pinned (OpenSpec.upto shuffleFullSpec)

/-- 'quadrillelaw13.ShuffleAgain', WHERE WHAT IT READS IS OF BULK AT MOST 1048576: true; the input reads as it did. -/
def shuffleAgainUptoRow : OpenClaim := { program := "ytbhnbnecaejjiaadoor", sum := "3e99cd29bb62be13ed852fd562e785983f797f7b4246a42863ddb2413b980332", func := "quadrille/quadrillelaw13.ShuffleAgain", spec := "shuffleAgain", inPlace := ["maps.clone"], unfollowed := true, recurses := true, named := ["math/bits.deBruijn32tab"], apart := false, laid := [("math/bits.deBruijn32tab", laid_math_bits_deBruijn32tab)], narrowed := true }
def ShuffleAgainUptoSaid : Prop := shuffleAgainUptoRow.holds Tryd.pinned (OpenSpec.upto shuffleAgainSpec)

/-- 'quadrillelaw13.ShufflePlays', WHERE WHAT IT READS IS OF BULK AT MOST 1048576: true; the input reads as it did. -/
def shufflePlaysUptoRow : OpenClaim := { program := "ytbhnbnecaejjiaadoor", sum := "3e99cd29bb62be13ed852fd562e785983f797f7b4246a42863ddb2413b980332", func := "quadrille/quadrillelaw13.ShufflePlays", spec := "shufflePlays", inPlace := ["maps.clone"], unfollowed := true, recurses := true, named := ["math/bits.deBruijn32tab"], apart := false, laid := [("math/bits.deBruijn32tab", laid_math_bits_deBruijn32tab)], narrowed := true }
def ShufflePlaysUptoSaid : Prop := shufflePlaysUptoRow.holds Tryd.pinned (OpenSpec.upto shufflePlaysSpec)

/-- 'quadrillelaw13.ShuffleKeeps', WHERE WHAT IT READS IS OF BULK AT MOST 1048576: true; the input reads as it did. -/
def shuffleKeepsUptoRow : OpenClaim := { program := "ytbhnbnecaejjiaadoor", sum := "3e99cd29bb62be13ed852fd562e785983f797f7b4246a42863ddb2413b980332", func := "quadrille/quadrillelaw13.ShuffleKeeps", spec := "shuffleKeeps", inPlace := ["maps.clone"], unfollowed := true, recurses := true, named := ["math/bits.deBruijn32tab"], apart := false, laid := [("math/bits.deBruijn32tab", laid_math_bits_deBruijn32tab)], narrowed := true }
def ShuffleKeepsUptoSaid : Prop := shuffleKeepsUptoRow.holds Tryd.pinned (OpenSpec.upto shuffleKeepsSpec)

/-- 'quadrillelaw13.ShuffleMoves', WHERE WHAT IT READS IS OF BULK AT MOST 1048576: true; the input reads as it did. -/
def shuffleMovesUptoRow : OpenClaim := { program := "ytbhnbnecaejjiaadoor", sum := "3e99cd29bb62be13ed852fd562e785983f797f7b4246a42863ddb2413b980332", func := "quadrille/quadrillelaw13.ShuffleMoves", spec := "shuffleMoves", inPlace := ["maps.clone"], unfollowed := true, recurses := true, named := ["math/bits.deBruijn32tab"], apart := false, laid := [("math/bits.deBruijn32tab", laid_math_bits_deBruijn32tab)], narrowed := true }
def ShuffleMovesUptoSaid : Prop := shuffleMovesUptoRow.holds Tryd.pinned (OpenSpec.upto shuffleMovesSpec)

/-- 'quadrillelaw15.VictimFree', WHERE WHAT IT READS IS OF BULK AT MOST 1048576: true; the input reads as it did. -/
def victimFreeUptoRow : OpenClaim := { program := "ytbhnbnecaejjiaadoor", sum := "3e99cd29bb62be13ed852fd562e785983f797f7b4246a42863ddb2413b980332", func := "quadrille/quadrillelaw15.VictimFree", spec := "victimFree", unfollowed := true, recurses := true, named := ["math/bits.deBruijn32tab"], apart := false, laid := [("math/bits.deBruijn32tab", laid_math_bits_deBruijn32tab)], narrowed := true }
def VictimFreeUptoSaid : Prop := victimFreeUptoRow.holds Tryd.pinned (OpenSpec.upto victimFreeSpec)

/-- 'quadrillelaw15.VictimApart', WHERE WHAT IT READS IS OF BULK AT MOST 1048576: true; the input reads as it did. -/
def victimApartUptoRow : OpenClaim := { program := "ytbhnbnecaejjiaadoor", sum := "3e99cd29bb62be13ed852fd562e785983f797f7b4246a42863ddb2413b980332", func := "quadrille/quadrillelaw15.VictimApart", spec := "victimApart", unfollowed := true, recurses := true, named := ["math/bits.deBruijn32tab"], apart := false, laid := [("math/bits.deBruijn32tab", laid_math_bits_deBruijn32tab)], narrowed := true }
def VictimApartUptoSaid : Prop := victimApartUptoRow.holds Tryd.pinned (OpenSpec.upto victimApartSpec)

/-- 'quadrillelaw15.VictimPlays', WHERE WHAT IT READS IS OF BULK AT MOST 1048576: true; the input reads as it did. -/
def victimPlaysUptoRow : OpenClaim := { program := "ytbhnbnecaejjiaadoor", sum := "3e99cd29bb62be13ed852fd562e785983f797f7b4246a42863ddb2413b980332", func := "quadrille/quadrillelaw15.VictimPlays", spec := "victimPlays", unfollowed := true, recurses := true, named := ["math/bits.deBruijn32tab"], apart := false, laid := [("math/bits.deBruijn32tab", laid_math_bits_deBruijn32tab)], narrowed := true }
def VictimPlaysUptoSaid : Prop := victimPlaysUptoRow.holds Tryd.pinned (OpenSpec.upto victimPlaysSpec)

/-- 'quadrillelaw15.VictimFew', WHERE WHAT IT READS IS OF BULK AT MOST 1048576: true; the input reads as it did. -/
def victimFewUptoRow : OpenClaim := { program := "ytbhnbnecaejjiaadoor", sum := "3e99cd29bb62be13ed852fd562e785983f797f7b4246a42863ddb2413b980332", func := "quadrille/quadrillelaw15.VictimFew", spec := "victimFew", unfollowed := true, recurses := true, named := ["math/bits.deBruijn32tab"], apart := false, laid := [("math/bits.deBruijn32tab", laid_math_bits_deBruijn32tab)], narrowed := true }
def VictimFewUptoSaid : Prop := victimFewUptoRow.holds Tryd.pinned (OpenSpec.upto victimFewSpec)

/-- 'quadrillelaw15.VictimFair', WHERE WHAT IT READS IS OF BULK AT MOST 1048576: true; the input reads as it did. -/
def victimFairUptoRow : OpenClaim := { program := "ytbhnbnecaejjiaadoor", sum := "3e99cd29bb62be13ed852fd562e785983f797f7b4246a42863ddb2413b980332", func := "quadrille/quadrillelaw15.VictimFair", spec := "victimFair", unfollowed := true, recurses := true, named := ["math/bits.deBruijn32tab"], apart := false, laid := [("math/bits.deBruijn32tab", laid_math_bits_deBruijn32tab)], narrowed := true }
def VictimFairUptoSaid : Prop := victimFairUptoRow.holds Tryd.pinned (OpenSpec.upto victimFairSpec)

end Rows
end Go.Proofs.YtbhnbnecaejjiaaDoor
