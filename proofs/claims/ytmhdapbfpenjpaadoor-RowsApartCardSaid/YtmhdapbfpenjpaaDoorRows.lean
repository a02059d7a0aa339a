/-
  NARROWER THAN 'FOR EVERY INPUT', by the rows' own cells (each row's printed sentence says how): VictimPlays: laid · VictimFair: laid · ShufflePlays: laid · RowsFill: laid · RowsApart: laid · RowsFull: laid · RowsBack: laid · ShuffleKeeps: laid · ShuffleMoves: laid · RowsPlays: laid.
  DERIVED. THE GIVEN ROWS OF THIS SEAT. 10 by the template 'for every input the law returns true; each argument reads behind the call as it read before'; 0 by the template 'total and deterministic' (their statements: YtmhdapbfpenjpaaDoorTotals.lean).
  GIVEN WITH THE SEED: the statements are not yours to turn. If you find one false, say at which input.
  Laid BY PROGRAM, IN A SANDBOX (cutbox-rows.mjs): the forced cells as the released guide's own fill.sh prints them over the translation adfc88d66f7e02e5… (all of the seat's roots in one cut). By AI agents, Wed Nov 11 2026. No macro, syntax, notation, axiom, sorry.
-/
import Derived.Test.YtmhdapbfpenjpaaDoorChecked
import GoSem.Claim
import GoSem.ClaimJoined
import GoSem.ClaimMapViews
import Derived.JoinedTies
import Derived.KernelRfl
namespace Go.Proofs.YtmhdapbfpenjpaaDoor
/- THE CELL 'sum', in the pinned program and in every row, IS THE sha256 OF THE DUMP (.gsa) THAT YtmhdapbfpenjpaaDoorProg.lean LOADS. Nothing in Lean hashes anything: it is a label: what it is worth is what the hold of that sum in a sandbox is worth. -/
noncomputable def Tryd.pinned : Pinned := { name := "ytmhdapbfpenjpaadoor", sum := "adfc88d66f7e02e5a8fb45a5654a2dec3f4c6f1e084a627ef0d088c488fcfce9", checked := Tryd.checked }
namespace Rows
def none {H : Type} : Left H := { results := [], args := [] }

/- WHAT THE LISTED PACKAGE-LEVEL VARIABLES READ AS WHEN THE CALL BEGINS. Each datum BY PROGRAM (the guide's laid-datum.mjs) off the statement by which the dump's own 'gosem.cut.vars' lays the variable. In a bare row this is a premise. The card (YtmhdapbfpenjpaaDoorCards.lean) ties it to the program's text. -/
def laid_math_bits_deBruijn32tab {H : Type} : DataW H := .agg [.lit (.int .u8 0), .lit (.int .u8 1), .lit (.int .u8 28), .lit (.int .u8 2), .lit (.int .u8 29), .lit (.int .u8 14), .lit (.int .u8 24), .lit (.int .u8 3), .lit (.int .u8 30), .lit (.int .u8 22), .lit (.int .u8 20), .lit (.int .u8 15), .lit (.int .u8 25), .lit (.int .u8 17), .lit (.int .u8 4), .lit (.int .u8 8), .lit (.int .u8 31), .lit (.int .u8 27), .lit (.int .u8 13), .lit (.int .u8 23), .lit (.int .u8 21), .lit (.int .u8 19), .lit (.int .u8 16), .lit (.int .u8 7), .lit (.int .u8 26), .lit (.int .u8 12), .lit (.int .u8 18), .lit (.int .u8 6), .lit (.int .u8 11), .lit (.int .u8 5), .lit (.int .u8 10), .lit (.int .u8 9)]

/-- 'quadrillelaw15.VictimPlays': WHATEVER THE INPUT: true; the input reads as it did. -/
def victimPlaysSpec : ChangeSpec := { name := "victimPlays", fn := fun _ => fun
  | [d1, d2, d3, d4, d5, d6, d7] => { results := [.lit (.bool true)], args := [d1, d2, d3, d4, d5, d6, d7] }
  | _ => none }
def victimPlaysRow : OpenClaim := { program := "ytmhdapbfpenjpaadoor", sum := "adfc88d66f7e02e5a8fb45a5654a2dec3f4c6f1e084a627ef0d088c488fcfce9", func := "quadrille/quadrillelaw15.VictimPlays", spec := "victimPlays", unfollowed := true, recurses := true, named := ["math/bits.deBruijn32tab"], plainKeys := false, apart := false, laid := [("math/bits.deBruijn32tab", laid_math_bits_deBruijn32tab)] }
def VictimPlaysSaid : Prop := victimPlaysRow.holds Tryd.pinned (OpenSpec.ofChange victimPlaysSpec)

/-- ITS FALSE NEIGHBOUR: 'it returns false'. Refute it at one input. -/
def victimPlaysWrong : ChangeSpec := { name := "victimPlays", fn := fun _ => fun
  | [d1, d2, d3, d4, d5, d6, d7] => { results := [.lit (.bool false)], args := [d1, d2, d3, d4, d5, d6, d7] }
  | _ => none }
def VictimPlaysWrongFalsely : Prop := victimPlaysRow.holds Tryd.pinned (OpenSpec.ofChange victimPlaysWrong)

/-- 'quadrillelaw15.VictimFair': WHATEVER THE INPUT: true; the input reads as it did. -/
def victimFairSpec : ChangeSpec := { name := "victimFair", fn := fun _ => fun
  | [d1, d2, d3, d4, d5, d6] => { results := [.lit (.bool true)], args := [d1, d2, d3, d4, d5, d6] }
  | _ => none }
def victimFairRow : OpenClaim := { program := "ytmhdapbfpenjpaadoor", sum := "adfc88d66f7e02e5a8fb45a5654a2dec3f4c6f1e084a627ef0d088c488fcfce9", func := "quadrille/quadrillelaw15.VictimFair", spec := "victimFair", unfollowed := true, recurses := true, named := ["math/bits.deBruijn32tab"], plainKeys := false, apart := false, laid := [("math/bits.deBruijn32tab", laid_math_bits_deBruijn32tab)] }
def VictimFairSaid : Prop := victimFairRow.holds Tryd.pinned (OpenSpec.ofChange victimFairSpec)

/-- ITS FALSE NEIGHBOUR: 'it returns false'. Refute it at one input. -/
def victimFairWrong : ChangeSpec := { name := "victimFair", fn := fun _ => fun
  | [d1, d2, d3, d4, d5, d6] => { results := [.lit (.bool false)], args := [d1, d2, d3, d4, d5, d6] }
  | _ => none }
def VictimFairWrongFalsely : Prop := victimFairRow.holds Tryd.pinned (OpenSpec.ofChange victimFairWrong)

/-- 'quadrillelaw13.ShufflePlays': WHATEVER THE INPUT: true; the input reads as it did. -/
def shufflePlaysSpec : ChangeSpec := { name := "shufflePlays", fn := fun _ => fun
  | [d1, d2, d3, d4] => { results := [.lit (.bool true)], args := [d1, d2, d3, d4] }
  | _ => none }
def shufflePlaysRow : OpenClaim := { program := "ytmhdapbfpenjpaadoor", sum := "adfc88d66f7e02e5a8fb45a5654a2dec3f4c6f1e084a627ef0d088c488fcfce9", func := "quadrille/quadrillelaw13.ShufflePlays", spec := "shufflePlays", inPlace := ["maps.clone"], unfollowed := true, recurses := true, named := ["math/bits.deBruijn32tab"], plainKeys := false, apart := false, laid := [("math/bits.deBruijn32tab", laid_math_bits_deBruijn32tab)] }
def ShufflePlaysSaid : Prop := shufflePlaysRow.holds Tryd.pinned (OpenSpec.ofChange shufflePlaysSpec)

/-- ITS FALSE NEIGHBOUR: 'it returns false'. Refute it at one input. -/
def shufflePlaysWrong : ChangeSpec := { name := "shufflePlays", fn := fun _ => fun
  | [d1, d2, d3, d4] => { results := [.lit (.bool false)], args := [d1, d2, d3, d4] }
  | _ => none }
def ShufflePlaysWrongFalsely : Prop := shufflePlaysRow.holds Tryd.pinned (OpenSpec.ofChange shufflePlaysWrong)

/-- 'quadrillelaw12.RowsFill': WHATEVER THE INPUT: true; the input reads as it did. -/
def rowsFillSpec : ChangeSpec := { name := "rowsFill", fn := fun _ => fun
  | [d1, d2, d3, d4, d5] => { results := [.lit (.bool true)], args := [d1, d2, d3, d4, d5] }
  | _ => none }
def rowsFillRow : OpenClaim := { program := "ytmhdapbfpenjpaadoor", sum := "adfc88d66f7e02e5a8fb45a5654a2dec3f4c6f1e084a627ef0d088c488fcfce9", func := "quadrille/quadrillelaw12.RowsFill", spec := "rowsFill", unfollowed := true, recurses := true, named := ["math/bits.deBruijn32tab"], plainKeys := false, apart := false, laid := [("math/bits.deBruijn32tab", laid_math_bits_deBruijn32tab)] }
def RowsFillSaid : Prop := rowsFillRow.holds Tryd.pinned (OpenSpec.ofChange rowsFillSpec)

/-- ITS FALSE NEIGHBOUR: 'it returns false'. Refute it at one input. -/
def rowsFillWrong : ChangeSpec := { name := "rowsFill", fn := fun _ => fun
  | [d1, d2, d3, d4, d5] => { results := [.lit (.bool false)], args := [d1, d2, d3, d4, d5] }
  | _ => none }
def RowsFillWrongFalsely : Prop := rowsFillRow.holds Tryd.pinned (OpenSpec.ofChange rowsFillWrong)

/-- 'quadrillelaw12.RowsApart': WHATEVER THE INPUT: true; the input reads as it did. -/
def rowsApartSpec : ChangeSpec := { name := "rowsApart", fn := fun _ => fun
  | [d1, d2, d3, d4] => { results := [.lit (.bool true)], args := [d1, d2, d3, d4] }
  | _ => none }
def rowsApartRow : OpenClaim := { program := "ytmhdapbfpenjpaadoor", sum := "adfc88d66f7e02e5a8fb45a5654a2dec3f4c6f1e084a627ef0d088c488fcfce9", func := "quadrille/quadrillelaw12.RowsApart", spec := "rowsApart", unfollowed := true, recurses := true, named := ["math/bits.deBruijn32tab"], plainKeys := false, apart := false, laid := [("math/bits.deBruijn32tab", laid_math_bits_deBruijn32tab)] }
def RowsApartSaid : Prop := rowsApartRow.holds Tryd.pinned (OpenSpec.ofChange rowsApartSpec)

/-- ITS FALSE NEIGHBOUR: 'it returns false'. Refute it at one input. -/
def rowsApartWrong : ChangeSpec := { name := "rowsApart", fn := fun _ => fun
  | [d1, d2, d3, d4] => { results := [.lit (.bool false)], args := [d1, d2, d3, d4] }
  | _ => none }
def RowsApartWrongFalsely : Prop := rowsApartRow.holds Tryd.pinned (OpenSpec.ofChange rowsApartWrong)

/-- 'quadrillelaw12.RowsFull': WHATEVER THE INPUT: true; the input reads as it did. -/
def rowsFullSpec : ChangeSpec := { name := "rowsFull", fn := fun _ => fun
  | [d1, d2, d3, d4, d5] => { results := [.lit (.bool true)], args := [d1, d2, d3, d4, d5] }
  | _ => none }
def rowsFullRow : OpenClaim := { program := "ytmhdapbfpenjpaadoor", sum := "adfc88d66f7e02e5a8fb45a5654a2dec3f4c6f1e084a627ef0d088c488fcfce9", func := "quadrille/quadrillelaw12.RowsFull", spec := "rowsFull", unfollowed := true, recurses := true, named := ["math/bits.deBruijn32tab"], plainKeys := false, apart := false, laid := [("math/bits.deBruijn32tab", laid_math_bits_deBruijn32tab)] }
def RowsFullSaid : Prop := rowsFullRow.holds Tryd.pinned (OpenSpec.ofChange rowsFullSpec)

/-- ITS FALSE NEIGHBOUR: 'it returns false'. Refute it at one input. -/
def rowsFullWrong : ChangeSpec := { name := "rowsFull", fn := fun _ => fun
  | [d1, d2, d3, d4, d5] => { results := [.lit (.bool false)], args := [d1, d2, d3, d4, d5] }
  | _ => none }
def RowsFullWrongFalsely : Prop := rowsFullRow.holds Tryd.pinned (OpenSpec.ofChange rowsFullWrong)

/-- 'quadrillelaw12.RowsBack': WHATEVER THE INPUT: true; the input reads as it did. -/
def rowsBackSpec : ChangeSpec := { name := "rowsBack", fn := fun _ => fun
  | [d1, d2, d3, d4, d5] => { results := [.lit (.bool true)], args := [d1, d2, d3, d4, d5] }
  | _ => none }
def rowsBackRow : OpenClaim := { program := "ytmhdapbfpenjpaadoor", sum := "adfc88d66f7e02e5a8fb45a5654a2dec3f4c6f1e084a627ef0d088c488fcfce9", func := "quadrille/quadrillelaw12.RowsBack", spec := "rowsBack", inPlace := ["maps.clone"], unfollowed := true, recurses := true, named := ["math/bits.deBruijn32tab"], plainKeys := false, apart := false, laid := [("math/bits.deBruijn32tab", laid_math_bits_deBruijn32tab)] }
def RowsBackSaid : Prop := rowsBackRow.holds Tryd.pinned (OpenSpec.ofChange rowsBackSpec)

/-- ITS FALSE NEIGHBOUR: 'it returns false'. Refute it at one input. -/
def rowsBackWrong : ChangeSpec := { name := "rowsBack", fn := fun _ => fun
  | [d1, d2, d3, d4, d5] => { results := [.lit (.bool false)], args := [d1, d2, d3, d4, d5] }
  | _ => none }
def RowsBackWrongFalsely : Prop := rowsBackRow.holds Tryd.pinned (OpenSpec.ofChange rowsBackWrong)

/-- 'quadrillelaw13.ShuffleKeeps': WHATEVER THE INPUT: true; the input reads as it did. -/
def shuffleKeepsSpec : ChangeSpec := { name := "shuffleKeeps", fn := fun _ => fun
  | [d1, d2, d3, d4] => { results := [.lit (.bool true)], args := [d1, d2, d3, d4] }
  | _ => none }
def shuffleKeepsRow : OpenClaim := { program := "ytmhdapbfpenjpaadoor", sum := "adfc88d66f7e02e5a8fb45a5654a2dec3f4c6f1e084a627ef0d088c488fcfce9", func := "quadrille/quadrillelaw13.ShuffleKeeps", spec := "shuffleKeeps", inPlace := ["maps.clone"], unfollowed := true, recurses := true, named := ["math/bits.deBruijn32tab"], plainKeys := false, apart := false, laid := [("math/bits.deBruijn32tab", laid_math_bits_deBruijn32tab)] }
def ShuffleKeepsSaid : Prop := shuffleKeepsRow.holds Tryd.pinned (OpenSpec.ofChange shuffleKeepsSpec)

/-- ITS FALSE NEIGHBOUR: 'it returns false'. Refute it at one input. -/
def shuffleKeepsWrong : ChangeSpec := { name := "shuffleKeeps", fn := fun _ => fun
  | [d1, d2, d3, d4] => { results := [.lit (.bool false)], args := [d1, d2, d3, d4] }
  | _ => none }
def ShuffleKeepsWrongFalsely : Prop := shuffleKeepsRow.holds Tryd.pinned (OpenSpec.ofChange shuffleKeepsWrong)

/-- 'quadrillelaw13.ShuffleMoves': WHATEVER THE INPUT: true; the input reads as it did. -/
def shuffleMovesSpec : ChangeSpec := { name := "shuffleMoves", fn := fun _ => fun
  | [d1, d2, d3, d4] => { results := [.lit (.bool true)], args := [d1, d2, d3, d4] }
  | _ => none }
def shuffleMovesRow : OpenClaim := { program := "ytmhdapbfpenjpaadoor", sum := "adfc88d66f7e02e5a8fb45a5654a2dec3f4c6f1e084a627ef0d088c488fcfce9", func := "quadrille/quadrillelaw13.ShuffleMoves", spec := "shuffleMoves", inPlace := ["maps.clone"], unfollowed := true, recurses := true, named := ["math/bits.deBruijn32tab"], plainKeys := false, apart := false, laid := [("math/bits.deBruijn32tab", laid_math_bits_deBruijn32tab)] }
def ShuffleMovesSaid : Prop := shuffleMovesRow.holds Tryd.pinned (OpenSpec.ofChange shuffleMovesSpec)

/-- ITS FALSE NEIGHBOUR: 'it returns false'. Refute it at one input. -/
def shuffleMovesWrong : ChangeSpec := { name := "shuffleMoves", fn := fun _ => fun
  | [d1, d2, d3, d4] => { results := [.lit (.bool false)], args := [d1, d2, d3, d4] }
  | _ => none }
def ShuffleMovesWrongFalsely : Prop := shuffleMovesRow.holds Tryd.pinned (OpenSpec.ofChange shuffleMovesWrong)

/-- 'quadrillelaw12.RowsPlays': WHATEVER THE INPUT: true; the input reads as it did. -/
def rowsPlaysSpec : ChangeSpec := { name := "rowsPlays", fn := fun _ => fun
  | [d1, d2, d3, d4] => { results := [.lit (.bool true)], args := [d1, d2, d3, d4] }
  | _ => none }
def rowsPlaysRow : OpenClaim := { program := "ytmhdapbfpenjpaadoor", sum := "adfc88d66f7e02e5a8fb45a5654a2dec3f4c6f1e084a627ef0d088c488fcfce9", func := "quadrille/quadrillelaw12.RowsPlays", spec := "rowsPlays", inPlace := ["maps.clone"], unfollowed := true, recurses := true, named := ["math/bits.deBruijn32tab"], plainKeys := false, apart := false, laid := [("math/bits.deBruijn32tab", laid_math_bits_deBruijn32tab)] }
def RowsPlaysSaid : Prop := rowsPlaysRow.holds Tryd.pinned (OpenSpec.ofChange rowsPlaysSpec)

/-- ITS FALSE NEIGHBOUR: 'it returns false'. Refute it at one input. -/
def rowsPlaysWrong : ChangeSpec := { name := "rowsPlays", fn := fun _ => fun
  | [d1, d2, d3, d4] => { results := [.lit (.bool false)], args := [d1, d2, d3, d4] }
  | _ => none }
def RowsPlaysWrongFalsely : Prop := rowsPlaysRow.holds Tryd.pinned (OpenSpec.ofChange rowsPlaysWrong)

/- THE SECOND FORM. 'bulk': how many values and letters a reading holds, each counted each time it is reached (what is shared counts as often as it is met; a slice's spare places count too). A statement '..UptoSaid' is the law's where the arguments, and the package variables that the reading takes, are together of bulk at most 1048576: NARROWER than '..Said'. Prove '..Said' where nothing that the law and all that it calls make is longer than what came in: it says more and counts as full. Else prove '..UptoSaid'. A law counts once. -/
mutual
def uptoBulk {H : Type} : DataW H → Nat
  | .lit (.string bytes) => bytes.length + 1
  | .lit _ => 1
  | .nil => 1
  | .ptr d => uptoBulk d + 1
  | .slice elems spare => uptoBulkAll elems + uptoBulkAll spare + 1
  | .agg parts => uptoBulkAll parts + 1
  | .iface _ d => uptoBulk d + 1
  | .map entries => uptoBulkEntries entries + 1
  | .held _ => 1
def uptoBulkAll {H : Type} : List (DataW H) → Nat
  | [] => 0
  | d :: r => uptoBulk d + uptoBulkAll r
def uptoBulkEntries {H : Type} : List (Lit × DataW H) → Nat
  | [] => 0
  | x :: r => uptoBulkEntry x + uptoBulkEntries r
def uptoBulkEntry {H : Type} : Lit × DataW H → Nat
  | (.string bytes, d) => bytes.length + uptoBulk d + 1
  | (_, d) => uptoBulk d + 1
 end
def uptoSmall : (H : Type) → List (DataW H) → Bool := fun _ ds => decide (uptoBulkAll ds ≤ 1048576)
def OpenSpec.upto (s : _root_.Go.ChangeSpec) : _root_.Go.OpenSpec := { _root_.Go.OpenSpec.ofChange s with cond := some uptoSmall }

/-- 'quadrillelaw15.VictimPlays', WHERE WHAT IT READS IS OF BULK AT MOST 1048576: true; the input reads as it did. -/
def victimPlaysUptoRow : OpenClaim := { program := "ytmhdapbfpenjpaadoor", sum := "adfc88d66f7e02e5a8fb45a5654a2dec3f4c6f1e084a627ef0d088c488fcfce9", func := "quadrille/quadrillelaw15.VictimPlays", spec := "victimPlays", unfollowed := true, recurses := true, named := ["math/bits.deBruijn32tab"], plainKeys := false, apart := false, laid := [("math/bits.deBruijn32tab", laid_math_bits_deBruijn32tab)], narrowed := true }
def VictimPlaysUptoSaid : Prop := victimPlaysUptoRow.holds Tryd.pinned (OpenSpec.upto victimPlaysSpec)

/-- 'quadrillelaw15.VictimFair', WHERE WHAT IT READS IS OF BULK AT MOST 1048576: true; the input reads as it did. -/
def victimFairUptoRow : OpenClaim := { program := "ytmhdapbfpenjpaadoor", sum := "adfc88d66f7e02e5a8fb45a5654a2dec3f4c6f1e084a627ef0d088c488fcfce9", func := "quadrille/quadrillelaw15.VictimFair", spec := "victimFair", unfollowed := true, recurses := true, named := ["math/bits.deBruijn32tab"], plainKeys := false, apart := false, laid := [("math/bits.deBruijn32tab", laid_math_bits_deBruijn32tab)], narrowed := true }
def VictimFairUptoSaid : Prop := victimFairUptoRow.holds Tryd.pinned (OpenSpec.upto victimFairSpec)

/-- 'quadrillelaw13.ShufflePlays', WHERE WHAT IT READS IS OF BULK AT MOST 1048576: true; the input reads as it did. -/
def shufflePlaysUptoRow : OpenClaim := { program := "ytmhdapbfpenjpaadoor", sum := "adfc88d66f7e02e5a8fb45a5654a2dec3f4c6f1e084a627ef0d088c488fcfce9", func := "quadrille/quadrillelaw13.ShufflePlays", spec := "shufflePlays", inPlace := ["maps.clone"], unfollowed := true, recurses := true, named := ["math/bits.deBruijn32tab"], plainKeys := false, apart := false, laid := [("math/bits.deBruijn32tab", laid_math_bits_deBruijn32tab)], narrowed := true }
def ShufflePlaysUptoSaid : Prop := shufflePlaysUptoRow.holds Tryd.pinned (OpenSpec.upto shufflePlaysSpec)

/-- 'quadrillelaw12.RowsFill', WHERE WHAT IT READS IS OF BULK AT MOST 1048576: true; the input reads as it did. -/
def rowsFillUptoRow : OpenClaim := { program := "ytmhdapbfpenjpaadoor", sum := "adfc88d66f7e02e5a8fb45a5654a2dec3f4c6f1e084a627ef0d088c488fcfce9", func := "quadrille/quadrillelaw12.RowsFill", spec := "rowsFill", unfollowed := true, recurses := true, named := ["math/bits.deBruijn32tab"], plainKeys := false, apart := false, laid := [("math/bits.deBruijn32tab", laid_math_bits_deBruijn32tab)], narrowed := true }
def RowsFillUptoSaid : Prop := rowsFillUptoRow.holds Tryd.pinned (OpenSpec.upto rowsFillSpec)

/-- 'quadrillelaw12.RowsApart', WHERE WHAT IT READS IS OF BULK AT MOST 1048576: true; the input reads as it did. -/
def rowsApartUptoRow : OpenClaim := { program := "ytmhdapbfpenjpaadoor", sum := "adfc88d66f7e02e5a8fb45a5654a2dec3f4c6f1e084a627ef0d088c488fcfce9", func := "quadrille/quadrillelaw12.RowsApart", spec := "rowsApart", unfollowed := true, recurses := true, named := ["math/bits.deBruijn32tab"], plainKeys := false, apart := false, laid := [("math/bits.deBruijn32tab", laid_math_bits_deBruijn32tab)], narrowed := true }
def RowsApartUptoSaid : Prop := rowsApartUptoRow.holds Tryd.pinned (OpenSpec.upto rowsApartSpec)

/-- 'quadrillelaw12.RowsFull', WHERE WHAT IT READS IS OF BULK AT MOST 1048576: true; the input reads as it did. -/
def rowsFullUptoRow : OpenClaim := { program := "ytmhdapbfpenjpaadoor", sum := "adfc88d66f7e02e5a8fb45a5654a2dec3f4c6f1e084a627ef0d088c488fcfce9", func := "quadrille/quadrillelaw12.RowsFull", spec := "rowsFull", unfollowed := true, recurses := true, named := ["math/bits.deBruijn32tab"], plainKeys := false, apart := false, laid := [("math/bits.deBruijn32tab", laid_math_bits_deBruijn32tab)], narrowed := true }
def RowsFullUptoSaid : Prop := rowsFullUptoRow.holds Tryd.pinned (OpenSpec.upto rowsFullSpec)

/-- 'quadrillelaw12.RowsBack', WHERE WHAT IT READS IS OF BULK AT MOST 1048576: true; the input reads as it did. -/
def rowsBackUptoRow : OpenClaim := { program := "ytmhdapbfpenjpaadoor", sum := "adfc88d66f7e02e5a8fb45a5654a2dec3f4c6f1e084a627ef0d088c488fcfce9", func := "quadrille/quadrillelaw12.RowsBack", spec := "rowsBack", inPlace := ["maps.clone"], unfollowed := true, recurses := true, named := ["math/bits.deBruijn32tab"], plainKeys := false, apart := false, laid := [("math/bits.deBruijn32tab", laid_math_bits_deBruijn32tab)], narrowed := true }
def RowsBackUptoSaid : Prop := rowsBackUptoRow.holds Tryd.pinned (OpenSpec.upto rowsBackSpec)

/-- 'quadrillelaw13.ShuffleKeeps', WHERE WHAT IT READS IS OF BULK AT MOST 1048576: true; the input reads as it did. -/
def shuffleKeepsUptoRow : OpenClaim := { program := "ytmhdapbfpenjpaadoor", sum := "adfc88d66f7e02e5a8fb45a5654a2dec3f4c6f1e084a627ef0d088c488fcfce9", func := "quadrille/quadrillelaw13.ShuffleKeeps", spec := "shuffleKeeps", inPlace := ["maps.clone"], unfollowed := true, recurses := true, named := ["math/bits.deBruijn32tab"], plainKeys := false, apart := false, laid := [("math/bits.deBruijn32tab", laid_math_bits_deBruijn32tab)], narrowed := true }
def ShuffleKeepsUptoSaid : Prop := shuffleKeepsUptoRow.holds Tryd.pinned (OpenSpec.upto shuffleKeepsSpec)

/-- 'quadrillelaw13.ShuffleMoves', WHERE WHAT IT READS IS OF BULK AT MOST 1048576: true; the input reads as it did. -/
def shuffleMovesUptoRow : OpenClaim := { program := "ytmhdapbfpenjpaadoor", sum := "adfc88d66f7e02e5a8fb45a5654a2dec3f4c6f1e084a627ef0d088c488fcfce9", func := "quadrille/quadrillelaw13.ShuffleMoves", spec := "shuffleMoves", inPlace := ["maps.clone"], unfollowed := true, recurses := true, named := ["math/bits.deBruijn32tab"], plainKeys := false, apart := false, laid := [("math/bits.deBruijn32tab", laid_math_bits_deBruijn32tab)], narrowed := true }
def ShuffleMovesUptoSaid : Prop := shuffleMovesUptoRow.holds Tryd.pinned (OpenSpec.upto shuffleMovesSpec)

/-- 'quadrillelaw12.RowsPlays', WHERE WHAT IT READS IS OF BULK AT MOST 1048576: true; the input reads as it did. -/
def rowsPlaysUptoRow : OpenClaim := { program := "ytmhdapbfpenjpaadoor", sum := "adfc88d66f7e02e5a8fb45a5654a2dec3f4c6f1e084a627ef0d088c488fcfce9", func := "quadrille/quadrillelaw12.RowsPlays", spec := "rowsPlays", inPlace := ["maps.clone"], unfollowed := true, recurses := true, named := ["math/bits.deBruijn32tab"], plainKeys := false, apart := false, laid := [("math/bits.deBruijn32tab", laid_math_bits_deBruijn32tab)], narrowed := true }
def RowsPlaysUptoSaid : Prop := rowsPlaysUptoRow.holds Tryd.pinned (OpenSpec.upto rowsPlaysSpec)

end Rows
end Go.Proofs.YtmhdapbfpenjpaaDoor
