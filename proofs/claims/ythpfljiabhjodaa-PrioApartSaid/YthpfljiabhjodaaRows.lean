/-
  No cell of these rows narrows 'for every input' (looked for: loops, veiled, ifaces, maps, wideKeys, modest, calm, conditions, laid).
  DERIVED. THE GIVEN ROWS OF THIS SEAT. 5 by the template 'for every input the law returns true; each argument reads behind the call as it read before'; 0 by the template 'total and deterministic' (their statements: YthpfljiabhjodaaTotals.lean).
  GIVEN WITH THE SEED: the statements are not yours to turn. If you find one false, say at which input.
  Laid BY PROGRAM, IN A SANDBOX (cutbox-rows.mjs): the forced cells as the released guide's own fill.sh prints them over the translation 68162f51e19b7b52… (all of the seat's roots in one cut). By AI agents, Wed Nov 11 2026. No macro, syntax, notation, axiom, sorry.
-/
import Derived.Test.YthpfljiabhjodaaChecked
import GoSem.Claim
import GoSem.ClaimJoined
import GoSem.ClaimMapViews
import Derived.JoinedTies
import Derived.KernelRfl
namespace Go.Proofs.Ythpfljiabhjodaa
/- THE CELL 'sum', in the pinned program and in every row, IS THE sha256 OF THE DUMP (.gsa) THAT YthpfljiabhjodaaProg.lean LOADS. Nothing in Lean hashes anything: it is a label: what it is worth is what the hold of that sum in a sandbox is worth. -/
noncomputable def Try.pinned : Pinned := { name := "ythpfljiabhjodaa", sum := "68162f51e19b7b523b8d1fcf35594604e4b6c9d9c6d4279a2ea6f3752f20668b", checked := Try.checked }
namespace Rows
def none {H : Type} : Left H := { results := [], args := [] }

/-- 'quadrillelaw11.PrioOrder': WHATEVER THE INPUT: true; the input reads as it did. -/
def prioOrderSpec : ChangeSpec := { name := "prioOrder", fn := fun _ => fun
  | [d1, d2, d3] => { results := [.lit (.bool true)], args := [d1, d2, d3] }
  | _ => none }
def prioOrderRow : OpenClaim := { program := "ythpfljiabhjodaa", sum := "68162f51e19b7b523b8d1fcf35594604e4b6c9d9c6d4279a2ea6f3752f20668b", func := "quadrille/quadrillelaw11.PrioOrder", spec := "prioOrder", unfollowed := true, recurses := true, apart := false }
def PrioOrderSaid : Prop := prioOrderRow.holds Try.pinned (OpenSpec.ofChange prioOrderSpec)

/-- ITS FALSE NEIGHBOUR: 'it returns false'. Refute it at one input. -/
def prioOrderWrong : ChangeSpec := { name := "prioOrder", fn := fun _ => fun
  | [d1, d2, d3] => { results := [.lit (.bool false)], args := [d1, d2, d3] }
  | _ => none }
def PrioOrderWrongFalsely : Prop := prioOrderRow.holds Try.pinned (OpenSpec.ofChange prioOrderWrong)

/-- 'quadrillelaw11.PrioSorts': WHATEVER THE INPUT: true; the input reads as it did. -/
def prioSortsSpec : ChangeSpec := { name := "prioSorts", fn := fun _ => fun
  | [d] => { results := [.lit (.bool true)], args := [d] }
  | _ => none }
def prioSortsRow : OpenClaim := { program := "ythpfljiabhjodaa", sum := "68162f51e19b7b523b8d1fcf35594604e4b6c9d9c6d4279a2ea6f3752f20668b", func := "quadrille/quadrillelaw11.PrioSorts", spec := "prioSorts", unfollowed := true, recurses := true, apart := false }
def PrioSortsSaid : Prop := prioSortsRow.holds Try.pinned (OpenSpec.ofChange prioSortsSpec)

/-- ITS FALSE NEIGHBOUR: 'it returns false'. Refute it at one input. -/
def prioSortsWrong : ChangeSpec := { name := "prioSorts", fn := fun _ => fun
  | [d] => { results := [.lit (.bool false)], args := [d] }
  | _ => none }
def PrioSortsWrongFalsely : Prop := prioSortsRow.holds Try.pinned (OpenSpec.ofChange prioSortsWrong)

/-- 'quadrillelaw11.PrioMerge': WHATEVER THE INPUT: true; the input reads as it did. -/
def prioMergeSpec : ChangeSpec := { name := "prioMerge", fn := fun _ => fun
  | [d1, d2] => { results := [.lit (.bool true)], args := [d1, d2] }
  | _ => none }
def prioMergeRow : OpenClaim := { program := "ythpfljiabhjodaa", sum := "68162f51e19b7b523b8d1fcf35594604e4b6c9d9c6d4279a2ea6f3752f20668b", func := "quadrille/quadrillelaw11.PrioMerge", spec := "prioMerge", unfollowed := true, recurses := true, apart := false }
def PrioMergeSaid : Prop := prioMergeRow.holds Try.pinned (OpenSpec.ofChange prioMergeSpec)

/-- ITS FALSE NEIGHBOUR: 'it returns false'. Refute it at one input. -/
def prioMergeWrong : ChangeSpec := { name := "prioMerge", fn := fun _ => fun
  | [d1, d2] => { results := [.lit (.bool false)], args := [d1, d2] }
  | _ => none }
def PrioMergeWrongFalsely : Prop := prioMergeRow.holds Try.pinned (OpenSpec.ofChange prioMergeWrong)

/-- 'quadrillelaw11.PrioPlays': WHATEVER THE INPUT: true; the input reads as it did. -/
def prioPlaysSpec : ChangeSpec := { name := "prioPlays", fn := fun _ => fun
  | [d1, d2] => { results := [.lit (.bool true)], args := [d1, d2] }
  | _ => none }
def prioPlaysRow : OpenClaim := { program := "ythpfljiabhjodaa", sum := "68162f51e19b7b523b8d1fcf35594604e4b6c9d9c6d4279a2ea6f3752f20668b", func := "quadrille/quadrillelaw11.PrioPlays", spec := "prioPlays", unfollowed := true, recurses := true, apart := false }
def PrioPlaysSaid : Prop := prioPlaysRow.holds Try.pinned (OpenSpec.ofChange prioPlaysSpec)

/-- ITS FALSE NEIGHBOUR: 'it returns false'. Refute it at one input. -/
def prioPlaysWrong : ChangeSpec := { name := "prioPlays", fn := fun _ => fun
  | [d1, d2] => { results := [.lit (.bool false)], args := [d1, d2] }
  | _ => none }
def PrioPlaysWrongFalsely : Prop := prioPlaysRow.holds Try.pinned (OpenSpec.ofChange prioPlaysWrong)

/-- 'quadrillelaw11.PrioApart': WHATEVER THE INPUT: true; the input reads as it did. -/
def prioApartSpec : ChangeSpec := { name := "prioApart", fn := fun _ => fun
  | [d1, d2] => { results := [.lit (.bool true)], args := [d1, d2] }
  | _ => none }
def prioApartRow : OpenClaim := { program := "ythpfljiabhjodaa", sum := "68162f51e19b7b523b8d1fcf35594604e4b6c9d9c6d4279a2ea6f3752f20668b", func := "quadrille/quadrillelaw11.PrioApart", spec := "prioApart", unfollowed := true, recurses := true, apart := false }
def PrioApartSaid : Prop := prioApartRow.holds Try.pinned (OpenSpec.ofChange prioApartSpec)

/-- ITS FALSE NEIGHBOUR: 'it returns false'. Refute it at one input. -/
def prioApartWrong : ChangeSpec := { name := "prioApart", fn := fun _ => fun
  | [d1, d2] => { results := [.lit (.bool false)], args := [d1, d2] }
  | _ => none }
def PrioApartWrongFalsely : Prop := prioApartRow.holds Try.pinned (OpenSpec.ofChange prioApartWrong)

/- THE SECOND FORM. 'bulk': how many values and letters a reading holds, each counted each time it is reached (what is shared counts as often as it is met; a slice's spare places count too). A statement '..UptoSaid' is the law's where the arguments, and the package variables that the reading takes, are together of bulk at most 1048576: NARROWER than '..Said'. Prove '..Said' where nothing that the law and all that it calls make is longer than what came in: it says more and counts as full. Else prove '..UptoSaid'. A law counts once. -/
mutual
def uptoBulk {H : Type} : DataW H → Nat
  | .lit (.string bytes) => bytes.length + 1
  | .lit _ => 1
  | .nil => 1
  | .ptr d => uptoBulk d + 1
  | .slice elems spare => uptoBulkAll elems + uptoBulkAll spare + 1
  | .agg parts => uptoBulkAll parts + 1
  | .iface _ d => uptoBulk d + 1
  | .map entries => uptoBulkEntries entries + 1
  | .held _ => 1
def uptoBulkAll {H : Type} : List (DataW H) → Nat
  | [] => 0
  | d :: r => uptoBulk d + uptoBulkAll r
def uptoBulkEntries {H : Type} : List (Lit × DataW H) → Nat
  | [] => 0
  | x :: r => uptoBulkEntry x + uptoBulkEntries r
def uptoBulkEntry {H : Type} : Lit × DataW H → Nat
  | (.string bytes, d) => bytes.length + uptoBulk d + 1
  | (_, d) => uptoBulk d + 1
 end
def uptoSmall : (H : Type) → List (DataW H) → Bool := fun _ ds => decide (uptoBulkAll ds ≤ 1048576)
def OpenSpec.upto (s : _root_.Go.ChangeSpec) : _root_.Go.OpenSpec := { _root_.Go.OpenSpec.ofChange s with cond := some uptoSmall }

/-- 'quadrillelaw11.PrioOrder', WHERE WHAT IT READS IS OF BULK AT MOST 1048576: true; the input reads as it did. -/
def prioOrderUptoRow : OpenClaim := { program := "ythpfljiabhjodaa", sum := "68162f51e19b7b523b8d1fcf35594604e4b6c9d9c6d4279a2ea6f3752f20668b", func := "quadrille/quadrillelaw11.PrioOrder", spec := "prioOrder", unfollowed := true, recurses := true, apart := false, narrowed := true }
def PrioOrderUptoSaid : Prop := prioOrderUptoRow.holds Try.pinned (OpenSpec.upto prioOrderSpec)

/-- 'quadrillelaw11.PrioSorts', WHERE WHAT IT READS IS OF BULK AT MOST 1048576: true; the input reads as it did. -/
def prioSortsUptoRow : OpenClaim := { program := "ythpfljiabhjodaa", sum := "68162f51e19b7b523b8d1fcf35594604e4b6c9d9c6d4279a2ea6f3752f20668b", func := "quadrille/quadrillelaw11.PrioSorts", spec := "prioSorts", unfollowed := true, recurses := true, apart := false, narrowed := true }
def PrioSortsUptoSaid : Prop := prioSortsUptoRow.holds Try.pinned (OpenSpec.upto prioSortsSpec)

/-- 'quadrillelaw11.PrioMerge', WHERE WHAT IT READS IS OF BULK AT MOST 1048576: true; the input reads as it did. -/
def prioMergeUptoRow : OpenClaim := { program := "ythpfljiabhjodaa", sum := "68162f51e19b7b523b8d1fcf35594604e4b6c9d9c6d4279a2ea6f3752f20668b", func := "quadrille/quadrillelaw11.PrioMerge", spec := "prioMerge", unfollowed := true, recurses := true, apart := false, narrowed := true }
def PrioMergeUptoSaid : Prop := prioMergeUptoRow.holds Try.pinned (OpenSpec.upto prioMergeSpec)

/-- 'quadrillelaw11.PrioPlays', WHERE WHAT IT READS IS OF BULK AT MOST 1048576: true; the input reads as it did. -/
def prioPlaysUptoRow : OpenClaim := { program := "ythpfljiabhjodaa", sum := "68162f51e19b7b523b8d1fcf35594604e4b6c9d9c6d4279a2ea6f3752f20668b", func := "quadrille/quadrillelaw11.PrioPlays", spec := "prioPlays", unfollowed := true, recurses := true, apart := false, narrowed := true }
def PrioPlaysUptoSaid : Prop := prioPlaysUptoRow.holds Try.pinned (OpenSpec.upto prioPlaysSpec)

/-- 'quadrillelaw11.PrioApart', WHERE WHAT IT READS IS OF BULK AT MOST 1048576: true; the input reads as it did. -/
def prioApartUptoRow : OpenClaim := { program := "ythpfljiabhjodaa", sum := "68162f51e19b7b523b8d1fcf35594604e4b6c9d9c6d4279a2ea6f3752f20668b", func := "quadrille/quadrillelaw11.PrioApart", spec := "prioApart", unfollowed := true, recurses := true, apart := false, narrowed := true }
def PrioApartUptoSaid : Prop := prioApartUptoRow.holds Try.pinned (OpenSpec.upto prioApartSpec)

end Rows
end Go.Proofs.Ythpfljiabhjodaa
