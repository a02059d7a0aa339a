/-
  No cell of these rows narrows 'for every input' (looked for: loops, veiled, ifaces, maps, wideKeys, modest, calm, conditions, laid).
  DERIVED. THE GIVEN ROWS OF THIS SEAT. 8 by the template 'for every input the law returns true; each argument reads behind the call as it read before'; 0 by the template 'total and deterministic' (their statements: YtknpddiffellgaaTotals.lean).
  GIVEN WITH THE SEED: the statements are not yours to turn. If you find one false, say at which input.
  Laid BY PROGRAM, IN A SANDBOX (cutbox-rows.mjs): the forced cells as the released guide's own fill.sh prints them over the translation ee4ac5908efcc40c… (all of the seat's roots in one cut). By AI agents, Wed Nov 11 2026. No macro, syntax, notation, axiom, sorry.
-/
import Derived.Test.YtknpddiffellgaaChecked
import GoSem.Claim
import GoSem.ClaimJoined
import GoSem.ClaimMapViews
import Derived.JoinedTies
import Derived.KernelRfl
namespace Go.Proofs.Ytknpddiffellgaa
/- THE CELL 'sum', in the pinned program and in every row, IS THE sha256 OF THE DUMP (.gsa) THAT YtknpddiffellgaaProg.lean LOADS. Nothing in Lean hashes anything: it is a label: what it is worth is what the hold of that sum in a sandbox is worth. -/
noncomputable def Try.pinned : Pinned := { name := "ytknpddiffellgaa", sum := "ee4ac5908efcc40c391b3257cadfa69eb65d64dafca2f008e243e256357d11c0", checked := Try.checked }
namespace Rows
def none {H : Type} : Left H := { results := [], args := [] }

/-- 'quadrillelaw14.PlanFirst': WHATEVER THE INPUT: true; the input reads as it did. -/
def planFirstSpec : ChangeSpec := { name := "planFirst", fn := fun _ => fun
  | [d1, d2, d3] => { results := [.lit (.bool true)], args := [d1, d2, d3] }
  | _ => none }
def planFirstRow : OpenClaim := { program := "ytknpddiffellgaa", sum := "ee4ac5908efcc40c391b3257cadfa69eb65d64dafca2f008e243e256357d11c0", func := "quadrille/quadrillelaw14.PlanFirst", spec := "planFirst", unfollowed := true, recurses := true, apart := false }
def PlanFirstSaid : Prop := planFirstRow.holds Try.pinned (OpenSpec.ofChange planFirstSpec)

/-- ITS FALSE NEIGHBOUR: 'it returns false'. Refute it at one input. -/
def planFirstWrong : ChangeSpec := { name := "planFirst", fn := fun _ => fun
  | [d1, d2, d3] => { results := [.lit (.bool false)], args := [d1, d2, d3] }
  | _ => none }
def PlanFirstWrongFalsely : Prop := planFirstRow.holds Try.pinned (OpenSpec.ofChange planFirstWrong)

/-- 'quadrillelaw14.PlanAll': WHATEVER THE INPUT: true; the input reads as it did. -/
def planAllSpec : ChangeSpec := { name := "planAll", fn := fun _ => fun
  | [d1, d2] => { results := [.lit (.bool true)], args := [d1, d2] }
  | _ => none }
def planAllRow : OpenClaim := { program := "ytknpddiffellgaa", sum := "ee4ac5908efcc40c391b3257cadfa69eb65d64dafca2f008e243e256357d11c0", func := "quadrille/quadrillelaw14.PlanAll", spec := "planAll", unfollowed := true, recurses := true, apart := false }
def PlanAllSaid : Prop := planAllRow.holds Try.pinned (OpenSpec.ofChange planAllSpec)

/-- ITS FALSE NEIGHBOUR: 'it returns false'. Refute it at one input. -/
def planAllWrong : ChangeSpec := { name := "planAll", fn := fun _ => fun
  | [d1, d2] => { results := [.lit (.bool false)], args := [d1, d2] }
  | _ => none }
def PlanAllWrongFalsely : Prop := planAllRow.holds Try.pinned (OpenSpec.ofChange planAllWrong)

/-- 'quadrillelaw14.PlanRoom': WHATEVER THE INPUT: true; the input reads as it did. -/
def planRoomSpec : ChangeSpec := { name := "planRoom", fn := fun _ => fun
  | [d1, d2] => { results := [.lit (.bool true)], args := [d1, d2] }
  | _ => none }
def planRoomRow : OpenClaim := { program := "ytknpddiffellgaa", sum := "ee4ac5908efcc40c391b3257cadfa69eb65d64dafca2f008e243e256357d11c0", func := "quadrille/quadrillelaw14.PlanRoom", spec := "planRoom", unfollowed := true, recurses := true, apart := false }
def PlanRoomSaid : Prop := planRoomRow.holds Try.pinned (OpenSpec.ofChange planRoomSpec)

/-- ITS FALSE NEIGHBOUR: 'it returns false'. Refute it at one input. -/
def planRoomWrong : ChangeSpec := { name := "planRoom", fn := fun _ => fun
  | [d1, d2] => { results := [.lit (.bool false)], args := [d1, d2] }
  | _ => none }
def PlanRoomWrongFalsely : Prop := planRoomRow.holds Try.pinned (OpenSpec.ofChange planRoomWrong)

/-- 'quadrillelaw14.PlanSoon': WHATEVER THE INPUT: true; the input reads as it did. -/
def planSoonSpec : ChangeSpec := { name := "planSoon", fn := fun _ => fun
  | [d1, d2, d3] => { results := [.lit (.bool true)], args := [d1, d2, d3] }
  | _ => none }
def planSoonRow : OpenClaim := { program := "ytknpddiffellgaa", sum := "ee4ac5908efcc40c391b3257cadfa69eb65d64dafca2f008e243e256357d11c0", func := "quadrille/quadrillelaw14.PlanSoon", spec := "planSoon", unfollowed := true, recurses := true, apart := false }
def PlanSoonSaid : Prop := planSoonRow.holds Try.pinned (OpenSpec.ofChange planSoonSpec)

/-- ITS FALSE NEIGHBOUR: 'it returns false'. Refute it at one input. -/
def planSoonWrong : ChangeSpec := { name := "planSoon", fn := fun _ => fun
  | [d1, d2, d3] => { results := [.lit (.bool false)], args := [d1, d2, d3] }
  | _ => none }
def PlanSoonWrongFalsely : Prop := planSoonRow.holds Try.pinned (OpenSpec.ofChange planSoonWrong)

/-- 'quadrillelaw14.PlanLater': WHATEVER THE INPUT: true; the input reads as it did. -/
def planLaterSpec : ChangeSpec := { name := "planLater", fn := fun _ => fun
  | [d1, d2, d3] => { results := [.lit (.bool true)], args := [d1, d2, d3] }
  | _ => none }
def planLaterRow : OpenClaim := { program := "ytknpddiffellgaa", sum := "ee4ac5908efcc40c391b3257cadfa69eb65d64dafca2f008e243e256357d11c0", func := "quadrille/quadrillelaw14.PlanLater", spec := "planLater", unfollowed := true, recurses := true, apart := false }
def PlanLaterSaid : Prop := planLaterRow.holds Try.pinned (OpenSpec.ofChange planLaterSpec)

/-- ITS FALSE NEIGHBOUR: 'it returns false'. Refute it at one input. -/
def planLaterWrong : ChangeSpec := { name := "planLater", fn := fun _ => fun
  | [d1, d2, d3] => { results := [.lit (.bool false)], args := [d1, d2, d3] }
  | _ => none }
def PlanLaterWrongFalsely : Prop := planLaterRow.holds Try.pinned (OpenSpec.ofChange planLaterWrong)

/-- 'quadrillelaw14.PlanFew': WHATEVER THE INPUT: true; the input reads as it did. -/
def planFewSpec : ChangeSpec := { name := "planFew", fn := fun _ => fun
  | [d1, d2, d3] => { results := [.lit (.bool true)], args := [d1, d2, d3] }
  | _ => none }
def planFewRow : OpenClaim := { program := "ytknpddiffellgaa", sum := "ee4ac5908efcc40c391b3257cadfa69eb65d64dafca2f008e243e256357d11c0", func := "quadrille/quadrillelaw14.PlanFew", spec := "planFew", unfollowed := true, recurses := true, apart := false }
def PlanFewSaid : Prop := planFewRow.holds Try.pinned (OpenSpec.ofChange planFewSpec)

/-- ITS FALSE NEIGHBOUR: 'it returns false'. Refute it at one input. -/
def planFewWrong : ChangeSpec := { name := "planFew", fn := fun _ => fun
  | [d1, d2, d3] => { results := [.lit (.bool false)], args := [d1, d2, d3] }
  | _ => none }
def PlanFewWrongFalsely : Prop := planFewRow.holds Try.pinned (OpenSpec.ofChange planFewWrong)

/-- 'quadrillelaw14.PlanFair': WHATEVER THE INPUT: true; the input reads as it did. -/
def planFairSpec : ChangeSpec := { name := "planFair", fn := fun _ => fun
  | [d1, d2] => { results := [.lit (.bool true)], args := [d1, d2] }
  | _ => none }
def planFairRow : OpenClaim := { program := "ytknpddiffellgaa", sum := "ee4ac5908efcc40c391b3257cadfa69eb65d64dafca2f008e243e256357d11c0", func := "quadrille/quadrillelaw14.PlanFair", spec := "planFair", unfollowed := true, recurses := true, apart := false }
def PlanFairSaid : Prop := planFairRow.holds Try.pinned (OpenSpec.ofChange planFairSpec)

/-- ITS FALSE NEIGHBOUR: 'it returns false'. Refute it at one input. -/
def planFairWrong : ChangeSpec := { name := "planFair", fn := fun _ => fun
  | [d1, d2] => { results := [.lit (.bool false)], args := [d1, d2] }
  | _ => none }
def PlanFairWrongFalsely : Prop := planFairRow.holds Try.pinned (OpenSpec.ofChange planFairWrong)

/-- 'quadrillelaw14.PlanDelays': WHATEVER THE INPUT: true; the input reads as it did. -/
def planDelaysSpec : ChangeSpec := { name := "planDelays", fn := fun _ => fun
  | [d1, d2, d3, d4] => { results := [.lit (.bool true)], args := [d1, d2, d3, d4] }
  | _ => none }
def planDelaysRow : OpenClaim := { program := "ytknpddiffellgaa", sum := "ee4ac5908efcc40c391b3257cadfa69eb65d64dafca2f008e243e256357d11c0", func := "quadrille/quadrillelaw14.PlanDelays", spec := "planDelays", unfollowed := true, recurses := true, apart := false }
def PlanDelaysSaid : Prop := planDelaysRow.holds Try.pinned (OpenSpec.ofChange planDelaysSpec)

/-- ITS FALSE NEIGHBOUR: 'it returns false'. Refute it at one input. -/
def planDelaysWrong : ChangeSpec := { name := "planDelays", fn := fun _ => fun
  | [d1, d2, d3, d4] => { results := [.lit (.bool false)], args := [d1, d2, d3, d4] }
  | _ => none }
def PlanDelaysWrongFalsely : Prop := planDelaysRow.holds Try.pinned (OpenSpec.ofChange planDelaysWrong)

/- THE SECOND FORM. 'bulk': how many values and letters a reading holds, each counted each time it is reached (what is shared counts as often as it is met; a slice's spare places count too). A statement '..UptoSaid' is the law's where the arguments, and the package variables that the reading takes, are together of bulk at most 1048576: NARROWER than '..Said'. Prove '..Said' where nothing that the law and all that it calls make is longer than what came in: it says more and counts as full. Else prove '..UptoSaid'. A law counts once. -/
mutual
def uptoBulk {H : Type} : DataW H → Nat
  | .lit (.string bytes) => bytes.length + 1
  | .lit _ => 1
  | .nil => 1
  | .ptr d => uptoBulk d + 1
  | .slice elems spare => uptoBulkAll elems + uptoBulkAll spare + 1
  | .agg parts => uptoBulkAll parts + 1
  | .iface _ d => uptoBulk d + 1
  | .map entries => uptoBulkEntries entries + 1
  | .held _ => 1
def uptoBulkAll {H : Type} : List (DataW H) → Nat
  | [] => 0
  | d :: r => uptoBulk d + uptoBulkAll r
def uptoBulkEntries {H : Type} : List (Lit × DataW H) → Nat
  | [] => 0
  | x :: r => uptoBulkEntry x + uptoBulkEntries r
def uptoBulkEntry {H : Type} : Lit × DataW H → Nat
  | (.string bytes, d) => bytes.length + uptoBulk d + 1
  | (_, d) => uptoBulk d + 1
 end
def uptoSmall : (H : Type) → List (DataW H) → Bool := fun _ ds => decide (uptoBulkAll ds ≤ 1048576)
def OpenSpec.upto (s : _root_.Go.ChangeSpec) : _root_.Go.OpenSpec := { _root_.Go.OpenSpec.ofChange s with cond := some uptoSmall }

/-- 'quadrillelaw14.PlanFirst', WHERE WHAT IT READS IS OF BULK AT MOST 1048576: true; the input reads as it did. -/
def planFirstUptoRow : OpenClaim := { program := "ytknpddiffellgaa", sum := "ee4ac5908efcc40c391b3257cadfa69eb65d64dafca2f008e243e256357d11c0", func := "quadrille/quadrillelaw14.PlanFirst", spec := "planFirst", unfollowed := true, recurses := true, apart := false, narrowed := true }
def PlanFirstUptoSaid : Prop := planFirstUptoRow.holds Try.pinned (OpenSpec.upto planFirstSpec)

/-- 'quadrillelaw14.PlanAll', WHERE WHAT IT READS IS OF BULK AT MOST 1048576: true; the input reads as it did. -/
def planAllUptoRow : OpenClaim := { program := "ytknpddiffellgaa", sum := "ee4ac5908efcc40c391b3257cadfa69eb65d64dafca2f008e243e256357d11c0", func := "quadrille/quadrillelaw14.PlanAll", spec := "planAll", unfollowed := true, recurses := true, apart := false, narrowed := true }
def PlanAllUptoSaid : Prop := planAllUptoRow.holds Try.pinned (OpenSpec.upto planAllSpec)

/-- 'quadrillelaw14.PlanRoom', WHERE WHAT IT READS IS OF BULK AT MOST 1048576: true; the input reads as it did. -/
def planRoomUptoRow : OpenClaim := { program := "ytknpddiffellgaa", sum := "ee4ac5908efcc40c391b3257cadfa69eb65d64dafca2f008e243e256357d11c0", func := "quadrille/quadrillelaw14.PlanRoom", spec := "planRoom", unfollowed := true, recurses := true, apart := false, narrowed := true }
def PlanRoomUptoSaid : Prop := planRoomUptoRow.holds Try.pinned (OpenSpec.upto planRoomSpec)

/-- 'quadrillelaw14.PlanSoon', WHERE WHAT IT READS IS OF BULK AT MOST 1048576: true; the input reads as it did. -/
def planSoonUptoRow : OpenClaim := { program := "ytknpddiffellgaa", sum := "ee4ac5908efcc40c391b3257cadfa69eb65d64dafca2f008e243e256357d11c0", func := "quadrille/quadrillelaw14.PlanSoon", spec := "planSoon", unfollowed := true, recurses := true, apart := false, narrowed := true }
def PlanSoonUptoSaid : Prop := planSoonUptoRow.holds Try.pinned (OpenSpec.upto planSoonSpec)

/-- 'quadrillelaw14.PlanLater', WHERE WHAT IT READS IS OF BULK AT MOST 1048576: true; the input reads as it did. -/
def planLaterUptoRow : OpenClaim := { program := "ytknpddiffellgaa", sum := "ee4ac5908efcc40c391b3257cadfa69eb65d64dafca2f008e243e256357d11c0", func := "quadrille/quadrillelaw14.PlanLater", spec := "planLater", unfollowed := true, recurses := true, apart := false, narrowed := true }
def PlanLaterUptoSaid : Prop := planLaterUptoRow.holds Try.pinned (OpenSpec.upto planLaterSpec)

/-- 'quadrillelaw14.PlanFew', WHERE WHAT IT READS IS OF BULK AT MOST 1048576: true; the input reads as it did. -/
def planFewUptoRow : OpenClaim := { program := "ytknpddiffellgaa", sum := "ee4ac5908efcc40c391b3257cadfa69eb65d64dafca2f008e243e256357d11c0", func := "quadrille/quadrillelaw14.PlanFew", spec := "planFew", unfollowed := true, recurses := true, apart := false, narrowed := true }
def PlanFewUptoSaid : Prop := planFewUptoRow.holds Try.pinned (OpenSpec.upto planFewSpec)

/-- 'quadrillelaw14.PlanFair', WHERE WHAT IT READS IS OF BULK AT MOST 1048576: true; the input reads as it did. -/
def planFairUptoRow : OpenClaim := { program := "ytknpddiffellgaa", sum := "ee4ac5908efcc40c391b3257cadfa69eb65d64dafca2f008e243e256357d11c0", func := "quadrille/quadrillelaw14.PlanFair", spec := "planFair", unfollowed := true, recurses := true, apart := false, narrowed := true }
def PlanFairUptoSaid : Prop := planFairUptoRow.holds Try.pinned (OpenSpec.upto planFairSpec)

/-- 'quadrillelaw14.PlanDelays', WHERE WHAT IT READS IS OF BULK AT MOST 1048576: true; the input reads as it did. -/
def planDelaysUptoRow : OpenClaim := { program := "ytknpddiffellgaa", sum := "ee4ac5908efcc40c391b3257cadfa69eb65d64dafca2f008e243e256357d11c0", func := "quadrille/quadrillelaw14.PlanDelays", spec := "planDelays", unfollowed := true, recurses := true, apart := false, narrowed := true }
def PlanDelaysUptoSaid : Prop := planDelaysUptoRow.holds Try.pinned (OpenSpec.upto planDelaysSpec)

end Rows
end Go.Proofs.Ytknpddiffellgaa
