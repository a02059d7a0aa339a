/-
  No cell of these rows narrows 'for every input' (looked for: loops, veiled, ifaces, maps, wideKeys, modest, calm, conditions, laid).
  DERIVED. THE GIVEN ROWS OF THIS SEAT. 7 by the template 'for every input the law returns true; each argument reads behind the call as it read before'; 0 by the template 'total and deterministic' (their statements: YtdafbepmilidnaaTotals.lean).
  GIVEN WITH THE SEED: the statements are not yours to turn. If you find one false, say at which input.
  Laid BY PROGRAM, IN A SANDBOX (cutbox-rows.mjs): the forced cells as the released guide's own fill.sh prints them over the translation 2c127b35cb42255c… (all of the seat's roots in one cut). By AI agents, Wed Nov 11 2026. No macro, syntax, notation, axiom, sorry.
-/
import Derived.Test.YtdafbepmilidnaaChecked
import GoSem.Claim
import GoSem.ClaimJoined
import GoSem.ClaimMapViews
import Derived.JoinedTies
import Derived.KernelRfl
namespace Go.Proofs.Ytdafbepmilidnaa
/- THE CELL 'sum', in the pinned program and in every row, IS THE sha256 OF THE DUMP (.gsa) THAT YtdafbepmilidnaaProg.lean LOADS. Nothing in Lean hashes anything: it is a label: what it is worth is what the hold of that sum in a sandbox is worth. -/
noncomputable def Try.pinned : Pinned := { name := "ytdafbepmilidnaa", sum := "2c127b35cb42255c9e6fd53ca5aeb1c6301f22552261744e3f52ddd1989a639b", checked := Try.checked }
namespace Rows
def none {H : Type} : Left H := { results := [], args := [] }

/-- 'quadrillelaw03.CapOverlaps': WHATEVER THE INPUT: true; the input reads as it did. -/
def capOverlapsSpec : ChangeSpec := { name := "capOverlaps", fn := fun _ => fun
  | [d1, d2] => { results := [.lit (.bool true)], args := [d1, d2] }
  | _ => none }
def capOverlapsRow : OpenClaim := { program := "ytdafbepmilidnaa", sum := "2c127b35cb42255c9e6fd53ca5aeb1c6301f22552261744e3f52ddd1989a639b", func := "quadrille/quadrillelaw03.CapOverlaps", spec := "capOverlaps", apart := false }
def CapOverlapsSaid : Prop := capOverlapsRow.holds Try.pinned (OpenSpec.ofChange capOverlapsSpec)

/-- ITS FALSE NEIGHBOUR: 'it returns false'. Refute it at one input. -/
def capOverlapsWrong : ChangeSpec := { name := "capOverlaps", fn := fun _ => fun
  | [d1, d2] => { results := [.lit (.bool false)], args := [d1, d2] }
  | _ => none }
def CapOverlapsWrongFalsely : Prop := capOverlapsRow.holds Try.pinned (OpenSpec.ofChange capOverlapsWrong)

/-- 'quadrillelaw03.CapTicks': WHATEVER THE INPUT: true; the input reads as it did. -/
def capTicksSpec : ChangeSpec := { name := "capTicks", fn := fun _ => fun
  | [d] => { results := [.lit (.bool true)], args := [d] }
  | _ => none }
def capTicksRow : OpenClaim := { program := "ytdafbepmilidnaa", sum := "2c127b35cb42255c9e6fd53ca5aeb1c6301f22552261744e3f52ddd1989a639b", func := "quadrille/quadrillelaw03.CapTicks", spec := "capTicks", apart := false }
def CapTicksSaid : Prop := capTicksRow.holds Try.pinned (OpenSpec.ofChange capTicksSpec)

/-- ITS FALSE NEIGHBOUR: 'it returns false'. Refute it at one input. -/
def capTicksWrong : ChangeSpec := { name := "capTicks", fn := fun _ => fun
  | [d] => { results := [.lit (.bool false)], args := [d] }
  | _ => none }
def CapTicksWrongFalsely : Prop := capTicksRow.holds Try.pinned (OpenSpec.ofChange capTicksWrong)

/-- 'quadrillelaw03.CapKeeps': WHATEVER THE INPUT: true; the input reads as it did. -/
def capKeepsSpec : ChangeSpec := { name := "capKeeps", fn := fun _ => fun
  | [d1, d2, d3, d4] => { results := [.lit (.bool true)], args := [d1, d2, d3, d4] }
  | _ => none }
def capKeepsRow : OpenClaim := { program := "ytdafbepmilidnaa", sum := "2c127b35cb42255c9e6fd53ca5aeb1c6301f22552261744e3f52ddd1989a639b", func := "quadrille/quadrillelaw03.CapKeeps", spec := "capKeeps", apart := false }
def CapKeepsSaid : Prop := capKeepsRow.holds Try.pinned (OpenSpec.ofChange capKeepsSpec)

/-- ITS FALSE NEIGHBOUR: 'it returns false'. Refute it at one input. -/
def capKeepsWrong : ChangeSpec := { name := "capKeeps", fn := fun _ => fun
  | [d1, d2, d3, d4] => { results := [.lit (.bool false)], args := [d1, d2, d3, d4] }
  | _ => none }
def CapKeepsWrongFalsely : Prop := capKeepsRow.holds Try.pinned (OpenSpec.ofChange capKeepsWrong)

/-- 'quadrillelaw03.CapOrder': WHATEVER THE INPUT: true; the input reads as it did. -/
def capOrderSpec : ChangeSpec := { name := "capOrder", fn := fun _ => fun
  | [d1, d2, d3] => { results := [.lit (.bool true)], args := [d1, d2, d3] }
  | _ => none }
def capOrderRow : OpenClaim := { program := "ytdafbepmilidnaa", sum := "2c127b35cb42255c9e6fd53ca5aeb1c6301f22552261744e3f52ddd1989a639b", func := "quadrille/quadrillelaw03.CapOrder", spec := "capOrder", apart := false }
def CapOrderSaid : Prop := capOrderRow.holds Try.pinned (OpenSpec.ofChange capOrderSpec)

/-- ITS FALSE NEIGHBOUR: 'it returns false'. Refute it at one input. -/
def capOrderWrong : ChangeSpec := { name := "capOrder", fn := fun _ => fun
  | [d1, d2, d3] => { results := [.lit (.bool false)], args := [d1, d2, d3] }
  | _ => none }
def CapOrderWrongFalsely : Prop := capOrderRow.holds Try.pinned (OpenSpec.ofChange capOrderWrong)

/-- 'quadrillelaw03.CapSums': WHATEVER THE INPUT: true; the input reads as it did. -/
def capSumsSpec : ChangeSpec := { name := "capSums", fn := fun _ => fun
  | [d1, d2, d3] => { results := [.lit (.bool true)], args := [d1, d2, d3] }
  | _ => none }
def capSumsRow : OpenClaim := { program := "ytdafbepmilidnaa", sum := "2c127b35cb42255c9e6fd53ca5aeb1c6301f22552261744e3f52ddd1989a639b", func := "quadrille/quadrillelaw03.CapSums", spec := "capSums", apart := false }
def CapSumsSaid : Prop := capSumsRow.holds Try.pinned (OpenSpec.ofChange capSumsSpec)

/-- ITS FALSE NEIGHBOUR: 'it returns false'. Refute it at one input. -/
def capSumsWrong : ChangeSpec := { name := "capSums", fn := fun _ => fun
  | [d1, d2, d3] => { results := [.lit (.bool false)], args := [d1, d2, d3] }
  | _ => none }
def CapSumsWrongFalsely : Prop := capSumsRow.holds Try.pinned (OpenSpec.ofChange capSumsWrong)

/-- 'quadrillelaw03.CapParts': WHATEVER THE INPUT: true; the input reads as it did. -/
def capPartsSpec : ChangeSpec := { name := "capParts", fn := fun _ => fun
  | [d1, d2] => { results := [.lit (.bool true)], args := [d1, d2] }
  | _ => none }
def capPartsRow : OpenClaim := { program := "ytdafbepmilidnaa", sum := "2c127b35cb42255c9e6fd53ca5aeb1c6301f22552261744e3f52ddd1989a639b", func := "quadrille/quadrillelaw03.CapParts", spec := "capParts", apart := false }
def CapPartsSaid : Prop := capPartsRow.holds Try.pinned (OpenSpec.ofChange capPartsSpec)

/-- ITS FALSE NEIGHBOUR: 'it returns false'. Refute it at one input. -/
def capPartsWrong : ChangeSpec := { name := "capParts", fn := fun _ => fun
  | [d1, d2] => { results := [.lit (.bool false)], args := [d1, d2] }
  | _ => none }
def CapPartsWrongFalsely : Prop := capPartsRow.holds Try.pinned (OpenSpec.ofChange capPartsWrong)

/-- 'quadrillelaw03.CapNumbers': WHATEVER THE INPUT: true; the input reads as it did. -/
def capNumbersSpec : ChangeSpec := { name := "capNumbers", fn := fun _ => fun
  | [d1, d2] => { results := [.lit (.bool true)], args := [d1, d2] }
  | _ => none }
def capNumbersRow : OpenClaim := { program := "ytdafbepmilidnaa", sum := "2c127b35cb42255c9e6fd53ca5aeb1c6301f22552261744e3f52ddd1989a639b", func := "quadrille/quadrillelaw03.CapNumbers", spec := "capNumbers", apart := false }
def CapNumbersSaid : Prop := capNumbersRow.holds Try.pinned (OpenSpec.ofChange capNumbersSpec)

/-- ITS FALSE NEIGHBOUR: 'it returns false'. Refute it at one input. -/
def capNumbersWrong : ChangeSpec := { name := "capNumbers", fn := fun _ => fun
  | [d1, d2] => { results := [.lit (.bool false)], args := [d1, d2] }
  | _ => none }
def CapNumbersWrongFalsely : Prop := capNumbersRow.holds Try.pinned (OpenSpec.ofChange capNumbersWrong)

/- THE SECOND FORM. 'bulk': how many values and letters a reading holds, each counted each time it is reached (what is shared counts as often as it is met; a slice's spare places count too). A statement '..UptoSaid' is the law's where the arguments, and the package variables that the reading takes, are together of bulk at most 1048576: NARROWER than '..Said'. Prove '..Said' where nothing that the law and all that it calls make is longer than what came in: it says more and counts as full. Else prove '..UptoSaid'. A law counts once. -/
mutual
def uptoBulk {H : Type} : DataW H → Nat
  | .lit (.string bytes) => bytes.length + 1
  | .lit _ => 1
  | .nil => 1
  | .ptr d => uptoBulk d + 1
  | .slice elems spare => uptoBulkAll elems + uptoBulkAll spare + 1
  | .agg parts => uptoBulkAll parts + 1
  | .iface _ d => uptoBulk d + 1
  | .map entries => uptoBulkEntries entries + 1
  | .held _ => 1
def uptoBulkAll {H : Type} : List (DataW H) → Nat
  | [] => 0
  | d :: r => uptoBulk d + uptoBulkAll r
def uptoBulkEntries {H : Type} : List (Lit × DataW H) → Nat
  | [] => 0
  | x :: r => uptoBulkEntry x + uptoBulkEntries r
def uptoBulkEntry {H : Type} : Lit × DataW H → Nat
  | (.string bytes, d) => bytes.length + uptoBulk d + 1
  | (_, d) => uptoBulk d + 1
 end
def uptoSmall : (H : Type) → List (DataW H) → Bool := fun _ ds => decide (uptoBulkAll ds ≤ 1048576)
def OpenSpec.upto (s : _root_.Go.ChangeSpec) : _root_.Go.OpenSpec := { _root_.Go.OpenSpec.ofChange s with cond := some uptoSmall }

/-- 'quadrillelaw03.CapOverlaps', WHERE WHAT IT READS IS OF BULK AT MOST 1048576: true; the input reads as it did. -/
def capOverlapsUptoRow : OpenClaim := { program := "ytdafbepmilidnaa", sum := "2c127b35cb42255c9e6fd53ca5aeb1c6301f22552261744e3f52ddd1989a639b", func := "quadrille/quadrillelaw03.CapOverlaps", spec := "capOverlaps", apart := false, narrowed := true }
def CapOverlapsUptoSaid : Prop := capOverlapsUptoRow.holds Try.pinned (OpenSpec.upto capOverlapsSpec)

/-- 'quadrillelaw03.CapTicks', WHERE WHAT IT READS IS OF BULK AT MOST 1048576: true; the input reads as it did. -/
def capTicksUptoRow : OpenClaim := { program := "ytdafbepmilidnaa", sum := "2c127b35cb42255c9e6fd53ca5aeb1c6301f22552261744e3f52ddd1989a639b", func := "quadrille/quadrillelaw03.CapTicks", spec := "capTicks", apart := false, narrowed := true }
def CapTicksUptoSaid : Prop := capTicksUptoRow.holds Try.pinned (OpenSpec.upto capTicksSpec)

/-- 'quadrillelaw03.CapKeeps', WHERE WHAT IT READS IS OF BULK AT MOST 1048576: true; the input reads as it did. -/
def capKeepsUptoRow : OpenClaim := { program := "ytdafbepmilidnaa", sum := "2c127b35cb42255c9e6fd53ca5aeb1c6301f22552261744e3f52ddd1989a639b", func := "quadrille/quadrillelaw03.CapKeeps", spec := "capKeeps", apart := false, narrowed := true }
def CapKeepsUptoSaid : Prop := capKeepsUptoRow.holds Try.pinned (OpenSpec.upto capKeepsSpec)

/-- 'quadrillelaw03.CapOrder', WHERE WHAT IT READS IS OF BULK AT MOST 1048576: true; the input reads as it did. -/
def capOrderUptoRow : OpenClaim := { program := "ytdafbepmilidnaa", sum := "2c127b35cb42255c9e6fd53ca5aeb1c6301f22552261744e3f52ddd1989a639b", func := "quadrille/quadrillelaw03.CapOrder", spec := "capOrder", apart := false, narrowed := true }
def CapOrderUptoSaid : Prop := capOrderUptoRow.holds Try.pinned (OpenSpec.upto capOrderSpec)

/-- 'quadrillelaw03.CapSums', WHERE WHAT IT READS IS OF BULK AT MOST 1048576: true; the input reads as it did. -/
def capSumsUptoRow : OpenClaim := { program := "ytdafbepmilidnaa", sum := "2c127b35cb42255c9e6fd53ca5aeb1c6301f22552261744e3f52ddd1989a639b", func := "quadrille/quadrillelaw03.CapSums", spec := "capSums", apart := false, narrowed := true }
def CapSumsUptoSaid : Prop := capSumsUptoRow.holds Try.pinned (OpenSpec.upto capSumsSpec)

/-- 'quadrillelaw03.CapParts', WHERE WHAT IT READS IS OF BULK AT MOST 1048576: true; the input reads as it did. -/
def capPartsUptoRow : OpenClaim := { program := "ytdafbepmilidnaa", sum := "2c127b35cb42255c9e6fd53ca5aeb1c6301f22552261744e3f52ddd1989a639b", func := "quadrille/quadrillelaw03.CapParts", spec := "capParts", apart := false, narrowed := true }
def CapPartsUptoSaid : Prop := capPartsUptoRow.holds Try.pinned (OpenSpec.upto capPartsSpec)

/-- 'quadrillelaw03.CapNumbers', WHERE WHAT IT READS IS OF BULK AT MOST 1048576: true; the input reads as it did. -/
def capNumbersUptoRow : OpenClaim := { program := "ytdafbepmilidnaa", sum := "2c127b35cb42255c9e6fd53ca5aeb1c6301f22552261744e3f52ddd1989a639b", func := "quadrille/quadrillelaw03.CapNumbers", spec := "capNumbers", apart := false, narrowed := true }
def CapNumbersUptoSaid : Prop := capNumbersUptoRow.holds Try.pinned (OpenSpec.upto capNumbersSpec)

end Rows
end Go.Proofs.Ytdafbepmilidnaa
