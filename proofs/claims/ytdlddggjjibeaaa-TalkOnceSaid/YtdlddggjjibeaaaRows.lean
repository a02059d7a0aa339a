/-
  No cell of these rows narrows 'for every input' (looked for: loops, veiled, ifaces, maps, wideKeys, modest, calm, conditions, laid).
  DERIVED. THE GIVEN ROWS OF THIS SEAT. 6 by the template 'for every input the law returns true; each argument reads behind the call as it read before'; 0 by the template 'total and deterministic' (their statements: YtdlddggjjibeaaaTotals.lean).
  GIVEN WITH THE SEED: the statements are not yours to turn. If you find one false, say at which input.
  Laid BY PROGRAM, IN A SANDBOX (cutbox-rows.mjs): the forced cells as the released guide's own fill.sh prints them over the translation f791a4e0096d5c79… (all of the seat's roots in one cut). By AI agents, Wed Nov 11 2026. No macro, syntax, notation, axiom, sorry.
-/
import Derived.Test.YtdlddggjjibeaaaChecked
import GoSem.Claim
import GoSem.ClaimJoined
import GoSem.ClaimMapViews
import Derived.JoinedTies
import Derived.KernelRfl
namespace Go.Proofs.Ytdlddggjjibeaaa
/- THE CELL 'sum', in the pinned program and in every row, IS THE sha256 OF THE DUMP (.gsa) THAT YtdlddggjjibeaaaProg.lean LOADS. Nothing in Lean hashes anything: it is a label: what it is worth is what the hold of that sum in a sandbox is worth. -/
noncomputable def Try.pinned : Pinned := { name := "ytdlddggjjibeaaa", sum := "f791a4e0096d5c7961af1bee1d8df73c759db480b8d58a0864ed6ee7a92c0df4", checked := Try.checked }
namespace Rows
def none {H : Type} : Left H := { results := [], args := [] }

/-- 'quadrillelaw10.TalkOnce': WHATEVER THE INPUT: true; the input reads as it did. -/
def talkOnceSpec : ChangeSpec := { name := "talkOnce", fn := fun _ => fun
  | [d] => { results := [.lit (.bool true)], args := [d] }
  | _ => none }
def talkOnceRow : OpenClaim := { program := "ytdlddggjjibeaaa", sum := "f791a4e0096d5c7961af1bee1d8df73c759db480b8d58a0864ed6ee7a92c0df4", func := "quadrille/quadrillelaw10.TalkOnce", spec := "talkOnce", unfollowed := true, recurses := true, apart := false }
def TalkOnceSaid : Prop := talkOnceRow.holds Try.pinned (OpenSpec.ofChange talkOnceSpec)

/-- ITS FALSE NEIGHBOUR: 'it returns false'. Refute it at one input. -/
def talkOnceWrong : ChangeSpec := { name := "talkOnce", fn := fun _ => fun
  | [d] => { results := [.lit (.bool false)], args := [d] }
  | _ => none }
def TalkOnceWrongFalsely : Prop := talkOnceRow.holds Try.pinned (OpenSpec.ofChange talkOnceWrong)

/-- 'quadrillelaw10.TalkFull': WHATEVER THE INPUT: true; the input reads as it did. -/
def talkFullSpec : ChangeSpec := { name := "talkFull", fn := fun _ => fun
  | [d] => { results := [.lit (.bool true)], args := [d] }
  | _ => none }
def talkFullRow : OpenClaim := { program := "ytdlddggjjibeaaa", sum := "f791a4e0096d5c7961af1bee1d8df73c759db480b8d58a0864ed6ee7a92c0df4", func := "quadrille/quadrillelaw10.TalkFull", spec := "talkFull", apart := false }
def TalkFullSaid : Prop := talkFullRow.holds Try.pinned (OpenSpec.ofChange talkFullSpec)

/-- ITS FALSE NEIGHBOUR: 'it returns false'. Refute it at one input. -/
def talkFullWrong : ChangeSpec := { name := "talkFull", fn := fun _ => fun
  | [d] => { results := [.lit (.bool false)], args := [d] }
  | _ => none }
def TalkFullWrongFalsely : Prop := talkFullRow.holds Try.pinned (OpenSpec.ofChange talkFullWrong)

/-- 'quadrillelaw10.TalkQuiet': WHATEVER THE INPUT: true; the input reads as it did. -/
def talkQuietSpec : ChangeSpec := { name := "talkQuiet", fn := fun _ => fun
  | [d1, d2, d3] => { results := [.lit (.bool true)], args := [d1, d2, d3] }
  | _ => none }
def talkQuietRow : OpenClaim := { program := "ytdlddggjjibeaaa", sum := "f791a4e0096d5c7961af1bee1d8df73c759db480b8d58a0864ed6ee7a92c0df4", func := "quadrille/quadrillelaw10.TalkQuiet", spec := "talkQuiet", apart := false }
def TalkQuietSaid : Prop := talkQuietRow.holds Try.pinned (OpenSpec.ofChange talkQuietSpec)

/-- ITS FALSE NEIGHBOUR: 'it returns false'. Refute it at one input. -/
def talkQuietWrong : ChangeSpec := { name := "talkQuiet", fn := fun _ => fun
  | [d1, d2, d3] => { results := [.lit (.bool false)], args := [d1, d2, d3] }
  | _ => none }
def TalkQuietWrongFalsely : Prop := talkQuietRow.holds Try.pinned (OpenSpec.ofChange talkQuietWrong)

/-- 'quadrillelaw10.TalkPlays': WHATEVER THE INPUT: true; the input reads as it did. -/
def talkPlaysSpec : ChangeSpec := { name := "talkPlays", fn := fun _ => fun
  | [d1, d2, d3, d4, d5] => { results := [.lit (.bool true)], args := [d1, d2, d3, d4, d5] }
  | _ => none }
def talkPlaysRow : OpenClaim := { program := "ytdlddggjjibeaaa", sum := "f791a4e0096d5c7961af1bee1d8df73c759db480b8d58a0864ed6ee7a92c0df4", func := "quadrille/quadrillelaw10.TalkPlays", spec := "talkPlays", apart := false }
def TalkPlaysSaid : Prop := talkPlaysRow.holds Try.pinned (OpenSpec.ofChange talkPlaysSpec)

/-- ITS FALSE NEIGHBOUR: 'it returns false'. Refute it at one input. -/
def talkPlaysWrong : ChangeSpec := { name := "talkPlays", fn := fun _ => fun
  | [d1, d2, d3, d4, d5] => { results := [.lit (.bool false)], args := [d1, d2, d3, d4, d5] }
  | _ => none }
def TalkPlaysWrongFalsely : Prop := talkPlaysRow.holds Try.pinned (OpenSpec.ofChange talkPlaysWrong)

/-- 'quadrillelaw10.TalkOthers': WHATEVER THE INPUT: true; the input reads as it did. -/
def talkOthersSpec : ChangeSpec := { name := "talkOthers", fn := fun _ => fun
  | [d1, d2] => { results := [.lit (.bool true)], args := [d1, d2] }
  | _ => none }
def talkOthersRow : OpenClaim := { program := "ytdlddggjjibeaaa", sum := "f791a4e0096d5c7961af1bee1d8df73c759db480b8d58a0864ed6ee7a92c0df4", func := "quadrille/quadrillelaw10.TalkOthers", spec := "talkOthers", apart := false }
def TalkOthersSaid : Prop := talkOthersRow.holds Try.pinned (OpenSpec.ofChange talkOthersSpec)

/-- ITS FALSE NEIGHBOUR: 'it returns false'. Refute it at one input. -/
def talkOthersWrong : ChangeSpec := { name := "talkOthers", fn := fun _ => fun
  | [d1, d2] => { results := [.lit (.bool false)], args := [d1, d2] }
  | _ => none }
def TalkOthersWrongFalsely : Prop := talkOthersRow.holds Try.pinned (OpenSpec.ofChange talkOthersWrong)

/-- 'quadrillelaw10.TalkLate': WHATEVER THE INPUT: true; the input reads as it did. -/
def talkLateSpec : ChangeSpec := { name := "talkLate", fn := fun _ => fun
  | [d1, d2] => { results := [.lit (.bool true)], args := [d1, d2] }
  | _ => none }
def talkLateRow : OpenClaim := { program := "ytdlddggjjibeaaa", sum := "f791a4e0096d5c7961af1bee1d8df73c759db480b8d58a0864ed6ee7a92c0df4", func := "quadrille/quadrillelaw10.TalkLate", spec := "talkLate", apart := false }
def TalkLateSaid : Prop := talkLateRow.holds Try.pinned (OpenSpec.ofChange talkLateSpec)

/-- ITS FALSE NEIGHBOUR: 'it returns false'. Refute it at one input. -/
def talkLateWrong : ChangeSpec := { name := "talkLate", fn := fun _ => fun
  | [d1, d2] => { results := [.lit (.bool false)], args := [d1, d2] }
  | _ => none }
def TalkLateWrongFalsely : Prop := talkLateRow.holds Try.pinned (OpenSpec.ofChange talkLateWrong)

/- THE SECOND FORM. 'bulk': how many values and letters a reading holds, each counted each time it is reached (what is shared counts as often as it is met; a slice's spare places count too). A statement '..UptoSaid' is the law's where the arguments, and the package variables that the reading takes, are together of bulk at most 1048576: NARROWER than '..Said'. Prove '..Said' where nothing that the law and all that it calls make is longer than what came in: it says more and counts as full. Else prove '..UptoSaid'. A law counts once. -/
mutual
def uptoBulk {H : Type} : DataW H → Nat
  | .lit (.string bytes) => bytes.length + 1
  | .lit _ => 1
  | .nil => 1
  | .ptr d => uptoBulk d + 1
  | .slice elems spare => uptoBulkAll elems + uptoBulkAll spare + 1
  | .agg parts => uptoBulkAll parts + 1
  | .iface _ d => uptoBulk d + 1
  | .map entries => uptoBulkEntries entries + 1
  | .held _ => 1
def uptoBulkAll {H : Type} : List (DataW H) → Nat
  | [] => 0
  | d :: r => uptoBulk d + uptoBulkAll r
def uptoBulkEntries {H : Type} : List (Lit × DataW H) → Nat
  | [] => 0
  | x :: r => uptoBulkEntry x + uptoBulkEntries r
def uptoBulkEntry {H : Type} : Lit × DataW H → Nat
  | (.string bytes, d) => bytes.length + uptoBulk d + 1
  | (_, d) => uptoBulk d + 1
 end
def uptoSmall : (H : Type) → List (DataW H) → Bool := fun _ ds => decide (uptoBulkAll ds ≤ 1048576)
def OpenSpec.upto (s : _root_.Go.ChangeSpec) : _root_.Go.OpenSpec := { _root_.Go.OpenSpec.ofChange s with cond := some uptoSmall }

/-- 'quadrillelaw10.TalkOnce', WHERE WHAT IT READS IS OF BULK AT MOST 1048576: true; the input reads as it did. -/
def talkOnceUptoRow : OpenClaim := { program := "ytdlddggjjibeaaa", sum := "f791a4e0096d5c7961af1bee1d8df73c759db480b8d58a0864ed6ee7a92c0df4", func := "quadrille/quadrillelaw10.TalkOnce", spec := "talkOnce", unfollowed := true, recurses := true, apart := false, narrowed := true }
def TalkOnceUptoSaid : Prop := talkOnceUptoRow.holds Try.pinned (OpenSpec.upto talkOnceSpec)

/-- 'quadrillelaw10.TalkFull', WHERE WHAT IT READS IS OF BULK AT MOST 1048576: true; the input reads as it did. -/
def talkFullUptoRow : OpenClaim := { program := "ytdlddggjjibeaaa", sum := "f791a4e0096d5c7961af1bee1d8df73c759db480b8d58a0864ed6ee7a92c0df4", func := "quadrille/quadrillelaw10.TalkFull", spec := "talkFull", apart := false, narrowed := true }
def TalkFullUptoSaid : Prop := talkFullUptoRow.holds Try.pinned (OpenSpec.upto talkFullSpec)

/-- 'quadrillelaw10.TalkQuiet', WHERE WHAT IT READS IS OF BULK AT MOST 1048576: true; the input reads as it did. -/
def talkQuietUptoRow : OpenClaim := { program := "ytdlddggjjibeaaa", sum := "f791a4e0096d5c7961af1bee1d8df73c759db480b8d58a0864ed6ee7a92c0df4", func := "quadrille/quadrillelaw10.TalkQuiet", spec := "talkQuiet", apart := false, narrowed := true }
def TalkQuietUptoSaid : Prop := talkQuietUptoRow.holds Try.pinned (OpenSpec.upto talkQuietSpec)

/-- 'quadrillelaw10.TalkPlays', WHERE WHAT IT READS IS OF BULK AT MOST 1048576: true; the input reads as it did. -/
def talkPlaysUptoRow : OpenClaim := { program := "ytdlddggjjibeaaa", sum := "f791a4e0096d5c7961af1bee1d8df73c759db480b8d58a0864ed6ee7a92c0df4", func := "quadrille/quadrillelaw10.TalkPlays", spec := "talkPlays", apart := false, narrowed := true }
def TalkPlaysUptoSaid : Prop := talkPlaysUptoRow.holds Try.pinned (OpenSpec.upto talkPlaysSpec)

/-- 'quadrillelaw10.TalkOthers', WHERE WHAT IT READS IS OF BULK AT MOST 1048576: true; the input reads as it did. -/
def talkOthersUptoRow : OpenClaim := { program := "ytdlddggjjibeaaa", sum := "f791a4e0096d5c7961af1bee1d8df73c759db480b8d58a0864ed6ee7a92c0df4", func := "quadrille/quadrillelaw10.TalkOthers", spec := "talkOthers", apart := false, narrowed := true }
def TalkOthersUptoSaid : Prop := talkOthersUptoRow.holds Try.pinned (OpenSpec.upto talkOthersSpec)

/-- 'quadrillelaw10.TalkLate', WHERE WHAT IT READS IS OF BULK AT MOST 1048576: true; the input reads as it did. -/
def talkLateUptoRow : OpenClaim := { program := "ytdlddggjjibeaaa", sum := "f791a4e0096d5c7961af1bee1d8df73c759db480b8d58a0864ed6ee7a92c0df4", func := "quadrille/quadrillelaw10.TalkLate", spec := "talkLate", apart := false, narrowed := true }
def TalkLateUptoSaid : Prop := talkLateUptoRow.holds Try.pinned (OpenSpec.upto talkLateSpec)

end Rows
end Go.Proofs.Ytdlddggjjibeaaa
