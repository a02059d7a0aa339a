/- The law TalkFull returns true at every input: so many things wait and no more. -/
import Derived.Test.YtdlddggjjibeaaaTalkF
namespace Go.Proofs.Ytdlddggjjibeaaa
open Go.ChangeShapes Go.WideShapes Go.ChangeAt Go.RowKit
theorem TalkFull_law {H : Type} (enc : TypeId × Value → H) : LawWalk enc 4 Try.f4 := by
  intro W base args ds before hval hA _ _
  rw [Try.params4] at hA hval
  obtain ⟨v0, vs0, d0, ds0, p0, q0, hargs, rfl, rfl, h0, r0⟩ := trodAll_cons hA
  obtain ⟨rfl, rfl, rfl⟩ := trodAll_nil r0
  obtain rfl : args = #[v0] := by cases args; simp_all
  obtain ⟨a0, rfl, w0⟩ := arg_int Try.underlying47 (hval 0 47 v0 rfl rfl) h0
  exact law_run (TalkFull_S a0 (u16_rng w0) W)
set_option maxRecDepth 100000 in
theorem TalkFull_lifted (os : Os) (started : os.Started) (H : Type) (enc : TypeId × Value → H) :
    ReturnsInHanded {} Try.checked os 4 .any (Rows.talkFullSpec.pre6 enc Try.prog Try.f4 Rows.talkFullRow.domain false) (Rows.talkFullSpec.post enc Try.prog Try.f4 false true false false) :=
  lift_true started Try.func4 (by kernel_rfl)
    (ChangeSpec.witness6 (enc := enc) (C := Try.checked) false ⟨#[], #[.int .u16 0], []⟩ 8 (by kernel_rfl) (by kernel_rfl) (by kernel_rfl) (by kernel_rfl))
    rfl rfl (by kernel_rfl) (fun ds h => by match ds, h with | [a0], _ => rfl) (TalkFull_law enc)
theorem TalkFull_over : Rows.talkFullRow.holds Try.pinned (OpenSpec.ofChange Rows.talkFullSpec) :=
  OpenClaim.holds_of_wide 4 Try.f4 rfl rfl rfl rfl rfl rfl rfl ⟨rfl, rfl, rfl, rfl, rfl⟩ rfl rfl rfl rfl rfl (by kernel_rfl) Try.func4 (by kernel_rfl)
    (of_decide_eq_true (by kernel_rfl)) (by unfold Func.isWrapper; rw [if_neg (of_decide_eq_false (by kernel_rfl))]; exact ⟨rfl, rfl⟩)
    (fun os started H enc _ => TalkFull_lifted os started H enc)
theorem TalkFull_holds : Rows.TalkFullSaid := TalkFull_over
#print axioms TalkFull_holds
end Go.Proofs.Ytdlddggjjibeaaa
