/- The law AirFull returns true at every input: so many fly and no more. -/
import Derived.Test.YthbckdjncmipeaaAirC
namespace Go.Proofs.Ythbckdjncmipeaa
open Go.ChangeShapes Go.WideShapes Go.ChangeAt Go.RowKit
theorem AirFull_law {H : Type} (enc : TypeId × Value → H) : LawWalk enc 4 Try.f4 := by
  intro W base args ds before hval hA _ _
  rw [Try.params4] at hA hval
  obtain ⟨v0, vs0, d0, ds0, p0, q0, hargs, rfl, rfl, h0, r0⟩ := trodAll_cons hA
  obtain ⟨v1, vs1, d1, ds1, p1, q1, rfl, rfl, rfl, h1, r1⟩ := trodAll_cons r0
  obtain ⟨rfl, rfl, rfl⟩ := trodAll_nil r1
  obtain rfl : args = #[v0, v1] := by cases args; simp_all
  obtain ⟨a0, rfl, w0⟩ := arg_int Try.underlying5 (hval 0 5 v0 rfl rfl) h0
  obtain ⟨a1, rfl, w1⟩ := arg_int Try.underlying5 (hval 1 5 v1 rfl rfl) h1
  exact law_run (AirFull_S a0 a1 (u8_rng w0) (u8_rng w1) W)
set_option maxRecDepth 100000 in
theorem AirFull_lifted (os : Os) (started : os.Started) (H : Type) (enc : TypeId × Value → H) :
    ReturnsInHanded {} Try.checked os 4 .any (Rows.airFullSpec.pre6 enc Try.prog Try.f4 Rows.airFullRow.domain false) (Rows.airFullSpec.post enc Try.prog Try.f4 false true false false) :=
  lift_true started Try.func4 (by kernel_rfl)
    (ChangeSpec.witness6 (enc := enc) (C := Try.checked) false ⟨#[], #[.int .u8 0, .int .u8 0], []⟩ 8 (by kernel_rfl) (by kernel_rfl) (by kernel_rfl) (by kernel_rfl))
    rfl rfl (by kernel_rfl) (fun ds h => by match ds, h with | [a0, a1], _ => rfl) (AirFull_law enc)
theorem AirFull_over : Rows.airFullRow.holds Try.pinned (OpenSpec.ofChange Rows.airFullSpec) :=
  OpenClaim.holds_of_wide 4 Try.f4 rfl rfl rfl rfl rfl rfl rfl ⟨rfl, rfl, rfl, rfl, rfl⟩ rfl rfl rfl rfl rfl (by kernel_rfl) Try.func4 (by kernel_rfl)
    (of_decide_eq_true (by kernel_rfl)) (by unfold Func.isWrapper; rw [if_neg (of_decide_eq_false (by kernel_rfl))]; exact ⟨rfl, rfl⟩)
    (fun os started H enc _ => AirFull_lifted os started H enc)
theorem AirFull_holds : Rows.AirFullSaid := AirFull_over
#print axioms AirFull_holds
end Go.Proofs.Ythbckdjncmipeaa
