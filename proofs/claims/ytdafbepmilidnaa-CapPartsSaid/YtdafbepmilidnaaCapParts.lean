/- The law CapParts returns true at any two numbers; every input is spoken of. -/
import Derived.Test.YtdafbepmilidnaaLaws
import Derived.Test.YtdafbepmilidnaaPlain2
import Derived.Test.YtdafbepmilidnaaLift
namespace Go.Proofs.Ytdafbepmilidnaa
open Go.ChangeShapes Go.WideShapes Go.ChangeAt Go.RowKit
set_option maxHeartbeats 2000000 in
theorem CapParts_walk (a b : Int) (hb0 : -9223372036854775808 ≤ b) (hb1 : b ≤ 9223372036854775807) (w : World) :
    Calls Try.prog 8 #[.int .i64 a, .int .i64 b] w fun e w' => e = .returned (.bool true) ∧ Below w.heap.size w w' := by
  have e1 := Up_any a b
  have hn := up_bd a b
  have e2 := Mul_any (upOf a b) b
  have e3 := Add_any a 0
  have e4 := Mul_any (upOf a b - 1) b
  by_cases hb : b < 1
  · have hq : (upOf a b == 1099511627776) = true := by simp [up_zero a b hb]
    generalize upOf a b = n at *
    have E1 := Lib.hid e1
    clear e1 e2 e3 e4
    go_enter Try.func8, Try.ntmps8
    go_wp2_with fail
    refine (awake_any _).mono ?_; rintro e w1 ⟨rfl, hb⟩; have HB := Lib.hid hb; clear hb
    go_wp2_with fail
    refine (E1.out _).mono ?_; rintro e w' ⟨rfl, rfl⟩
    go_wp2_with fail
    go_ret
    exact ⟨rfl, HB.out⟩
  · have p1 := parts_enough a b (by omega)
    have p2 := parts_fewer a b (by omega)
    obtain ⟨n0, n1⟩ := hn
    generalize mulOf (upOf a b - 1) b = m1 at *
    generalize mulOf (upOf a b) b = m at *
    generalize upOf a b = n at *
    generalize clamp (clamp a + clamp 0) = f at *
    have E1 := Lib.hid e1; have E2 := Lib.hid e2; have E3 := Lib.hid e3; have E4 := Lib.hid e4
    clear e1 e2 e3 e4
    by_cases hz : n = 0
    · have hq : (n == 0) = true := by simp [hz]
      clear hz p2
      go_enter Try.func8, Try.ntmps8
      go_wp2_with fail
      refine (awake_any _).mono ?_; rintro e w1 ⟨rfl, hb⟩; have HB := Lib.hid hb; clear hb
      go_wp2_with fail
      refine (E1.out _).mono ?_; rintro e w' ⟨rfl, rfl⟩
      go_wp2_with fail
      refine (E2.out _).mono ?_; rintro e w' ⟨rfl, rfl⟩
      go_wp2_with fail
      refine (E3.out _).mono ?_; rintro e w' ⟨rfl, rfl⟩
      go_wp2_with fail
      go_ret
      exact ⟨rfl, HB.out⟩
    · have hq : (n == 0) = false := by simp [hz]
      have p3 := p2 hz
      clear hz p2
      go_enter Try.func8, Try.ntmps8
      go_wp2_with fail
      refine (awake_any _).mono ?_; rintro e w1 ⟨rfl, hb⟩; have HB := Lib.hid hb; clear hb
      go_wp2_with fail
      refine (E1.out _).mono ?_; rintro e w' ⟨rfl, rfl⟩
      go_wp2_with fail
      refine (E2.out _).mono ?_; rintro e w' ⟨rfl, rfl⟩
      go_wp2_with fail
      refine (E3.out _).mono ?_; rintro e w' ⟨rfl, rfl⟩
      go_wp2_with fail
      refine (E4.out _).mono ?_; rintro e w' ⟨rfl, rfl⟩
      go_wp2_with fail
      refine (E3.out _).mono ?_; rintro e w' ⟨rfl, rfl⟩
      go_wp2_with fail
      go_ret
      exact ⟨rfl, HB.out⟩
theorem CapParts_law {H : Type} (enc : TypeId × Value → H) : LawWalk enc 8 Try.f8 := by
  intro W base args ds before hval hA _ _
  rw [Try.params8] at hA hval
  obtain ⟨v0, vs0, d0, ds0, p0, q0, hargs, rfl, rfl, h0, r0⟩ := trodAll_cons hA
  obtain ⟨v1, vs1, d1, ds1, p1, q1, rfl, rfl, rfl, h1, r1⟩ := trodAll_cons r0
  obtain ⟨rfl, rfl, rfl⟩ := trodAll_nil r1
  obtain rfl : args = #[v0, v1] := by cases args; simp_all
  obtain ⟨a0, rfl, rfl, rfl, w0⟩ := open_int Try.underlying3 (hval 0 3 v0 rfl rfl) h0
  obtain ⟨a1, rfl, rfl, rfl, w1⟩ := open_int Try.underlying3 (hval 1 3 v1 rfl rfl) h1
  obtain ⟨b0, b1⟩ := bounds_i64 w1
  exact CapParts_walk a0 a1 b0 b1 W
set_option maxRecDepth 100000 in
theorem CapParts_lifted (os : Os) (started : os.Started) (H : Type) (enc : TypeId × Value → H) :
    ReturnsInHanded {} Try.checked os 8 .any (Rows.capPartsSpec.pre6 enc Try.prog Try.f8 Rows.capPartsRow.domain false) (Rows.capPartsSpec.post enc Try.prog Try.f8 false true false false) :=
  lift_true started Try.func8 (by kernel_rfl)
    (ChangeSpec.witness6 (enc := enc) (C := Try.checked) false ⟨#[], #[.int .i64 0, .int .i64 0], []⟩ 8 (by kernel_rfl) (by kernel_rfl) (by kernel_rfl) (by kernel_rfl))
    rfl rfl (by kernel_rfl) (fun ds h => by match ds, h with | [a0, a1], _ => rfl) (CapParts_law enc)
theorem CapParts_over : Rows.capPartsRow.holds Try.pinned (OpenSpec.ofChange Rows.capPartsSpec) :=
  OpenClaim.holds_of_wide 8 Try.f8 rfl rfl rfl rfl rfl rfl rfl ⟨rfl, rfl, rfl, rfl, rfl⟩ rfl rfl rfl rfl rfl (by kernel_rfl) Try.func8 (by kernel_rfl)
    (of_decide_eq_true (by kernel_rfl)) (by unfold Func.isWrapper; rw [if_neg (of_decide_eq_false (by kernel_rfl))]; exact ⟨rfl, rfl⟩)
    (fun os started H enc _ => CapParts_lifted os started H enc)
theorem CapParts_holds : Rows.CapPartsSaid := CapParts_over
#print axioms CapParts_holds
end Go.Proofs.Ytdafbepmilidnaa
