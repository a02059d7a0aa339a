/- The law CapKeeps returns true at any numbers and any tick; every input is spoken of. -/
import Derived.Test.YtdafbepmilidnaaLaws
import Derived.Test.YtdafbepmilidnaaPlain2
import Derived.Test.YtdafbepmilidnaaLift
namespace Go.Proofs.Ytdafbepmilidnaa
open Go.ChangeShapes Go.WideShapes Go.ChangeAt Go.RowKit
set_option maxHeartbeats 1000000 in
theorem CapKeeps_walk (n lo hi t : Int) (h0 : 0 ≤ t) (h1 : t ≤ 4294967295) (w : World) :
    Calls Try.prog 5 #[.int .i64 n, .int .i64 lo, .int .i64 hi, .int .u32 t] w fun e w' => e = .returned (.bool true) ∧ Below w.heap.size w w' := by
  have hg := later_ge t n h1
  obtain ⟨b0, b1⟩ := later_bd t n h0
  have e1 := Lib.hid (fun w => Later_any t n h0 h1 w)
  have e2 := Lib.hid (fun w => rLater_any t n h0 h1 w)
  go_enter Try.func5, Try.ntmps5
  go_wp2_with (first
    | (go_at_call 10; refine (awake_any _).mono ?_; rintro e w1 ⟨rfl, hb⟩; have HB := Lib.hid hb; clear hb)
    | (go_at_call 13; refine (e1.out _).mono ?_; rintro e w' ⟨rfl, rfl⟩)
    | (go_at_call 16; refine (e2.out _).mono ?_; rintro e w' ⟨rfl, rfl⟩)
    | (go_at_call 14; refine (Keep_any _ _ _ _).mono ?_; rintro e w' ⟨rfl, rfl⟩)
    | (go_at_call 15; refine (rKeep_any _ _ _ _).mono ?_; rintro e w' ⟨rfl, rfl⟩))
  go_ret
  exact ⟨rfl, HB.out⟩
theorem CapKeeps_law {H : Type} (enc : TypeId × Value → H) : LawWalk enc 5 Try.f5 := by
  intro W base args ds before hval hA _ _
  rw [Try.params5] at hA hval
  obtain ⟨v0, vs0, d0, ds0, p0, q0, hargs, rfl, rfl, h0, r0⟩ := trodAll_cons hA
  obtain ⟨v1, vs1, d1, ds1, p1, q1, rfl, rfl, rfl, h1, r1⟩ := trodAll_cons r0
  obtain ⟨v2, vs2, d2, ds2, p2, q2, rfl, rfl, rfl, h2, r2⟩ := trodAll_cons r1
  obtain ⟨v3, vs3, d3, ds3, p3, q3, rfl, rfl, rfl, h3, r3⟩ := trodAll_cons r2
  obtain ⟨rfl, rfl, rfl⟩ := trodAll_nil r3
  obtain rfl : args = #[v0, v1, v2, v3] := by cases args; simp_all
  obtain ⟨a0, rfl, rfl, rfl, w0⟩ := open_int Try.underlying3 (hval 0 3 v0 rfl rfl) h0
  obtain ⟨a1, rfl, rfl, rfl, w1⟩ := open_int Try.underlying3 (hval 1 3 v1 rfl rfl) h1
  obtain ⟨a2, rfl, rfl, rfl, w2⟩ := open_int Try.underlying3 (hval 2 3 v2 rfl rfl) h2
  obtain ⟨a3, rfl, rfl, rfl, w3⟩ := open_int Try.underlying23 (hval 3 23 v3 rfl rfl) h3
  obtain ⟨b0, b1⟩ := bounds_u32 w3
  exact CapKeeps_walk a0 a1 a2 a3 b0 b1 W
set_option maxRecDepth 100000 in
theorem CapKeeps_lifted (os : Os) (started : os.Started) (H : Type) (enc : TypeId × Value → H) :
    ReturnsInHanded {} Try.checked os 5 .any (Rows.capKeepsSpec.pre6 enc Try.prog Try.f5 Rows.capKeepsRow.domain false) (Rows.capKeepsSpec.post enc Try.prog Try.f5 false true false false) :=
  lift_true started Try.func5 (by kernel_rfl)
    (ChangeSpec.witness6 (enc := enc) (C := Try.checked) false ⟨#[], #[.int .i64 0, .int .i64 0, .int .i64 0, .int .u32 0], []⟩ 8 (by kernel_rfl) (by kernel_rfl) (by kernel_rfl) (by kernel_rfl))
    rfl rfl (by kernel_rfl) (fun ds h => by match ds, h with | [a0, a1, a2, a3], _ => rfl) (CapKeeps_law enc)
theorem CapKeeps_over : Rows.capKeepsRow.holds Try.pinned (OpenSpec.ofChange Rows.capKeepsSpec) :=
  OpenClaim.holds_of_wide 5 Try.f5 rfl rfl rfl rfl rfl rfl rfl ⟨rfl, rfl, rfl, rfl, rfl⟩ rfl rfl rfl rfl rfl (by kernel_rfl) Try.func5 (by kernel_rfl)
    (of_decide_eq_true (by kernel_rfl)) (by unfold Func.isWrapper; rw [if_neg (of_decide_eq_false (by kernel_rfl))]; exact ⟨rfl, rfl⟩)
    (fun os started H enc _ => CapKeeps_lifted os started H enc)
theorem CapKeeps_holds : Rows.CapKeepsSaid := CapKeeps_over
#print axioms CapKeeps_holds
end Go.Proofs.Ytdafbepmilidnaa
