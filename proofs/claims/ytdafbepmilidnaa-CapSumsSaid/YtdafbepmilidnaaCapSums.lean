/- The law CapSums returns true at any three numbers; every input is spoken of. -/
import Derived.Test.YtdafbepmilidnaaLaws
import Derived.Test.YtdafbepmilidnaaPlain2
import Derived.Test.YtdafbepmilidnaaLift
namespace Go.Proofs.Ytdafbepmilidnaa
open Go.ChangeShapes Go.WideShapes Go.ChangeAt Go.RowKit
set_option maxHeartbeats 2000000 in
theorem CapSums_walk (a b c : Int) (w : World) :
    Calls Try.prog 7 #[.int .i64 a, .int .i64 b, .int .i64 c] w fun e w' => e = .returned (.bool true) ∧ Below w.heap.size w w' := by
  have e1 := Add_any a b
  have e2 := Add_any b a
  have e3 := Add_any (clamp (clamp a + clamp b)) c
  have e4 := Add_any b c
  have e5 := Add_any a (clamp (clamp b + clamp c))
  have e6 := Mul_any a b
  have e7 := Mul_any b a
  have e8 := Sub_any (clamp (clamp a + clamp b)) b
  have e9 := Add_any a 0
  rw [add_comm'] at e2
  rw [add_assoc'] at e5
  rw [mul_comm'] at e7
  have hs : Hid (clamp (clamp a + clamp b) ≠ 1099511627776 → clamp (clamp (clamp (clamp a + clamp b)) - clamp b) = clamp (clamp a + clamp 0)) := add_back a b
  generalize clamp (clamp (clamp (clamp a + clamp b)) + clamp c) = r at *
  generalize clamp (clamp (clamp (clamp a + clamp b)) - clamp b) = d at *
  generalize clamp (clamp a + clamp b) = s at *
  generalize clamp (clamp b + clamp c) = q at *
  generalize mulOf a b = m at *
  generalize clamp (clamp a + clamp 0) = f at *
  have E1 := Lib.hid e1; have E2 := Lib.hid e2; have E3 := Lib.hid e3; have E4 := Lib.hid e4; have E5 := Lib.hid e5; have E6 := Lib.hid e6; have E7 := Lib.hid e7; have E8 := Lib.hid e8; have E9 := Lib.hid e9
  clear e1 e2 e3 e4 e5 e6 e7 e8 e9
  by_cases ht : s = 1099511627776
  · have hq : (s == 1099511627776) = true := by simp [ht]
    clear ht hs
    go_enter Try.func7, Try.ntmps7
    go_wp2_with fail
    refine (awake_any _).mono ?_; rintro e w1 ⟨rfl, hb⟩; have HB := Lib.hid hb; clear hb
    go_wp2_with fail
    refine (E1.out _).mono ?_; rintro e w' ⟨rfl, rfl⟩
    go_wp2_with fail
    refine (E2.out _).mono ?_; rintro e w' ⟨rfl, rfl⟩
    go_wp2_with fail
    refine (E1.out _).mono ?_; rintro e w' ⟨rfl, rfl⟩
    go_wp2_with fail
    refine (E3.out _).mono ?_; rintro e w' ⟨rfl, rfl⟩
    go_wp2_with fail
    refine (E4.out _).mono ?_; rintro e w' ⟨rfl, rfl⟩
    go_wp2_with fail
    refine (E5.out _).mono ?_; rintro e w' ⟨rfl, rfl⟩
    go_wp2_with fail
    refine (E6.out _).mono ?_; rintro e w' ⟨rfl, rfl⟩
    go_wp2_with fail
    refine (E7.out _).mono ?_; rintro e w' ⟨rfl, rfl⟩
    go_wp2_with fail
    refine (E1.out _).mono ?_; rintro e w' ⟨rfl, rfl⟩
    go_wp2_with fail
    go_ret
    exact ⟨rfl, HB.out⟩
  · have hq : (s == 1099511627776) = false := by simp [ht]
    obtain rfl := hs.out ht
    clear ht hs
    go_enter Try.func7, Try.ntmps7
    go_wp2_with fail
    refine (awake_any _).mono ?_; rintro e w1 ⟨rfl, hb⟩; have HB := Lib.hid hb; clear hb
    go_wp2_with fail
    refine (E1.out _).mono ?_; rintro e w' ⟨rfl, rfl⟩
    go_wp2_with fail
    refine (E2.out _).mono ?_; rintro e w' ⟨rfl, rfl⟩
    go_wp2_with fail
    refine (E1.out _).mono ?_; rintro e w' ⟨rfl, rfl⟩
    go_wp2_with fail
    refine (E3.out _).mono ?_; rintro e w' ⟨rfl, rfl⟩
    go_wp2_with fail
    refine (E4.out _).mono ?_; rintro e w' ⟨rfl, rfl⟩
    go_wp2_with fail
    refine (E5.out _).mono ?_; rintro e w' ⟨rfl, rfl⟩
    go_wp2_with fail
    refine (E6.out _).mono ?_; rintro e w' ⟨rfl, rfl⟩
    go_wp2_with fail
    refine (E7.out _).mono ?_; rintro e w' ⟨rfl, rfl⟩
    go_wp2_with fail
    refine (E1.out _).mono ?_; rintro e w' ⟨rfl, rfl⟩
    go_wp2_with fail
    refine (E8.out _).mono ?_; rintro e w' ⟨rfl, rfl⟩
    go_wp2_with fail
    refine (E9.out _).mono ?_; rintro e w' ⟨rfl, rfl⟩
    go_wp2_with fail
    go_ret
    exact ⟨rfl, HB.out⟩
theorem CapSums_law {H : Type} (enc : TypeId × Value → H) : LawWalk enc 7 Try.f7 := by
  intro W base args ds before hval hA _ _
  rw [Try.params7] at hA hval
  obtain ⟨v0, vs0, d0, ds0, p0, q0, hargs, rfl, rfl, h0, r0⟩ := trodAll_cons hA
  obtain ⟨v1, vs1, d1, ds1, p1, q1, rfl, rfl, rfl, h1, r1⟩ := trodAll_cons r0
  obtain ⟨v2, vs2, d2, ds2, p2, q2, rfl, rfl, rfl, h2, r2⟩ := trodAll_cons r1
  obtain ⟨rfl, rfl, rfl⟩ := trodAll_nil r2
  obtain rfl : args = #[v0, v1, v2] := by cases args; simp_all
  obtain ⟨a0, rfl, rfl, rfl, w0⟩ := open_int Try.underlying3 (hval 0 3 v0 rfl rfl) h0
  obtain ⟨a1, rfl, rfl, rfl, w1⟩ := open_int Try.underlying3 (hval 1 3 v1 rfl rfl) h1
  obtain ⟨a2, rfl, rfl, rfl, w2⟩ := open_int Try.underlying3 (hval 2 3 v2 rfl rfl) h2
  exact CapSums_walk a0 a1 a2 W
set_option maxRecDepth 100000 in
theorem CapSums_lifted (os : Os) (started : os.Started) (H : Type) (enc : TypeId × Value → H) :
    ReturnsInHanded {} Try.checked os 7 .any (Rows.capSumsSpec.pre6 enc Try.prog Try.f7 Rows.capSumsRow.domain false) (Rows.capSumsSpec.post enc Try.prog Try.f7 false true false false) :=
  lift_true started Try.func7 (by kernel_rfl)
    (ChangeSpec.witness6 (enc := enc) (C := Try.checked) false ⟨#[], #[.int .i64 0, .int .i64 0, .int .i64 0], []⟩ 8 (by kernel_rfl) (by kernel_rfl) (by kernel_rfl) (by kernel_rfl))
    rfl rfl (by kernel_rfl) (fun ds h => by match ds, h with | [a0, a1, a2], _ => rfl) (CapSums_law enc)
theorem CapSums_over : Rows.capSumsRow.holds Try.pinned (OpenSpec.ofChange Rows.capSumsSpec) :=
  OpenClaim.holds_of_wide 7 Try.f7 rfl rfl rfl rfl rfl rfl rfl ⟨rfl, rfl, rfl, rfl, rfl⟩ rfl rfl rfl rfl rfl (by kernel_rfl) Try.func7 (by kernel_rfl)
    (of_decide_eq_true (by kernel_rfl)) (by unfold Func.isWrapper; rw [if_neg (of_decide_eq_false (by kernel_rfl))]; exact ⟨rfl, rfl⟩)
    (fun os started H enc _ => CapSums_lifted os started H enc)
theorem CapSums_holds : Rows.CapSumsSaid := CapSums_over
#print axioms CapSums_holds
end Go.Proofs.Ytdafbepmilidnaa
