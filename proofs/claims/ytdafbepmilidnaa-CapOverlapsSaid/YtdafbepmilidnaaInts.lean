/- The walks of package cap's and its reference's functions of numbers. -/
import Derived.Test.YtdafbepmilidnaaRows
import Derived.Test.YtdafbepmilidnaaPlain
import Derived.Test.YtdafbepmilidnaaShelf
import Derived.Test.YtdafbepmilidnaaMem
namespace Go.Proofs.Ytdafbepmilidnaa
open Go.RowKit
theorem in_any (n : Int) (w : World) :
    Calls Try.prog 26 #[.int .i64 n] w fun e w' => e = .returned (.int .i64 (clamp n)) ∧ w = w' := by
  go_enter Try.func26, Try.ntmps26
  go_wp2
  all_goals go_ret
  all_goals exact ⟨ret_int (by unfold clamp; omega), rfl⟩
theorem In_any (n : Int) (w : World) :
    Calls Try.prog 27 #[.int .i64 n] w fun e w' => e = .returned (.int .i64 (clamp n)) ∧ w = w' := by
  go_enter Try.func27, Try.ntmps27
  go_wp2
  all_goals go_ret
  all_goals exact ⟨ret_int (by unfold clamp; omega), rfl⟩
theorem Add_any (a b : Int) (w : World) :
    Calls Try.prog 17 #[.int .i64 a, .int .i64 b] w fun e w' => e = .returned (.int .i64 (clamp (clamp a + clamp b))) ∧ w = w' := by
  have ha := clamp_lo a; have ha' := clamp_hi a; have hb := clamp_lo b; have hb' := clamp_hi b
  go_enter Try.func17, Try.ntmps17
  go_wp2_with (go_at_call 26; refine (in_any _ _).mono ?_; rintro e w' ⟨rfl, rfl⟩)
  go_ret
  exact ⟨rfl, rfl⟩
theorem rAdd_any (a b : Int) (w : World) :
    Calls Try.prog 21 #[.int .i64 a, .int .i64 b] w fun e w' => e = .returned (.int .i64 (clamp (clamp a + clamp b))) ∧ w = w' := by
  have ha := clamp_lo a; have ha' := clamp_hi a; have hb := clamp_lo b; have hb' := clamp_hi b
  go_enter Try.func21, Try.ntmps21
  go_wp2_with (go_at_call 27; refine (In_any _ _).mono ?_; rintro e w' ⟨rfl, rfl⟩)
  go_ret
  exact ⟨rfl, rfl⟩
theorem Sub_any (a b : Int) (w : World) :
    Calls Try.prog 18 #[.int .i64 a, .int .i64 b] w fun e w' => e = .returned (.int .i64 (clamp (clamp a - clamp b))) ∧ w = w' := by
  have ha := clamp_lo a; have ha' := clamp_hi a; have hb := clamp_lo b; have hb' := clamp_hi b
  go_enter Try.func18, Try.ntmps18
  go_wp2_with (go_at_call 26; refine (in_any _ _).mono ?_; rintro e w' ⟨rfl, rfl⟩)
  go_ret
  exact ⟨rfl, rfl⟩
theorem rSub_any (a b : Int) (w : World) :
    Calls Try.prog 22 #[.int .i64 a, .int .i64 b] w fun e w' => e = .returned (.int .i64 (clamp (clamp a - clamp b))) ∧ w = w' := by
  have ha := clamp_lo a; have ha' := clamp_hi a; have hb := clamp_lo b; have hb' := clamp_hi b
  go_enter Try.func22, Try.ntmps22
  go_wp2_with (go_at_call 27; refine (In_any _ _).mono ?_; rintro e w' ⟨rfl, rfl⟩)
  go_ret
  exact ⟨rfl, rfl⟩
theorem Left_any (a b : Int) (w : World) :
    Calls Try.prog 25 #[.int .i64 a, .int .i64 b] w fun e w' => e = .returned (.int .i64 (clamp (clamp a - clamp b))) ∧ w = w' := by
  go_enter Try.func25, Try.ntmps25
  go_wp2_with (go_at_call 18; refine (Sub_any _ _ _).mono ?_; rintro e w' ⟨rfl, rfl⟩)
  go_ret
  exact ⟨rfl, rfl⟩
theorem Up_any (a b : Int) (w : World) :
    Calls Try.prog 20 #[.int .i64 a, .int .i64 b] w fun e w' => e = .returned (.int .i64 (upOf a b)) ∧ w = w' := by
  have ha := clamp_lo a; have ha' := clamp_hi a; have hb := clamp_lo b; have hb' := clamp_hi b
  by_cases h : clamp b = 0
  · have hx : upOf a b = 1099511627776 := by unfold upOf; rw [if_pos h]
    have hq : (clamp b == 0) = true := by simp [h]
    have HX := Lib.hid hx; clear hx h
    go_enter Try.func20, Try.ntmps20
    go_wp2_with (go_at_call 26; refine (in_any _ _).mono ?_; rintro e w' ⟨rfl, rfl⟩)
    go_ret
    exact ⟨ret_int HX.out.symm, rfl⟩
  · have hx : upOf a b = (clamp a + clamp b - 1) / clamp b := by unfold upOf; rw [if_neg h]
    have hq : (clamp b == 0) = false := by simp [h]
    have h1 : 1 ≤ clamp b := by omega
    have HX := Lib.hid hx; clear hx h
    go_enter Try.func20, Try.ntmps20
    go_wp2_with (go_at_call 26; refine (in_any _ _).mono ?_; rintro e w' ⟨rfl, rfl⟩)
    go_ret
    exact ⟨ret_int HX.out.symm, rfl⟩
theorem rUp_any (a b : Int) (w : World) :
    Calls Try.prog 24 #[.int .i64 a, .int .i64 b] w fun e w' => e = .returned (.int .i64 (upOf a b)) ∧ w = w' := by
  have ha := clamp_lo a; have ha' := clamp_hi a; have hb := clamp_lo b; have hb' := clamp_hi b
  by_cases h : clamp b = 0
  · have hx : upOf a b = 1099511627776 := by unfold upOf; rw [if_pos h]
    have hq : (clamp b == 0) = true := by simp [h]
    have HX := Lib.hid hx; clear hx h
    go_enter Try.func24, Try.ntmps24
    go_wp2_with (go_at_call 27; refine (In_any _ _).mono ?_; rintro e w' ⟨rfl, rfl⟩)
    go_ret
    exact ⟨ret_int HX.out.symm, rfl⟩
  · have h1 : 1 ≤ clamp b := by omega
    have hx : upOf a b = if clamp a / clamp b * clamp b < clamp a then clamp a / clamp b + 1 else clamp a / clamp b := by unfold upOf; rw [if_neg h]; exact up_eq _ _ h1
    have hq : (clamp b == 0) = false := by simp [h]
    have h2 := Int.ediv_mul_le (clamp a) (by omega : clamp b ≠ 0)
    have h3 := Int.ediv_nonneg ha hb
    have h4 : clamp a / clamp b * 1 ≤ clamp a / clamp b * clamp b := Int.mul_le_mul_of_nonneg_left h1 h3
    have h5 : 0 ≤ clamp a / clamp b * clamp b := by omega
    have h6 : clamp a / clamp b ≤ 1099511627776 := by omega
    have HX := Lib.hid hx; clear hx h h4
    go_enter Try.func24, Try.ntmps24
    go_wp2_with (go_at_call 27; refine (In_any _ _).mono ?_; rintro e w' ⟨rfl, rfl⟩)
    · go_ret
      exact ⟨ret_int (by rw [HX.out, if_pos (by assumption)]), rfl⟩
    · go_ret
      exact ⟨ret_int (by rw [HX.out, if_neg (by omega)]), rfl⟩
theorem Keep_any (n lo hi : Int) (w : World) :
    Calls Try.prog 14 #[.int .i64 n, .int .i64 lo, .int .i64 hi] w fun e w' => e = .returned (.int .i64 (keepOf n lo hi)) ∧ w = w' := by
  go_enter Try.func14, Try.ntmps14
  go_wp2_with (go_at_call 26; refine (in_any _ _).mono ?_; rintro e w' ⟨rfl, rfl⟩)
  all_goals go_ret
  all_goals exact ⟨ret_int (by unfold keepOf; omega), rfl⟩
theorem rKeep_any (n lo hi : Int) (w : World) :
    Calls Try.prog 15 #[.int .i64 n, .int .i64 lo, .int .i64 hi] w fun e w' => e = .returned (.int .i64 (keepOf n lo hi)) ∧ w = w' := by
  go_enter Try.func15, Try.ntmps15
  go_wp2_with (go_at_call 27; refine (In_any _ _).mono ?_; rintro e w' ⟨rfl, rfl⟩)
  all_goals go_ret
  all_goals exact ⟨ret_int (by unfold keepOf; omega), rfl⟩
theorem Later_any (t n : Int) (h0 : 0 ≤ t) (h1 : t ≤ 4294967295) (w : World) :
    Calls Try.prog 13 #[.int .u32 t, .int .i64 n] w fun e w' => e = .returned (.int .u32 (laterOf t n)) ∧ w = w' := by
  have ha := clamp_lo n; have ha' := clamp_hi n
  go_enter Try.func13, Try.ntmps13
  go_wp2_with (go_at_call 26; refine (in_any _ _).mono ?_; rintro e w' ⟨rfl, rfl⟩)
  all_goals go_ret
  all_goals exact ⟨ret_int (by unfold laterOf; omega), rfl⟩
theorem rLater_any (t n : Int) (h0 : 0 ≤ t) (h1 : t ≤ 4294967295) (w : World) :
    Calls Try.prog 16 #[.int .u32 t, .int .i64 n] w fun e w' => e = .returned (.int .u32 (laterOf t n)) ∧ w = w' := by
  have ha := clamp_lo n; have ha' := clamp_hi n
  go_enter Try.func16, Try.ntmps16
  go_wp2_with (go_at_call 27; refine (In_any _ _).mono ?_; rintro e w' ⟨rfl, rfl⟩)
  all_goals go_ret
  all_goals exact ⟨ret_int (by unfold laterOf; omega), rfl⟩
theorem rMul_any (a b : Int) (w : World) :
    Calls Try.prog 23 #[.int .i64 a, .int .i64 b] w fun e w' => e = .returned (.int .i64 (mulOf a b)) ∧ w = w' := by
  have ha := clamp_lo a; have ha' := clamp_hi a; have hb := clamp_lo b; have hb' := clamp_hi b
  by_cases hA : clamp a = 0
  · have hx : mulOf a b = 0 := by unfold mulOf; rw [hA]; simp
    have hq : (clamp a == 0) = true := by simp [hA]
    have HX := Lib.hid hx; clear hx hA
    go_enter Try.func23, Try.ntmps23
    go_wp2_with (go_at_call 27; refine (In_any _ _).mono ?_; rintro e w' ⟨rfl, rfl⟩)
    go_ret
    exact ⟨ret_int HX.out.symm, rfl⟩
  · have hqa : (clamp a == 0) = false := by simp [hA]
    by_cases hB : clamp b = 0
    · have hx : mulOf a b = 0 := by unfold mulOf; rw [hB]; simp
      have hq : (clamp b == 0) = true := by simp [hB]
      have HX := Lib.hid hx; clear hx hA hB
      go_enter Try.func23, Try.ntmps23
      go_wp2_with (go_at_call 27; refine (In_any _ _).mono ?_; rintro e w' ⟨rfl, rfl⟩)
      go_ret
      exact ⟨ret_int HX.out.symm, rfl⟩
    · have hq : (clamp b == 0) = false := by simp [hB]
      have h1 : 1 ≤ clamp b := by omega
      have h2 := quo_lt (clamp a) (clamp b) h1
      have hm := mul_bd0 _ _ ha hb ha' hb'
      by_cases hgt : 1099511627776 / clamp b < clamp a
      · have hx : mulOf a b = 1099511627776 := by unfold mulOf; rw [if_pos (h2.1 hgt)]
        have HX := Lib.hid hx; clear hx hA hB h2 hm
        go_enter Try.func23, Try.ntmps23
        go_wp2_with (go_at_call 27; refine (In_any _ _).mono ?_; rintro e w' ⟨rfl, rfl⟩)
        go_ret
        exact ⟨ret_int HX.out.symm, rfl⟩
      · have hn : ¬ 1099511627776 < clamp a * clamp b := fun h => hgt (h2.2 h)
        have hx : mulOf a b = clamp a * clamp b := by unfold mulOf; rw [if_neg hn]
        have hn' : clamp a * clamp b ≤ 1099511627776 := by omega
        have h0 := hm.1
        have HX := Lib.hid hx; clear hx hA hB h2 hm hn
        go_enter Try.func23, Try.ntmps23
        go_wp2_with (go_at_call 27; refine (In_any _ _).mono ?_; rintro e w' ⟨rfl, rfl⟩)
        go_ret
        exact ⟨ret_int HX.out.symm, rfl⟩
end Go.Proofs.Ytdafbepmilidnaa
