/- cap.Mul, the examples, and the walks of the laws of numbers. -/
import Derived.Test.YtdafbepmilidnaaOver
namespace Go.Proofs.Ytdafbepmilidnaa
open Go.RowKit
theorem mul_nat (a b : Nat) (ha : a ≤ 1099511627776) (hb : b ≤ 1099511627776) : a * b ≤ 1208925819614629174706176 := by
  have := Nat.mul_le_mul ha hb
  omega
set_option maxHeartbeats 400000 in
theorem Mul_any (a b : Int) (w : World) :
    Calls Try.prog 19 #[.int .i64 a, .int .i64 b] w fun e w' => e = .returned (.int .i64 (mulOf a b)) ∧ w = w' := by
  have ha := clamp_lo a; have ha' := clamp_hi a; have hb := clamp_lo b; have hb' := clamp_hi b
  obtain ⟨x, hx⟩ := Int.eq_ofNat_of_zero_le ha
  obtain ⟨y, hy⟩ := Int.eq_ofNat_of_zero_le hb
  have HM : Hid (mulOf a b = if 1099511627776 < (x : Int) * (y : Int) then 1099511627776 else (x : Int) * (y : Int)) := by show _ = _; unfold mulOf; rw [hx, hy]
  have HA := Lib.hid (fun w => hx ▸ in_any a w)
  have HB := Lib.hid (fun w => hy ▸ in_any b w)
  rw [hx] at ha'
  rw [hy] at hb'
  clear hx hy ha hb
  have hxy := mul_nat x y (by omega) (by omega)
  generalize hm : x * y = m at *
  have hm' : (x : Int) * (y : Int) = (m : Int) := by rw [← hm, Int.natCast_mul]
  rw [hm'] at HM
  have HC := Lib.hid (fun w => hm ▸ Try.bits_Mul64 x y (by omega) (by omega) w)
  clear hm hm'
  obtain ⟨hi, hhi⟩ : ∃ hi, hi = m / 18446744073709551616 := ⟨_, rfl⟩
  obtain ⟨lo, hlo⟩ : ∃ lo, lo = m % 18446744073709551616 := ⟨_, rfl⟩
  rw [← hhi, ← hlo] at HC
  have HH := Lib.hid (And.intro hhi hlo)
  have b1 : lo < 18446744073709551616 := by omega
  clear hhi hlo
  by_cases h1 : 0 < hi
  · have HX : Hid (mulOf a b = 1099511627776) := by show _ = _; rw [HM.out, if_pos]; have := HH.out; omega
    clear HH hxy
    go_enter Try.func19, Try.ntmps19
    go_wp2_with fail
    refine (HA.out _).mono ?_
    rintro e w' ⟨rfl, rfl⟩
    go_wp2_with fail
    refine (HB.out _).mono ?_
    rintro e w' ⟨rfl, rfl⟩
    go_wp2_with fail
    refine (HC.out _).mono ?_
    rintro e w' ⟨rfl, rfl⟩
    go_wp2_with fail
    go_ret
    exact ⟨ret_int HX.out.symm, rfl⟩
  · by_cases h2 : 1099511627776 < lo
    · have HX : Hid (mulOf a b = 1099511627776) := by show _ = _; rw [HM.out, if_pos]; have := HH.out; omega
      clear HH hxy
      go_enter Try.func19, Try.ntmps19
      go_wp2_with fail
      refine (HA.out _).mono ?_
      rintro e w' ⟨rfl, rfl⟩
      go_wp2_with fail
      refine (HB.out _).mono ?_
      rintro e w' ⟨rfl, rfl⟩
      go_wp2_with fail
      refine (HC.out _).mono ?_
      rintro e w' ⟨rfl, rfl⟩
      go_wp2_with fail
      go_ret
      exact ⟨ret_int HX.out.symm, rfl⟩
    · have HX : Hid (mulOf a b = (lo : Int)) := by
        show _ = _
        have := HH.out
        have hm : m = lo := by omega
        rw [HM.out, if_neg (by omega), hm]
      clear HH hxy
      go_enter Try.func19, Try.ntmps19
      go_wp2_with fail
      refine (HA.out _).mono ?_
      rintro e w' ⟨rfl, rfl⟩
      go_wp2_with fail
      refine (HB.out _).mono ?_
      rintro e w' ⟨rfl, rfl⟩
      go_wp2_with fail
      refine (HC.out _).mono ?_
      rintro e w' ⟨rfl, rfl⟩
      go_wp2_with fail
      go_ret
      exact ⟨ret_int HX.out.symm, rfl⟩
theorem inTick_ex : InTick [(3, 9), (5, 12)] := by
  intro x hx
  simp at hx
  rcases hx with rfl | rfl <;> decide
theorem overlap_ex : overlapOf [(3, 9), (5, 12)] = 5 := by decide
theorem upOf_ex : upOf 7 3 = 3 := by decide
theorem pairs_ex (w : World) (t : TypeId) : PairsAt (w.alloc (.cells #[.int .u32 3, .int .u32 9, .int .u32 5, .int .u32 12] t)) w.heap.size 0 2 [(3, 9), (5, 12)] := by
  refine ⟨rfl, fun i hi => ?_⟩
  match i, hi with
  | 0, _ => exact ⟨by simp, by simp⟩
  | 1, _ => exact ⟨by simp, by simp⟩
set_option maxHeartbeats 400000 in
theorem awake_any (w : World) :
    Calls Try.prog 10 #[] w fun e w' => e = .returned (.bool true) ∧ Below w.heap.size w w' := by
  have e1 := Lib.hid (fun w => (show clamp (clamp 3 - clamp 5) = 0 by decide) ▸ Sub_any 3 5 w)
  have e2 := Lib.hid (fun w => upOf_ex ▸ Up_any 7 3 w)
  have e3 := Lib.hid (fun (b off len cap : Nat) (w : World) (hb : b < w.heap.size) (hl : PairsAt w b off len [(3, 9), (5, 12)]) (hm : len ≤ 9223372036854775807) => overlap_ex ▸ Overlap_some b off len cap _ w hb hl hm inTick_ex)
  have e4 := Lib.hid (fun w => (show laterOf 4294967294 5 = 4294967295 by decide) ▸ Later_any 4294967294 5 (by decide) (by decide) w)
  go_enter Try.func10, Try.ntmps10
  go_wp2_with fail
  refine (e1.out _).mono ?_
  rintro e w' ⟨rfl, rfl⟩
  go_wp2_with fail
  refine (e2.out _).mono ?_
  rintro e w' ⟨rfl, rfl⟩
  go_wp2_with fail
  refine (e3.out _ _ _ _ _ (by simp) (pairs_ex w _) (by decide)).mono ?_
  rintro e w1 ⟨rfl, hb⟩
  have HB := Lib.hid hb
  clear hb
  go_wp2_with fail
  refine (e4.out _).mono ?_
  rintro e w' ⟨rfl, rfl⟩
  go_wp2_with fail
  go_ret
  exact ⟨rfl, ((Below.refl _ _).alloc (Nat.le_refl _) _).trans (HB.out.mono (by simp))⟩
end Go.Proofs.Ytdafbepmilidnaa
