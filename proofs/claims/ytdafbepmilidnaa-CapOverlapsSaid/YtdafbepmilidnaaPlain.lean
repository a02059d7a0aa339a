/- Plain lemmas on numbers within bounds. Nothing of the program is met here. -/
import Derived.RowKit
namespace Go.Proofs.Ytdafbepmilidnaa
/-- Within 0 and the greatest number. -/
def clamp (n : Int) : Int := if n < 0 then 0 else if 1099511627776 < n then 1099511627776 else n
theorem clamp_bd (n : Int) : 0 ≤ clamp n ∧ clamp n ≤ 1099511627776 := by unfold clamp; split <;> (try split) <;> omega
theorem clamp_lo (n : Int) : 0 ≤ clamp n := (clamp_bd n).1
theorem clamp_hi (n : Int) : clamp n ≤ 1099511627776 := (clamp_bd n).2
theorem clamp_idem (n : Int) : clamp (clamp n) = clamp n := by unfold clamp; omega
/-- The rounded up quotient of two bounded numbers. -/
def upOf (a b : Int) : Int := if clamp b = 0 then 1099511627776 else (clamp a + clamp b - 1) / clamp b
/-- The product of two bounded numbers. -/
def mulOf (a b : Int) : Int := if 1099511627776 < clamp a * clamp b then 1099511627776 else clamp a * clamp b
/-- A number kept within two bounds, the upper one counting last. -/
def keepOf (n lo hi : Int) : Int := min (max (clamp n) (clamp lo)) (clamp hi)
/-- A tick, so much later. -/
def laterOf (t n : Int) : Int := min (t + clamp n) 4294967295
theorem up_eq (a b : Int) (hb : 1 ≤ b) : (a + b - 1) / b = if a / b * b < a then a / b + 1 else a / b := by
  have h1 := Int.emod_add_mul_ediv a b
  have h2 := Int.emod_nonneg a (by omega : b ≠ 0)
  have h3 := Int.emod_lt_of_pos a (by omega : 0 < b)
  have h4 : a / b * b = a - a % b := by rw [Int.mul_comm]; omega
  have e : a + b - 1 = (a % b + b - 1) + b * (a / b) := by omega
  rw [e, Int.add_mul_ediv_left _ _ (by omega)]
  split
  · have : (a % b + b - 1) / b = 1 := by
      rw [show a % b + b - 1 = (a % b - 1) + b * 1 from by omega, Int.add_mul_ediv_left _ _ (by omega), Int.ediv_eq_zero_of_lt (by omega) (by omega)]; rfl
    omega
  · have : (a % b + b - 1) / b = 0 := Int.ediv_eq_zero_of_lt (by omega) (by omega)
    omega
theorem up_bd (a b : Int) : 0 ≤ upOf a b ∧ upOf a b ≤ 1099511627776 := by
  have ha := clamp_bd a
  have hb := clamp_bd b
  unfold upOf
  split
  · omega
  · rename_i h
    have h1 : 1 ≤ clamp b := by omega
    refine ⟨Int.ediv_nonneg (by omega) (by omega), ?_⟩
    rw [up_eq _ _ h1]
    have h2 := Int.ediv_mul_le (clamp a) (by omega : clamp b ≠ 0)
    have h3 := Int.ediv_nonneg ha.1 hb.1
    have h4 : clamp a / clamp b * 1 ≤ clamp a / clamp b * clamp b := Int.mul_le_mul_of_nonneg_left h1 h3
    split <;> omega
theorem mul_bd0 (a b : Int) (ha : 0 ≤ a) (hb : 0 ≤ b) (ha' : a ≤ 1099511627776) (hb' : b ≤ 1099511627776) : 0 ≤ a * b ∧ a * b ≤ 1208925819614629174706176 := by
  refine ⟨Int.mul_nonneg ha hb, ?_⟩
  have h1 : a * b ≤ 1099511627776 * b := Int.mul_le_mul_of_nonneg_right ha' hb
  omega
theorem mul_bd (a b : Int) : 0 ≤ mulOf a b ∧ mulOf a b ≤ 1099511627776 := by
  have ha := clamp_bd a
  have hb := clamp_bd b
  have h := mul_bd0 _ _ ha.1 hb.1 ha.2 hb.2
  unfold mulOf
  split <;> omega
/-- The test by a quotient is the test by a product. -/
theorem quo_lt (a b : Int) (hb : 1 ≤ b) : 1099511627776 / b < a ↔ 1099511627776 < a * b :=
  Int.ediv_lt_iff_lt_mul (by omega)
end Go.Proofs.Ytdafbepmilidnaa
