/- Plain laws of bounded numbers: order, sums, parts. -/
import Derived.Test.YtdafbepmilidnaaPlain
namespace Go.Proofs.Ytdafbepmilidnaa
theorem clamp_mono {a b : Int} (h : a ≤ b) : clamp a ≤ clamp b := by unfold clamp; omega
theorem mul_mono {a b : Int} (c : Int) (h : a ≤ b) : mulOf a c ≤ mulOf b c := by
  have h1 := clamp_mono h
  have h2 := clamp_lo c
  have h3 := Int.mul_le_mul_of_nonneg_right h1 h2
  unfold mulOf
  split <;> split <;> omega
theorem up_mono {a b : Int} (c : Int) (h : a ≤ b) : upOf a c ≤ upOf b c := by
  have h1 := clamp_mono h
  have h2 := clamp_lo c
  unfold upOf
  split
  · omega
  · exact Int.ediv_le_ediv (by omega) (by omega)
theorem add_mono {a b : Int} (c : Int) (h : a ≤ b) : clamp (clamp a + clamp c) ≤ clamp (clamp b + clamp c) := clamp_mono (by have := clamp_mono h; omega)
theorem sub_mono {a b : Int} (c : Int) (h : a ≤ b) : clamp (clamp a - clamp c) ≤ clamp (clamp b - clamp c) := clamp_mono (by have := clamp_mono h; omega)
theorem sub_anti {a b : Int} (c : Int) (h : a ≤ b) : clamp (clamp c - clamp b) ≤ clamp (clamp c - clamp a) := clamp_mono (by have := clamp_mono h; omega)
theorem later_ge (t n : Int) (h : t ≤ 4294967295) : t ≤ laterOf t n := by have := clamp_lo n; unfold laterOf; omega
theorem later_bd (t n : Int) (h : 0 ≤ t) : 0 ≤ laterOf t n ∧ laterOf t n ≤ 4294967295 := by have := clamp_lo n; unfold laterOf; omega
theorem add_comm' (a b : Int) : clamp (clamp b + clamp a) = clamp (clamp a + clamp b) := by rw [Int.add_comm]
theorem add_assoc' (a b c : Int) : clamp (clamp a + clamp (clamp (clamp b + clamp c))) = clamp (clamp (clamp (clamp a + clamp b)) + clamp c) := by
  have ha := clamp_bd a; have hb := clamp_bd b; have hc := clamp_bd c
  generalize clamp a = x at *
  generalize clamp b = y at *
  generalize clamp c = z at *
  unfold clamp; omega
theorem mul_comm' (a b : Int) : mulOf b a = mulOf a b := by unfold mulOf; rw [Int.mul_comm]
theorem add_back (a b : Int) (h : clamp (clamp a + clamp b) ≠ 1099511627776) : clamp (clamp (clamp (clamp a + clamp b)) - clamp b) = clamp (clamp a + clamp 0) := by
  have ha := clamp_bd a; have hb := clamp_bd b
  generalize clamp a = x at *
  generalize clamp b = y at *
  unfold clamp at *; omega
theorem up_zero (a b : Int) (h : b < 1) : upOf a b = 1099511627776 := by
  have : clamp b = 0 := by unfold clamp; omega
  unfold upOf; rw [if_pos this]
/-- So many parts are enough. -/
theorem parts_enough (a b : Int) (h : 1 ≤ b) : clamp (clamp a + clamp 0) ≤ mulOf (upOf a b) b := by
  have ha := clamp_bd a
  have hb := clamp_bd b
  have h1 : 1 ≤ clamp b := by unfold clamp; omega
  have hu := up_bd a b
  have hcu : clamp (upOf a b) = upOf a b := by unfold clamp; omega
  have e : clamp (clamp a + clamp 0) = clamp a := by rw [show clamp 0 = 0 by decide, Int.add_zero, clamp_idem]
  rw [e]
  unfold mulOf
  rw [hcu]
  have hx : upOf a b = (clamp a + clamp b - 1) / clamp b := by unfold upOf; rw [if_neg (by omega)]
  have h2 := Int.emod_add_mul_ediv (clamp a + clamp b - 1) (clamp b)
  have h3 := Int.emod_lt_of_pos (clamp a + clamp b - 1) (by omega : 0 < clamp b)
  rw [← hx, Int.mul_comm] at h2
  split <;> omega
/-- One fewer is not. -/
theorem parts_fewer (a b : Int) (h : 1 ≤ b) (hn : upOf a b ≠ 0) : mulOf (upOf a b - 1) b < clamp (clamp a + clamp 0) := by
  have ha := clamp_bd a
  have hb := clamp_bd b
  have h1 : 1 ≤ clamp b := by unfold clamp; omega
  have hu := up_bd a b
  have hcu : clamp (upOf a b - 1) = upOf a b - 1 := by unfold clamp; omega
  have e : clamp (clamp a + clamp 0) = clamp a := by rw [show clamp 0 = 0 by decide, Int.add_zero, clamp_idem]
  rw [e]
  unfold mulOf
  rw [hcu]
  have hx : upOf a b = (clamp a + clamp b - 1) / clamp b := by unfold upOf; rw [if_neg (by omega)]
  have h2 := Int.emod_add_mul_ediv (clamp a + clamp b - 1) (clamp b)
  have h3 := Int.emod_nonneg (clamp a + clamp b - 1) (by omega : clamp b ≠ 0)
  rw [← hx, Int.mul_comm] at h2
  have h4 : (upOf a b - 1) * clamp b = upOf a b * clamp b - clamp b := by rw [Int.sub_mul, Int.one_mul]
  split <;> omega
end Go.Proofs.Ytdafbepmilidnaa
