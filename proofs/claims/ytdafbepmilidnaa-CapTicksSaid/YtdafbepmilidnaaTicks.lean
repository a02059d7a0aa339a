/- Counting the ticks that lie in all stretches, one by one. -/
import Derived.Test.YtdafbepmilidnaaOver2
namespace Go.Proofs.Ytdafbepmilidnaa
open Go.RowKit
def inAll (l : List (Int × Int)) (t : Int) : Bool := l.all fun x => decide (x.1 ≤ t) && decide (t ≤ x.2)
def cnt (l : List (Int × Int)) (k : Nat) : Nat := ((List.range k).filter fun (t : Nat) => inAll l (t : Int)).length
theorem cnt_zero (l : List (Int × Int)) : cnt l 0 = 0 := rfl
theorem cnt_succ (l : List (Int × Int)) (k : Nat) : cnt l (k + 1) = cnt l k + if inAll l (k : Int) = true then 1 else 0 := by
  unfold cnt
  rw [List.range_succ, List.filter_append, List.length_append]
  by_cases h : inAll l (k : Int) = true
  · simp [h]
  · simp [h]
theorem cnt_le (l : List (Int × Int)) (k : Nat) : cnt l k ≤ k := by
  have := List.length_filter_le (fun t : Nat => inAll l (t : Int)) (List.range k)
  unfold cnt
  simpa using this
def Bytes2 (l : List (Int × Int)) : Prop := ∀ x, x ∈ l → 0 ≤ x.1 ∧ x.1 ≤ 255 ∧ 0 ≤ x.2 ∧ x.2 ≤ 255
theorem Bytes2.inTick {l : List (Int × Int)} (h : Bytes2 l) : InTick l := fun x hx => by have := h x hx; omega
theorem from_iff (l : List (Int × Int)) (t : Int) : ∀ a : Int, l.foldl (fun a x => max a x.1) a ≤ t ↔ a ≤ t ∧ ∀ x, x ∈ l → x.1 ≤ t := by
  induction l with
  | nil => intro a; simp
  | cons y l ih =>
    intro a
    simp only [List.foldl_cons, ih, List.mem_cons, forall_eq_or_imp]
    constructor
    · rintro ⟨h1, h2⟩; exact ⟨by omega, by omega, h2⟩
    · rintro ⟨h1, h2, h3⟩; exact ⟨by omega, h3⟩
theorem to_iff (l : List (Int × Int)) (t : Int) : ∀ a : Int, t ≤ l.foldl (fun a x => min a x.2) a ↔ t ≤ a ∧ ∀ x, x ∈ l → t ≤ x.2 := by
  induction l with
  | nil => intro a; simp
  | cons y l ih =>
    intro a
    simp only [List.foldl_cons, ih, List.mem_cons, forall_eq_or_imp]
    constructor
    · rintro ⟨h1, h2⟩; exact ⟨by omega, by omega, h2⟩
    · rintro ⟨h1, h2, h3⟩; exact ⟨by omega, h3⟩
theorem inAll_iff (l : List (Int × Int)) (t : Int) (h0 : 0 ≤ t) (h1 : t ≤ 4294967295) : inAll l t = true ↔ fromOf l ≤ t ∧ t ≤ toOf l := by
  unfold inAll fromOf toOf
  rw [from_iff, to_iff, List.all_eq_true]
  simp only [Bool.and_eq_true, decide_eq_true_eq]
  exact ⟨fun h => ⟨⟨h0, fun x hx => (h x hx).1⟩, h1, fun x hx => (h x hx).2⟩, fun ⟨⟨_, h2⟩, _, h4⟩ x hx => ⟨h2 x hx, h4 x hx⟩⟩
/-- How many of the first k ticks lie within two ends. -/
def span (a b : Int) (k : Nat) : Int := max 0 (min b ((k : Int) - 1) - a + 1)
theorem cnt_span (l : List (Int × Int)) (hf : 0 ≤ fromOf l) (k : Nat) (hk : k ≤ 256) : (cnt l k : Int) = span (fromOf l) (toOf l) k := by
  induction k with
  | zero => rw [cnt_zero]; unfold span; omega
  | succ k ih =>
    have := ih (by omega)
    rw [cnt_succ]
    by_cases h : inAll l (k : Int) = true
    · have h2 := (inAll_iff l k (by omega) (by omega)).1 h
      rw [if_pos h]
      unfold span at *
      omega
    · have h2 : ¬ (fromOf l ≤ (k : Int) ∧ (k : Int) ≤ toOf l) := fun h3 => h ((inAll_iff l k (by omega) (by omega)).2 h3)
      rw [if_neg h]
      unfold span at *
      omega
theorem ticks_eq (l : List (Int × Int)) (hne : l ≠ []) (h : Bytes2 l) : overlapOf l = (cnt l 256 : Int) := by
  have hf := from_bd l h.inTick
  rw [cnt_span l hf.1 256 (by omega)]
  obtain ⟨x, hx⟩ := List.exists_mem_of_ne_nil l hne
  have h1 := (foldl_min_le l 4294967295).2 x hx
  have h2 := h x hx
  have h3 : toOf l ≤ 255 := by unfold toOf; omega
  unfold overlapOf span
  rw [if_neg hne]
  split <;> omega
theorem inAll_snoc (l : List (Int × Int)) (x : Int × Int) (t : Int) : inAll (l ++ [x]) t = (inAll l t && (decide (x.1 ≤ t) && decide (t ≤ x.2))) := by simp [inAll]
end Go.Proofs.Ytdafbepmilidnaa
