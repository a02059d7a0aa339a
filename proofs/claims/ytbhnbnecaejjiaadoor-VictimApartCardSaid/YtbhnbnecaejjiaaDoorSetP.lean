/- Sets of sixteen bits: what is in them, in order. Of no program. -/
import Derived.Test.YtbhnbnecaejjiaaDoorRd
namespace Go.Proofs.YtbhnbnecaejjiaaDoor
open Go.RowKit
abbrev Bs := BitVec 16
abbrev bsv (s : Bs) : Value := .int .u16 (s.toNat : Int)
/-- Two rising lists with the same members are one. -/
theorem rise_ext {l m : List Nat} (hl : l.Pairwise (· < ·)) (hm : m.Pairwise (· < ·)) (h : ∀ x, x ∈ l ↔ x ∈ m) : l = m := by
  refine List.Perm.eq_of_pairwise (le := (· < ·)) (fun a b _ _ h1 h2 => by omega) hl hm ?_
  refine (List.perm_ext_iff_of_nodup (hl.imp fun h => Nat.ne_of_lt h) (hm.imp fun h => Nat.ne_of_lt h)).2 h
def lst (s : Bs) : List Nat := (List.range 16).filter fun i => s.getLsbD i
theorem lst_rise (s : Bs) : (lst s).Pairwise (· < ·) := List.pairwise_lt_range.filter _
theorem mem_lst {s : Bs} {i : Nat} : i ∈ lst s ↔ s.getLsbD i = true := by
  simp only [lst, List.mem_filter, List.mem_range, and_iff_right_iff_imp]
  exact fun h => BitVec.lt_of_getLsbD h
theorem lst_lt {s : Bs} {i : Nat} (h : i ∈ lst s) : i < 16 := BitVec.lt_of_getLsbD (mem_lst.1 h)
theorem lst_ext {s t : Bs} (h : ∀ i, s.getLsbD i = true ↔ t.getLsbD i = true) : s = t := by
  refine BitVec.eq_of_getLsbD_eq fun i _ => ?_
  have := h i
  cases h1 : s.getLsbD i <;> cases h2 : t.getLsbD i <;> simp_all
theorem lst_inj {s t : Bs} (h : lst s = lst t) : s = t := lst_ext fun i => by rw [← mem_lst, ← mem_lst, h]
theorem lst_zero : lst 0#16 = [] := by decide
theorem lst_nil {s : Bs} : lst s = [] ↔ s = 0#16 := ⟨fun h => lst_inj (h.trans lst_zero.symm), fun h => by rw [h, lst_zero]⟩
theorem lst_len (s : Bs) : (lst s).length ≤ 16 := by
  have := List.length_filter_le (fun i => s.getLsbD i) (List.range 16)
  rw [List.length_range] at this
  exact this
/-- The least of a set; 16 of none. -/
def tz (s : Bs) : Nat := (lst s).head?.getD 16
theorem tz_zero : tz 0#16 = 16 := by rw [tz, lst_zero]; rfl
theorem tz_cons {s : Bs} {t : Nat} {l : List Nat} (h : lst s = t :: l) : tz s = t := by rw [tz, h]; rfl
theorem tz_le (s : Bs) : tz s ≤ 16 := by
  cases h : lst s with
  | nil => rw [tz, h]; exact Nat.le_refl _
  | cons t l => rw [tz_cons h]; exact Nat.le_of_lt (lst_lt (h ▸ List.mem_cons_self))
theorem tz_mem {s : Bs} (h : s ≠ 0#16) : tz s ∈ lst s := by
  cases e : lst s with
  | nil => exact absurd (lst_nil.1 e) h
  | cons t l => rw [tz_cons e]; exact List.mem_cons_self
theorem tz_least {s : Bs} {i : Nat} (h : i ∈ lst s) : tz s ≤ i := by
  cases e : lst s with
  | nil => rw [e] at h; cases h
  | cons t l =>
    rw [tz_cons e]
    rw [e] at h
    have hr := lst_rise s
    rw [e] at hr
    rcases List.mem_cons.1 h with rfl | h
    · exact Nat.le_refl _
    · exact Nat.le_of_lt ((List.pairwise_cons.1 hr).1 i h)
/-- Is there a lesser one? -/
theorem lesser_iff (s : Bs) (i : Nat) : (∃ j, j < i ∧ s.getLsbD j = true) ↔ s ≠ 0#16 ∧ tz s < i := by
  constructor
  · rintro ⟨j, hj, h⟩
    have := tz_least (mem_lst.2 h)
    refine ⟨fun e => ?_, by omega⟩
    rw [e] at h
    simp at h
  · rintro ⟨h, hi⟩
    exact ⟨tz s, hi, mem_lst.1 (tz_mem h)⟩
theorem low_bit (s : Bs) (h : s ≠ 0#16) : s &&& -s = BitVec.twoPow 16 (tz s) := by
  refine BitVec.eq_of_getLsbD_eq fun i hi => ?_
  have ht : tz s < 16 := lst_lt (tz_mem h)
  rw [BitVec.getLsbD_and, BitVec.getLsbD_neg, BitVec.getLsbD_twoPow]
  have hl := lesser_iff s i
  by_cases hb : s.getLsbD i = true
  · have h1 := tz_least (mem_lst.2 hb)
    by_cases e : tz s = i
    · have : ¬ (∃ j, j < i ∧ s.getLsbD j = true) := fun h' => by have := (hl.1 h').2; omega
      simp [hb, this, e, hi]
    · have : ∃ j, j < i ∧ s.getLsbD j = true := hl.2 ⟨h, by omega⟩
      simp [this, e, hi]
  · have e : tz s ≠ i := fun e => hb (e ▸ mem_lst.1 (tz_mem h))
    simp [hb, e]
/-- A set without its least. -/
def butLeast (s : Bs) : Bs := s &&& ~~~(s &&& -s)
theorem butLeast_bit (s : Bs) (h : s ≠ 0#16) (i : Nat) : (butLeast s).getLsbD i = (s.getLsbD i && decide (tz s ≠ i)) := by
  unfold butLeast
  rw [low_bit s h, BitVec.getLsbD_and, BitVec.getLsbD_not, BitVec.getLsbD_twoPow]
  have ht : tz s < 16 := lst_lt (tz_mem h)
  by_cases hi : i < 16
  · simp [hi, ht]
  · have : s.getLsbD i = false := BitVec.getLsbD_of_ge _ _ (by omega)
    simp [this]
theorem lst_butLeast {s : Bs} {t : Nat} {l : List Nat} (h : lst s = t :: l) : lst (butLeast s) = l := by
  have h0 : s ≠ 0#16 := fun e => by rw [e, lst_zero] at h; cases h
  have hr := lst_rise s
  rw [h] at hr
  refine rise_ext (lst_rise _) (List.pairwise_cons.1 hr).2 fun i => ?_
  rw [mem_lst, butLeast_bit s h0, tz_cons h]
  have : s.getLsbD i = true ↔ i = t ∨ i ∈ l := by rw [← mem_lst, h, List.mem_cons]
  have hlt : i ∈ l → t < i := fun hm => (List.pairwise_cons.1 hr).1 i hm
  simp only [Bool.and_eq_true, decide_eq_true_eq, this]
  constructor
  · rintro ⟨h1 | h1, h2⟩
    · omega
    · exact h1
  · intro h1
    exact ⟨.inr h1, by have := hlt h1; omega⟩
theorem and_pred (s : Bs) (h : s ≠ 0#16) : s &&& (s - 1#16) = butLeast s := by
  rw [← BitVec.not_neg]
  refine BitVec.eq_of_getLsbD_eq fun i hi => ?_
  rw [butLeast_bit s h, BitVec.getLsbD_and, BitVec.getLsbD_not, BitVec.getLsbD_neg]
  have hl := lesser_iff s i
  by_cases hb : s.getLsbD i = true
  · have h1 := tz_least (mem_lst.2 hb)
    by_cases e : tz s = i
    · have : ¬ (∃ j, j < i ∧ s.getLsbD j = true) := fun h' => by have := (hl.1 h').2; omega
      simp [this, e, hi]
    · have : ∃ j, j < i ∧ s.getLsbD j = true := hl.2 ⟨h, by omega⟩
      simp [this, e, hi]
  · simp [hb]
theorem butLeast_or (s : Bs) (h : s ≠ 0#16) : BitVec.twoPow 16 (tz s) ||| butLeast s = s := by
  refine BitVec.eq_of_getLsbD_eq fun i hi => ?_
  have ht : tz s < 16 := lst_lt (tz_mem h)
  rw [BitVec.getLsbD_or, butLeast_bit s h, BitVec.getLsbD_twoPow]
  by_cases e : tz s = i
  · have hb := mem_lst.1 (tz_mem h)
    rw [e] at hb
    simp [e, hb, hi]
  · simp [e]
/-- A list's set. -/
def ofL : List Nat → Bs
  | [] => 0#16
  | i :: l => BitVec.twoPow 16 i ||| ofL l
theorem ofL_bit (l : List Nat) (i : Nat) : (ofL l).getLsbD i = true ↔ i < 16 ∧ i ∈ l := by
  induction l with
  | nil => simp [ofL]
  | cons j l ih =>
    rw [ofL, BitVec.getLsbD_or, BitVec.getLsbD_twoPow, Bool.or_eq_true, ih, List.mem_cons, Bool.and_eq_true, decide_eq_true_eq, decide_eq_true_eq]
    constructor
    · rintro (⟨h1, h2⟩ | ⟨h1, h2⟩)
      · exact ⟨by omega, .inl h2.symm⟩
      · exact ⟨h1, .inr h2⟩
    · rintro ⟨h1, h2 | h2⟩
      · exact .inl ⟨by omega, h2.symm⟩
      · exact .inr ⟨h1, h2⟩
theorem lst_ofL {l : List Nat} (hr : l.Pairwise (· < ·)) (h : ∀ i ∈ l, i < 16) : lst (ofL l) = l :=
  rise_ext (lst_rise _) hr fun i => by rw [mem_lst, ofL_bit]; exact ⟨fun h => h.2, fun hm => ⟨h i hm, hm⟩⟩
theorem ofL_lst (s : Bs) : ofL (lst s) = s := lst_inj (lst_ofL (lst_rise s) fun _ h => lst_lt h)
theorem ofL_append (l m : List Nat) : ofL (l ++ m) = ofL l ||| ofL m := by
  induction l with
  | nil => simp [ofL]
  | cons i l ih => simp only [List.cons_append, ofL, ih, BitVec.or_assoc]
/-- The k least. -/
def leastK (s : Bs) (k : Nat) : Bs := ofL ((lst s).take k)
theorem lst_leastK (s : Bs) (k : Nat) : lst (leastK s k) = (lst s).take k :=
  lst_ofL (List.Pairwise.sublist (List.take_sublist _ _) (lst_rise s)) fun _ h => lst_lt (List.mem_of_mem_take h)
/-- All below n. -/
def mask (n : Nat) : Bs := ofL (List.range n)
theorem lst_mask {n : Nat} (h : n ≤ 16) : lst (mask n) = List.range n := lst_ofL List.pairwise_lt_range fun i hi => by have := List.mem_range.1 hi; omega
theorem mask_bit {n : Nat} (h : n ≤ 16) (i : Nat) : (mask n).getLsbD i = true ↔ i < n := by rw [← mem_lst, lst_mask h, List.mem_range]
/-! What the machine reckons. -/
theorem bs_lt (s : Bs) : s.toNat < 65536 := s.isLt
theorem bs_rng (s : Bs) : (0 : Int) ≤ s.toNat ∧ (s.toNat : Int) ≤ 65535 := by have := bs_lt s; omega
theorem ofInt_bs (s : Bs) : BitVec.ofInt 16 (s.toNat : Int) = s := by rw [BitVec.ofInt_natCast, BitVec.ofNat_toNat, BitVec.setWidth_eq]
theorem wrap_bs (s : Bs) : IntKind.u16.wrap (s.toNat : Int) = (s.toNat : Int) := wrap_in (inU16 (bs_rng s).1 (bs_rng s).2)
theorem bs_eq {s t : Bs} : ((s.toNat : Int) = (t.toNat : Int)) ↔ s = t := by
  rw [Int.ofNat_inj]; exact ⟨BitVec.eq_of_toNat_eq, fun h => by rw [h]⟩
theorem bs_zero {s : Bs} : ((s.toNat : Int) = 0) ↔ s = 0#16 := by
  rw [← bs_eq]; simp
end Go.Proofs.YtbhnbnecaejjiaaDoor
