/- The walks of the two functions that count the ticks that lie in all stretches. -/
import Derived.Test.YtdafbepmilidnaaInts
import Derived.Deep.QuietTactic
import Derived.BigQuiet
import Derived.Handy
import Derived.WalkSmall
namespace Go.Proofs.Ytdafbepmilidnaa
open Go.RowKit
/-- The latest beginning, the earliest end. -/
def fromOf (l : List (Int × Int)) : Int := l.foldl (fun a x => max a x.1) 0
def toOf (l : List (Int × Int)) : Int := l.foldl (fun a x => min a x.2) 4294967295
def overlapOf (l : List (Int × Int)) : Int := if l = [] then 0 else if toOf l < fromOf l then 0 else toOf l - fromOf l + 1
theorem fromOf_snoc (l : List (Int × Int)) (x : Int × Int) : fromOf (l ++ [x]) = max (fromOf l) x.1 := by simp [fromOf]
theorem toOf_snoc (l : List (Int × Int)) (x : Int × Int) : toOf (l ++ [x]) = min (toOf l) x.2 := by simp [toOf]
def InTick (l : List (Int × Int)) : Prop := ∀ x, x ∈ l → 0 ≤ x.1 ∧ x.1 ≤ 4294967295 ∧ 0 ≤ x.2 ∧ x.2 ≤ 4294967295
theorem take_succ_getD (l : List (Int × Int)) (k : Nat) (h : k < l.length) : l.take (k + 1) = l.take k ++ [l.getD k (0, 0)] := by
  rw [List.take_succ_eq_append_getElem h]; simp [List.getD, h]
theorem InTick.getD {l : List (Int × Int)} (h : InTick l) (k : Nat) : 0 ≤ (l.getD k (0, 0)).1 ∧ (l.getD k (0, 0)).1 ≤ 4294967295 ∧ 0 ≤ (l.getD k (0, 0)).2 ∧ (l.getD k (0, 0)).2 ≤ 4294967295 := by
  by_cases hk : k < l.length
  · have : l.getD k (0, 0) ∈ l := by simp [List.getD, hk]
    exact h _ this
  · have : l.getD k (0, 0) = (0, 0) := by simp [List.getD, List.getElem?_eq_none (Nat.le_of_not_lt hk)]
    rw [this]; decide
theorem from_bd (l : List (Int × Int)) (h : InTick l) : 0 ≤ fromOf l ∧ fromOf l ≤ 4294967295 := by
  have key : ∀ (l : List (Int × Int)) (a : Int), InTick l → 0 ≤ a ∧ a ≤ 4294967295 → 0 ≤ l.foldl (fun a x => max a x.1) a ∧ l.foldl (fun a x => max a x.1) a ≤ 4294967295 := by
    intro l
    induction l with
    | nil => intro a _ h; exact h
    | cons x l ih =>
      intro a h ha
      have hx := h x (by simp)
      exact ih _ (fun y hy => h y (by simp [hy])) (by dsimp only; omega)
  exact key l 0 h (by decide)
theorem to_bd (l : List (Int × Int)) (h : InTick l) : 0 ≤ toOf l ∧ toOf l ≤ 4294967295 := by
  have key : ∀ (l : List (Int × Int)) (a : Int), InTick l → 0 ≤ a ∧ a ≤ 4294967295 → 0 ≤ l.foldl (fun a x => min a x.2) a ∧ l.foldl (fun a x => min a x.2) a ≤ 4294967295 := by
    intro l
    induction l with
    | nil => intro a _ h; exact h
    | cons x l ih =>
      intro a h ha
      have hx := h x (by simp)
      exact ih _ (fun y hy => h y (by simp [hy])) (by dsimp only; omega)
  exact key l _ h (by decide)
theorem foldl_max_ge (l : List (Int × Int)) : ∀ a : Int, a ≤ l.foldl (fun a x => max a x.1) a ∧ ∀ x, x ∈ l → x.1 ≤ l.foldl (fun a x => max a x.1) a := by
  induction l with
  | nil => intro a; exact ⟨Int.le_refl _, fun _ h => by simp at h⟩
  | cons y l ih =>
    intro a
    obtain ⟨h1, h2⟩ := ih (max a y.1)
    simp only [List.foldl_cons]
    refine ⟨by omega, fun x hx => ?_⟩
    rcases List.mem_cons.1 hx with rfl | hx
    · omega
    · exact h2 x hx
theorem foldl_min_le (l : List (Int × Int)) : ∀ a : Int, l.foldl (fun a x => min a x.2) a ≤ a ∧ ∀ x, x ∈ l → l.foldl (fun a x => min a x.2) a ≤ x.2 := by
  induction l with
  | nil => intro a; exact ⟨Int.le_refl _, fun _ h => by simp at h⟩
  | cons y l ih =>
    intro a
    obtain ⟨h1, h2⟩ := ih (min a y.2)
    simp only [List.foldl_cons]
    refine ⟨by omega, fun x hx => ?_⟩
    rcases List.mem_cons.1 hx with rfl | hx
    · omega
    · exact h2 x hx
theorem overlap_zero (l : List (Int × Int)) (k : Nat) (hk : k < l.length) (h : (l.getD k (0, 0)).2 < (l.getD k (0, 0)).1) : overlapOf l = 0 := by
  have hm : l.getD k (0, 0) ∈ l := by simp [List.getD, hk]
  have h1 := (foldl_max_ge l 0).2 _ hm
  have h2 := (foldl_min_le l 4294967295).2 _ hm
  unfold overlapOf
  split
  · rfl
  · rw [if_pos]; unfold fromOf toOf; omega
/-- Pairs that lie in memory. -/
def PairsAt (w : World) (b off len : Nat) (l : List (Int × Int)) : Prop :=
  l.length = len ∧ ∀ i, i < len → w.cell? ⟨b, off + i * 2, none⟩ = some (.int .u32 (l.getD i (0, 0)).1) ∧ w.cell? ⟨b, off + i * 2 + 1, none⟩ = some (.int .u32 (l.getD i (0, 0)).2)
theorem PairsAt.below {w w' : World} {b off len : Nat} {l : List (Int × Int)} (h : PairsAt w b off len l) (hb : b < w.heap.size) (hw : Below w.heap.size w w') : PairsAt w' b off len l :=
  ⟨h.1, fun i hi => by
    obtain ⟨h1, h2⟩ := h.2 i hi
    exact ⟨(hw.cell (p := ⟨b, off + i * 2, none⟩) hb).trans h1, (hw.cell (p := ⟨b, off + i * 2 + 1, none⟩) hb).trans h2⟩⟩
set_option maxHeartbeats 1000000 in
theorem Overlap_some (b off len cap : Nat) (l : List (Int × Int)) (w : World) (hb : b < w.heap.size) (hl : PairsAt w b off len l) (hm : len ≤ 9223372036854775807) (ht : InTick l) :
    Calls Try.prog 11 #[.slice (some ⟨b, off, none⟩) len cap] w fun e w' => e = .returned (.int .i64 (overlapOf l)) ∧ Below w.heap.size w w' := by
  have HL := Lib.hid hl
  have HT := Lib.hid ht
  clear hl ht
  by_cases h0 : len = 0
  · subst h0
    go_enter Try.func11, Try.ntmps11
    go_wp2
    go_ret
    exact ⟨ret_int (by have := List.length_eq_zero_iff.1 HL.out.1; rw [this]; rfl), Below.refl _ _⟩
  · have hq : ((len : Int) == 0) = false := by simp; omega
    clear h0
    go_enter Try.func11, Try.ntmps11
    go_wp2
    go_loopw [3, 4, 12] (fun f t i wr => ∃ k : Nat, k ≤ len ∧ i = .int .i64 k ∧ f = .int .u32 (fromOf (l.take k)) ∧ t = .int .u32 (toOf (l.take k)) ∧ Below w.heap.size w wr) (fun _ _ i _ => len - (intOf i).toNat)
    case atStart => exact ⟨0, Nat.zero_le _, rfl, rfl, rfl, Below.refl _ _⟩
    case round =>
      obtain ⟨k, hk, rfl, rfl, rfl, hbel⟩ := hrel
      have hsz := hbel.size
      by_cases hlt : k < len
      · obtain ⟨g1, g2⟩ := (HL.out.below hb hbel).2 k hlt
        have hd := HT.out.getD k
        have hF := from_bd (l.take k) (fun x hx => HT.out x (List.mem_of_mem_take hx))
        have hT := to_bd (l.take k) (fun x hx => HT.out x (List.mem_of_mem_take hx))
        have hs := take_succ_getD l k (by rw [HL.out.1]; exact hlt)
        obtain ⟨d0, d1, d2, d3⟩ := hd
        obtain ⟨f0, f1⟩ := hF
        obtain ⟨t0, t1⟩ := hT
        have HS : Hid (fromOf (l.take (k + 1)) = max (fromOf (l.take k)) (l.getD k (0, 0)).1 ∧ toOf (l.take (k + 1)) = min (toOf (l.take k)) (l.getD k (0, 0)).2) := by rw [hs]; exact ⟨fromOf_snoc _ _, toOf_snoc _ _⟩
        clear hs
        generalize hx0 : (l.getD k (0, 0)).1 = x0 at *
        generalize hx1 : (l.getD k (0, 0)).2 = x1 at *
        have HX : Hid ((l.getD k (0, 0)).1 = x0 ∧ (l.getD k (0, 0)).2 = x1) := ⟨hx0, hx1⟩
        clear hx0 hx1
        go_wp2
        go_quiet (fail)
        go_wp2
        case roundEnd =>
          go_roundw
          case rel => exact ⟨k + 1, by omega, by go_num, by rw [HS.out.1]; exact val_int (by omega), by rw [HS.out.2]; exact val_int (by omega), below_drewN (by go_grown) _⟩
          case measure => simp [intOf]; omega
        all_goals
          go_ret
          exact ⟨ret_int (by rw [overlap_zero l k (by rw [HL.out.1]; exact hlt) (by rw [HX.out.1, HX.out.2]; assumption)]), below_drewN (by go_grown) _⟩
      · obtain rfl : k = len := by omega
        have htake : l.take k = l := List.take_of_length_le (by rw [HL.out.1]; exact Nat.le_refl _)
        rw [htake]
        have hne : l ≠ [] := by intro h; have := HL.out.1; rw [h] at this; simp at this; subst this; simp at hq
        have HO : Hid (overlapOf l = if toOf l < fromOf l then 0 else toOf l - fromOf l + 1) := by show _ = _; unfold overlapOf; rw [if_neg hne]
        obtain ⟨f0, f1⟩ := from_bd l HT.out
        obtain ⟨t0, t1⟩ := to_bd l HT.out
        clear htake hne
        go_wp2
        · go_ret
          exact ⟨ret_int (by rw [HO.out, if_pos (by assumption)]), by go_grown⟩
        · go_ret
          exact ⟨ret_int (by rw [HO.out, if_neg (by omega)]), by go_grown⟩
theorem Overlap_nil (w : World) :
    Calls Try.prog 11 #[.slice none 0 0] w fun e w' => e = .returned (.int .i64 0) ∧ Below w.heap.size w w' := by
  go_enter Try.func11, Try.ntmps11
  go_wp2
  go_ret
  exact ⟨rfl, Below.refl _ _⟩
theorem rOverlap_nil (w : World) :
    Calls Try.prog 12 #[.slice none 0 0] w fun e w' => e = .returned (.int .i64 0) ∧ Below w.heap.size w w' := by
  go_enter Try.func12, Try.ntmps12
  go_wp2
  go_ret
  exact ⟨rfl, Below.refl _ _⟩
/-- The reference begins at the first stretch. -/
def fromAt (a : Int) (l : List (Int × Int)) : Int := l.foldl (fun a x => max a x.1) a
def toAt (a : Int) (l : List (Int × Int)) : Int := l.foldl (fun a x => min a x.2) a
theorem fromAt_snoc (a : Int) (l : List (Int × Int)) (x : Int × Int) : fromAt a (l ++ [x]) = max (fromAt a l) x.1 := by simp [fromAt]
theorem toAt_snoc (a : Int) (l : List (Int × Int)) (x : Int × Int) : toAt a (l ++ [x]) = min (toAt a l) x.2 := by simp [toAt]
theorem fromAt_max (l : List (Int × Int)) : ∀ a b : Int, fromAt (max a b) l = max a (fromAt b l) := by
  induction l with
  | nil => intro a b; rfl
  | cons x l ih =>
    intro a b
    show fromAt (max (max a b) x.1) l = max a (fromAt (max b x.1) l)
    rw [← ih, show max (max a b) x.1 = max a (max b x.1) by omega]
theorem toAt_min (l : List (Int × Int)) : ∀ a b : Int, toAt (min a b) l = min a (toAt b l) := by
  induction l with
  | nil => intro a b; rfl
  | cons x l ih =>
    intro a b
    show toAt (min (min a b) x.2) l = min a (toAt (min b x.2) l)
    rw [← ih, show min (min a b) x.2 = min a (min b x.2) by omega]
theorem fromAt_head (l : List (Int × Int)) (x : Int × Int) (hx : x ∈ l) (h : 0 ≤ x.1) : fromAt x.1 l = fromOf l := by
  have h1 := fromAt_max l x.1 0
  rw [show max x.1 0 = x.1 by omega] at h1
  rw [h1]
  have h2 := (foldl_max_ge l 0).2 x hx
  show max x.1 (l.foldl (fun a x => max a x.1) 0) = l.foldl (fun a x => max a x.1) 0
  omega
theorem toAt_head (l : List (Int × Int)) (x : Int × Int) (hx : x ∈ l) (h : x.2 ≤ 4294967295) : toAt x.2 l = toOf l := by
  have h1 := toAt_min l x.2 4294967295
  rw [show min x.2 4294967295 = x.2 by omega] at h1
  rw [h1]
  have h2 := (foldl_min_le l 4294967295).2 x hx
  show min x.2 (l.foldl (fun a x => min a x.2) 4294967295) = l.foldl (fun a x => min a x.2) 4294967295
  omega
theorem fromAt_bd (l : List (Int × Int)) (h : InTick l) : ∀ a : Int, 0 ≤ a → a ≤ 4294967295 → 0 ≤ fromAt a l ∧ fromAt a l ≤ 4294967295 := by
  intro a h0 h1
  have h2 := fromAt_max l a 0
  rw [show max a 0 = a by omega] at h2
  have h3 := from_bd l h
  rw [h2]
  show 0 ≤ max a (fromOf l) ∧ max a (fromOf l) ≤ 4294967295
  omega
theorem toAt_bd (l : List (Int × Int)) (h : InTick l) : ∀ a : Int, 0 ≤ a → a ≤ 4294967295 → 0 ≤ toAt a l ∧ toAt a l ≤ 4294967295 := by
  intro a h0 h1
  have h2 := toAt_min l a 4294967295
  rw [show min a 4294967295 = a by omega] at h2
  have h3 := to_bd l h
  rw [h2]
  show 0 ≤ min a (toOf l) ∧ min a (toOf l) ≤ 4294967295
  omega
set_option maxHeartbeats 1000000 in
theorem rOverlap_some (b off len cap : Nat) (l : List (Int × Int)) (w : World) (hb : b < w.heap.size) (hl : PairsAt w b off len l) (hm : len ≤ 9223372036854775807) (ht : InTick l) :
    Calls Try.prog 12 #[.slice (some ⟨b, off, none⟩) len cap] w fun e w' => e = .returned (.int .i64 (overlapOf l)) ∧ Below w.heap.size w w' := by
  have HL := Lib.hid hl
  have HT := Lib.hid ht
  clear hl ht
  by_cases h0 : len = 0
  · subst h0
    go_enter Try.func12, Try.ntmps12
    go_wp2
    go_ret
    exact ⟨ret_int (by have := List.length_eq_zero_iff.1 HL.out.1; rw [this]; rfl), Below.refl _ _⟩
  · have hq : ((len : Int) == 0) = false := by simp; omega
    have hlen : (0 : Int) < (len : Int) := by omega
    obtain ⟨g1, g2⟩ := HL.out.2 0 (by omega)
    obtain ⟨d0, d1, d2, d3⟩ := HT.out.getD 0
    simp only [Nat.zero_mul, Nat.add_zero] at g1 g2
    have hmem : l.getD 0 (0, 0) ∈ l := by have := HL.out.1; simp [List.getD, show 0 < l.length by omega]
    have HF : Hid (fromAt (l.getD 0 (0, 0)).1 l = fromOf l ∧ toAt (l.getD 0 (0, 0)).2 l = toOf l) := ⟨fromAt_head l _ hmem d0, toAt_head l _ hmem d3⟩
    clear h0 hmem
    generalize (l.getD 0 (0, 0)).1 = X0 at *
    generalize (l.getD 0 (0, 0)).2 = Y0 at *
    go_enter Try.func12, Try.ntmps12
    go_wp2
    go_quiet (fail)
    go_wp2
    go_loopw [3, 4, 22] (fun f t i wr => ∃ k : Nat, k ≤ len ∧ i = .int .i64 k ∧ f = .int .i64 (fromAt X0 (l.take k)) ∧ t = .int .i64 (toAt Y0 (l.take k)) ∧ Below w.heap.size w wr) (fun _ _ i _ => len - (intOf i).toNat)
    case atStart => exact ⟨0, Nat.zero_le _, rfl, rfl, rfl, below_drewN (Below.refl _ _) _⟩
    case round =>
      obtain ⟨k, hk, rfl, rfl, rfl, hbel⟩ := hrel
      have hsz := hbel.size
      by_cases hlt : k < len
      · obtain ⟨q1, q2⟩ := (HL.out.below hb hbel).2 k hlt
        have hd := HT.out.getD k
        have hF := fromAt_bd (l.take k) (fun x hx => HT.out x (List.mem_of_mem_take hx)) X0 d0 d1
        have hT := toAt_bd (l.take k) (fun x hx => HT.out x (List.mem_of_mem_take hx)) Y0 d2 d3
        have hs := take_succ_getD l k (by rw [HL.out.1]; exact hlt)
        obtain ⟨e0, e1, e2, e3⟩ := hd
        obtain ⟨f0, f1⟩ := hF
        obtain ⟨t0, t1⟩ := hT
        have HS : Hid (fromAt X0 (l.take (k + 1)) = max (fromAt X0 (l.take k)) (l.getD k (0, 0)).1 ∧ toAt Y0 (l.take (k + 1)) = min (toAt Y0 (l.take k)) (l.getD k (0, 0)).2) := by rw [hs]; exact ⟨fromAt_snoc _ _ _, toAt_snoc _ _ _⟩
        clear hs
        generalize (l.getD k (0, 0)).1 = x0 at *
        generalize (l.getD k (0, 0)).2 = x1 at *
        go_wp2
        all_goals
          go_roundw
          case rel => exact ⟨k + 1, by omega, by go_num, by rw [HS.out.1]; exact val_int (by omega), by rw [HS.out.2]; exact val_int (by omega), by go_grown⟩
          case measure => simp [intOf]; omega
      · obtain rfl : k = len := by omega
        have htake : l.take k = l := List.take_of_length_le (by rw [HL.out.1]; exact Nat.le_refl _)
        rw [htake, HF.out.1, HF.out.2]
        have hne : l ≠ [] := by intro h; have := HL.out.1; rw [h] at this; simp at this; subst this; simp at hq
        have HO : Hid (overlapOf l = if toOf l < fromOf l then 0 else toOf l - fromOf l + 1) := by show _ = _; unfold overlapOf; rw [if_neg hne]
        obtain ⟨f0, f1⟩ := from_bd l HT.out
        obtain ⟨t0, t1⟩ := to_bd l HT.out
        clear htake hne
        go_wp2
        · go_ret
          exact ⟨ret_int (by rw [HO.out, if_pos (by assumption)]), by go_grown⟩
        · go_ret
          exact ⟨ret_int (by rw [HO.out, if_neg (by omega)]), by go_grown⟩
end Go.Proofs.Ytdafbepmilidnaa
