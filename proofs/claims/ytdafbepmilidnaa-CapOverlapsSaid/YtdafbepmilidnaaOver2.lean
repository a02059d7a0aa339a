/- The two counting functions by the slice's value. -/
import Derived.Test.YtdafbepmilidnaaOver
import Derived.Test.YtdafbepmilidnaaMem
namespace Go.Proofs.Ytdafbepmilidnaa
open Go.RowKit
/-- The cells of a list of pairs. -/
def pcells (l : List (Int × Int)) : List Value := l.flatMap fun x => [.int .u32 x.1, .int .u32 x.2]
theorem pcells_length (l : List (Int × Int)) : (pcells l).length = l.length * 2 := by
  induction l with
  | nil => rfl
  | cons x l ih => simp only [pcells, List.flatMap_cons, List.length_append, List.length_cons, List.length_nil] at *; omega
theorem pcells_append (l k : List (Int × Int)) : pcells (l ++ k) = pcells l ++ pcells k := by simp [pcells]
theorem pcells_take (l : List (Int × Int)) : ∀ k, pcells (l.take k) = (pcells l).take (k * 2) := by
  induction l with
  | nil => intro k; simp [pcells]
  | cons x l ih =>
    intro k
    cases k with
    | zero => rfl
    | succ k =>
      have := ih k
      simp only [List.take_succ_cons, pcells, List.flatMap_cons] at *
      rw [this, show (k + 1) * 2 = k * 2 + 1 + 1 by omega]
      rfl
theorem pcells_one (l : List (Int × Int)) : ∀ u ∈ pcells l, u.oneCell' = true := by
  intro u hu
  simp only [pcells, List.mem_flatMap] at hu
  obtain ⟨x, _, hx⟩ := hu
  simp at hx
  rcases hx with rfl | rfl <;> rfl
theorem pcells_get (l : List (Int × Int)) : ∀ i, i < l.length → (pcells l)[i * 2]? = some (.int .u32 (l.getD i (0, 0)).1) ∧ (pcells l)[i * 2 + 1]? = some (.int .u32 (l.getD i (0, 0)).2) := by
  induction l with
  | nil => intro i hi; simp at hi
  | cons x l ih =>
    intro i hi
    cases i with
    | zero => exact ⟨rfl, rfl⟩
    | succ i =>
      have := ih i (by simpa using hi)
      have e : pcells (x :: l) = .int .u32 x.1 :: .int .u32 x.2 :: pcells l := rfl
      rw [e, show (i + 1) * 2 = i * 2 + 1 + 1 by omega]
      simpa using this
theorem PairsAt.ofSl {w : World} {b off n c : Nat} {l : List (Int × Int)} (h : SlAt w (.slice (some ⟨b, off, none⟩) n c) n 2 (pcells l)) (hn : 0 < n) : b < w.heap.size ∧ PairsAt w b off n l ∧ n ≤ maxLen := by
  obtain ⟨h0, ao, c', h1, h2, h3, h4, h5⟩ := h
  simp only [Value.slice.injEq] at h1
  obtain ⟨rfl, _, rfl⟩ := h1
  obtain ⟨_, g2, g3⟩ := h5 _ rfl hn
  have hl : l.length = n := by rw [pcells_length] at h0; omega
  refine ⟨g2, ⟨hl, fun i hi => ?_⟩, Nat.le_trans h2 h3⟩
  obtain ⟨q1, q2⟩ := pcells_get l i (by omega)
  exact ⟨g3 _ _ q1, by have := g3 _ _ q2; rwa [← Nat.add_assoc] at this⟩
theorem SlAt.cases {w : World} {v : Value} {n sz : Nat} {xs : List Value} (h : SlAt w v n sz xs) : (n = 0 ∧ xs = [] ∧ ∃ ao c, v = .slice ao 0 c) ∨ (0 < n ∧ ∃ b off c, v = .slice (some ⟨b, off, none⟩) n c) := by
  obtain ⟨h0, ao, c, h1, h2, h3, h4, h5⟩ := h
  rcases Nat.eq_zero_or_pos n with rfl | hn
  · exact Or.inl ⟨rfl, List.eq_nil_of_length_eq_zero (by simpa using h0), ao, c, h1⟩
  · cases ao with
    | none => obtain ⟨rfl, _⟩ := h4 rfl; omega
    | some a =>
      obtain ⟨g1, _, _⟩ := h5 a rfl hn
      exact Or.inr ⟨hn, a.block, a.off, c, by rw [h1, ← g1]⟩
theorem pcells_nil {l : List (Int × Int)} (h : pcells l = []) : l = [] := by
  have := pcells_length l
  rw [h, List.length_nil] at this
  exact List.eq_nil_of_length_eq_zero (by omega)
theorem Overlap_zero (ao : Option Addr) (c : Nat) (w : World) :
    Calls Try.prog 11 #[.slice ao 0 c] w fun e w' => e = .returned (.int .i64 0) ∧ Below w.heap.size w w' := by
  go_enter Try.func11, Try.ntmps11
  go_wp2
  go_ret
  exact ⟨rfl, Below.refl _ _⟩
theorem rOverlap_zero (ao : Option Addr) (c : Nat) (w : World) :
    Calls Try.prog 12 #[.slice ao 0 c] w fun e w' => e = .returned (.int .i64 0) ∧ Below w.heap.size w w' := by
  go_enter Try.func12, Try.ntmps12
  go_wp2
  go_ret
  exact ⟨rfl, Below.refl _ _⟩
theorem Overlap_val (v : Value) (n : Nat) (l : List (Int × Int)) (w : World) (h : SlAt w v n 2 (pcells l)) (ht : InTick l) :
    Calls Try.prog 11 #[v] w fun e w' => e = .returned (.int .i64 (overlapOf l)) ∧ Below w.heap.size w w' := by
  rcases h.cases with ⟨rfl, hx, ao, c, rfl⟩ | ⟨hn, b, off, c, rfl⟩
  · rw [pcells_nil hx]
    exact Overlap_zero ao c w
  · obtain ⟨h1, h2, h3⟩ := PairsAt.ofSl h hn
    exact Overlap_some b off n c l w h1 h2 (by unfold maxLen at h3; omega) ht
theorem rOverlap_val (v : Value) (n : Nat) (l : List (Int × Int)) (w : World) (h : SlAt w v n 2 (pcells l)) (ht : InTick l) :
    Calls Try.prog 12 #[v] w fun e w' => e = .returned (.int .i64 (overlapOf l)) ∧ Below w.heap.size w w' := by
  rcases h.cases with ⟨rfl, hx, ao, c, rfl⟩ | ⟨hn, b, off, c, rfl⟩
  · rw [pcells_nil hx]
    exact rOverlap_zero ao c w
  · obtain ⟨h1, h2, h3⟩ := PairsAt.ofSl h hn
    exact rOverlap_some b off n c l w h1 h2 (by unfold maxLen at h3; omega) ht
/-- With one more stretch there are never more. -/
theorem overlap_less (l : List (Int × Int)) (x : Int × Int) (hl : l ≠ []) : overlapOf (l ++ [x]) ≤ overlapOf l := by
  unfold overlapOf
  rw [if_neg (by simp), if_neg hl, fromOf_snoc, toOf_snoc]
  split <;> split <;> omega
end Go.Proofs.Ytdafbepmilidnaa
