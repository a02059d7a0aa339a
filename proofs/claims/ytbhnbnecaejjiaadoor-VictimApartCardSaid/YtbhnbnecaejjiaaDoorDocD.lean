/- The document's matrix: nodes by their bits; nodes that are down. -/
import Derived.Test.YtbhnbnecaejjiaaDoorDocC
import Derived.Test.YtbhnbnecaejjiaaDoorShufP
namespace Go.Proofs.YtbhnbnecaejjiaaDoor
open Go.RowKit
set_option maxRecDepth 20000
/-- The nodes below k of a set. -/
def bitU (s : Bs) : Nat → List Nat
  | 0 => []
  | k + 1 => if s.getLsbD k then bitU s k ++ [k] else bitU s k
theorem mem_bitU {s : Bs} {i : Nat} : ∀ {k : Nat}, i ∈ bitU s k ↔ i < k ∧ s.getLsbD i = true
  | 0 => by simp [bitU]
  | k + 1 => by
    rw [bitU]
    split
    · rename_i h
      rw [List.mem_append, mem_bitU, List.mem_singleton]
      constructor
      · rintro (⟨h1, h2⟩ | rfl)
        · exact ⟨by omega, h2⟩
        · exact ⟨by omega, h⟩
      · rintro ⟨h1, h2⟩
        by_cases e : i = k
        · exact .inr e
        · exact .inl ⟨by omega, h2⟩
    · rename_i h
      rw [mem_bitU]
      constructor
      · rintro ⟨h1, h2⟩; exact ⟨by omega, h2⟩
      · rintro ⟨h1, h2⟩
        by_cases e : i = k
        · subst e; exact absurd h2 h
        · exact ⟨by omega, h2⟩
theorem bitU_rise (s : Bs) : ∀ k, (bitU s k).Pairwise (· < ·)
  | 0 => List.Pairwise.nil
  | k + 1 => by
    rw [bitU]
    split
    · refine List.pairwise_append.2 ⟨bitU_rise s k, List.pairwise_singleton _ _, fun a ha b hb => ?_⟩
      rw [List.mem_singleton] at hb
      have := (mem_bitU.1 ha).1
      omega
    · exact bitU_rise s k
theorem bitU_len (s : Bs) : ∀ k, (bitU s k).length ≤ k
  | 0 => Nat.le_refl _
  | k + 1 => by
    have := bitU_len s k
    rw [bitU]
    split
    · rw [List.length_append, List.length_singleton]; omega
    · omega
theorem bitU_lst (s : Bs) {k : Nat} (hk : k ≤ 16) : bitU s k = lst (s &&& mask k) := rise_ext (bitU_rise s k) (lst_rise _) fun i => by
  rw [mem_bitU, mem_lst, BitVec.getLsbD_and, Bool.and_eq_true, mask_bit hk, And.comm]
theorem bitU_ok {m : Mx} (hm : MxOk m) (s : Bs) : okUp m (casts (bitU s m.N)) (casts (bitU s m.N)).length = true := by
  rw [bitU_lst s hm.N16, List.length_map]
  refine okUp_lst m _ (fun i hi => ?_) _ (Nat.le_refl _)
  rw [BitVec.getLsbD_and, Bool.and_eq_true, mask_bit hm.N16] at hi
  exact hi.2
theorem putR_N (m : Mx) (j : Nat) (z : Int) (l : List Int) : (putR m j z l).2.N = m.N ∧ (putR m j z l).2.up = m.up ∧ (putR m j z l).2.R = m.R := by
  unfold putR
  split
  · exact ⟨rfl, rfl, rfl⟩
  · split
    · exact ⟨rfl, rfl, rfl⟩
    · split <;> exact ⟨rfl, rfl, rfl⟩
theorem upC_set {m : Mx} {k : Nat} (hN : m.N ≤ 16) (hk : k < m.N) : (upC m).set k (.bool false) = upC (m.setUp k false) := by
  refine List.ext_getElem? fun i => ?_
  show _ = ((List.range m.N).map fun i => Value.bool ((m.setUp k false).up.getLsbD i))[i]?
  by_cases hi : i < m.N
  · rw [List.getElem?_map, List.getElem?_range hi, Option.map_some]
    have e : (m.setUp k false).up.getLsbD i = (m.up.getLsbD i && !decide (k = i)) := by
      simp only [Mx.setUp, Bool.false_eq_true, if_false, BitVec.getLsbD_and, BitVec.getLsbD_not, BitVec.getLsbD_twoPow]
      have h1 : i < 16 := by omega
      have h2 : k < 16 := by omega
      simp [h1, h2]
    rw [e]
    by_cases ek : k = i
    · subst ek
      rw [List.getElem?_set_self (by simp; exact hk)]
      simp
    · rw [List.getElem?_set_ne ek, List.getElem?_map, List.getElem?_range hi, Option.map_some, decide_eq_false ek]
      simp
  · rw [List.getElem?_eq_none (by simp; omega), List.getElem?_eq_none (by simp; omega)]
theorem RiOk.setUp {m : Mx} {cs us : SV} {rs : List Rr} (h : RiOk m cs us rs) {k : Nat} (hk : k < m.N) : RiOk (m.setUp k false) cs us rs := ⟨h.ok.setUp hk false, h.cn, h.un, h.dat, h.len⟩
theorem upR_ok {m : Mx} (hm : MxOk m) (z : Int) (on : Bool) : MxOk (upR m z on).2 := by
  unfold upR
  split
  · rename_i h
    have := nodeB_iff.1 h
    exact hm.setUp (by omega) on
  · exact hm
theorem upR_N (m : Mx) (z : Int) (on : Bool) : (upR m z on).2.N = m.N ∧ (upR m z on).2.R = m.R := by
  unfold upR
  split <;> exact ⟨rfl, rfl⟩
end Go.Proofs.YtbhnbnecaejjiaaDoor
