/- The beginning and the rest of what is owned, to be read. Of no program. -/
import Derived.Test.YtbhnbnecaejjiaaDoorMap
namespace Go.Proofs.YtbhnbnecaejjiaaDoor
open Go.RowKit
/-- The first i of what is owned, to be read. -/
theorem own_takeG {α : Type} {enc : α → List Value} {sz : Nat} (he : ∀ x, (enc x).length = sz) (h0 : 0 < sz) {w : World} {s : SV} {os : List α} (h : SlAt w s.v s.n sz (os.flatMap enc)) {i : Nat} (hi : i ≤ s.n) : SlAt w (.slice s.a i s.c) i sz ((os.take i).flatMap enc) := by
  obtain ⟨hl, ao, c, h1, h2, h3, h4, h5⟩ := h
  simp only [SV.v, Value.slice.injEq] at h1
  obtain ⟨rfl, _, rfl⟩ := h1
  rw [flat_length he] at hl
  have hl2 : os.length = s.n := Nat.eq_of_mul_eq_mul_right h0 hl
  refine ⟨by rw [flat_length he, List.length_take]; congr 1; omega, s.a, s.c, rfl, by omega, h3, fun e => ?_, fun a ha h0 => ?_⟩
  · have := h4 e; omega
  · obtain ⟨g1, g2, g3⟩ := h5 a ha (by omega)
    refine ⟨g1, g2, fun j u hu => g3 j u ?_⟩
    rw [← List.take_append_drop i os, List.flatMap_append, List.getElem?_append_left (List.getElem?_eq_some_iff.1 hu).1]
    exact hu
/-- What is behind the first i. -/
theorem own_dropG {α : Type} {enc : α → List Value} {sz : Nat} (he : ∀ x, (enc x).length = sz) (h0 : 0 < sz) {w : World} {s : SV} {os : List α} (h : SlAt w s.v s.n sz (os.flatMap enc)) {i : Nat} (hi : i ≤ s.n) : SlAt w (.slice (if s.c = i then s.a else s.a.map (·.add (i * sz))) (s.n - i) (s.c - i)) (s.n - i) sz ((os.drop i).flatMap enc) := by
  obtain ⟨hl, ao, c, h1, h2, h3, h4, h5⟩ := h
  simp only [SV.v, Value.slice.injEq] at h1
  obtain ⟨rfl, _, rfl⟩ := h1
  rw [flat_length he] at hl
  have hl2 : os.length = s.n := Nat.eq_of_mul_eq_mul_right h0 hl
  refine ⟨by rw [flat_length he, List.length_drop]; congr 1; omega, _, _, rfl, by omega, by omega, fun e => ?_, fun a ha h0 => ?_⟩
  · split at e
    · have := h4 e; omega
    · rw [Option.map_eq_none_iff] at e; have := h4 e; omega
  · rw [if_neg (by omega)] at ha
    obtain ⟨a0, ha0, rfl⟩ := Option.map_eq_some_iff.1 ha
    obtain ⟨g1, g2, g3⟩ := h5 a0 ha0 (by omega)
    have e0 : a0 = ⟨a0.block, a0.off, none⟩ := by rw [← g1]
    rw [e0, Addr.add_lit]
    refine ⟨rfl, g2, fun j u hu => ?_⟩
    rw [← flat_drop he, List.getElem?_drop] at hu
    rw [Nat.add_assoc]
    exact g3 _ u hu
end Go.Proofs.YtbhnbnecaejjiaaDoor
