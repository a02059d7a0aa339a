/- Bytes as cells. Of no program. -/
import Derived.Test.YtbhnbnecaejjiaaDoorRows
import Derived.Test.YtbhnbnecaejjiaaDoorOwn
import Derived.WalkSpells
namespace Go.Proofs.YtbhnbnecaejjiaaDoor
open Go.RowKit
def bcells (l : List Int) : List Value := l.map (Value.int .u8)
theorem bcells_length (l : List Int) : (bcells l).length = l.length * 1 := by simp [bcells]
theorem bcells_one (l : List Int) : ∀ u ∈ bcells l, u.oneCell' = true := ints_oneCell .u8 l
theorem bcells_get (l : List Int) (i : Nat) (h : i < l.length) : (bcells l)[i]? = some (.int .u8 (l.getD i 0)) := by simp [bcells, List.getD, h]
/-- A value of bytes. -/
def BytesAt (w : World) (v : Value) (l : List Int) : Prop := SlAt w v l.length 1 (bcells l)
theorem SlAt.cases' {w : World} {v : Value} {n sz : Nat} {xs : List Value} (h : SlAt w v n sz xs) : (v = .slice none 0 0 ∧ n = 0 ∧ xs = []) ∨ ∃ a c, v = .slice (some a) n c ∧ n ≤ c := by
  obtain ⟨h0, ao, c, h1, h2, h3, h4, h5⟩ := h
  cases ao with
  | none =>
    obtain ⟨rfl, rfl⟩ := h4 rfl
    exact .inl ⟨h1, rfl, List.eq_nil_of_length_eq_zero (by simpa using h0)⟩
  | some a => exact .inr ⟨a, c, h1, h2⟩
theorem own_form {w : World} {e : TypeId} {sz : Nat} {v : Value} {n : Nat} {xs : List Value} {g : Option Nat} (h : Own w e sz v n xs g) : ∃ ao c, v = .slice ao n c := by
  obtain ⟨_, ao, c, h1, _⟩ := h.sl
  exact ⟨ao, c, h1⟩
end Go.Proofs.YtbhnbnecaejjiaaDoor
