/- The table of math/bits that the row lists, as the walks read it. -/
import Derived.Test.YtbhnbnecaejjiaaDoorLiftT
import Derived.Test.YtbhnbnecaejjiaaDoorSetP
namespace Go.Proofs.YtbhnbnecaejjiaaDoor
open Go.RowKit
abbrev dbTab : List Int := [0, 1, 28, 2, 29, 14, 24, 3, 30, 22, 20, 15, 25, 17, 4, 8, 31, 27, 13, 23, 21, 19, 16, 7, 26, 12, 18, 6, 11, 5, 10, 9]
/-- The table lies there. -/
def TabW (W : World) : Prop := ∀ i : Nat, i < 32 → W.cell? ⟨0, i, none⟩ = some (.int .u8 (dbTab.getD i 0))
set_option maxRecDepth 100000 in
theorem tabW_of {L : List (String × DataW Unit)} {W : World} (hL : L = [("math/bits.deBruijn32tab", Rows.laid_math_bits_deBruijn32tab)]) (h : laidMetH Tryd.prog L W) : TabW W := by
  have e : laidMetH Tryd.prog L W = laidMet Tryd.prog L W := MakeChecks.laidMetH_plain Tryd.prog L W (by rw [hL]; kernel_rfl)
  rw [e, hL] at h
  have hT := Lib.tabIs_of_head (g := 0) (k := .u8) (zs := dbTab) (name := "math/bits.deBruijn32tab") (rest := []) (by kernel_rfl) (by kernel_rfl) Tryd.underlying139 Tryd.underlying5 (by kernel_rfl) (by kernel_rfl) h
  exact fun i hi => hT.cell (by kernel_rfl) i hi
end Go.Proofs.YtbhnbnecaejjiaaDoor
