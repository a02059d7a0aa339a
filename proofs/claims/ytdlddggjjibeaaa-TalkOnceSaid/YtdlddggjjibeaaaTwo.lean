/- Pairs of things under an index that is a variable: arrays of two, assertions by twos. Of no program. -/
import Derived.Test.YtdlddggjjibeaaaDel
namespace Go.Proofs.Ytdlddggjjibeaaa
open Go.RowKit
def upd {α : Type} (f : Nat → α) (i : Nat) (x : α) : Nat → α := fun j => if j = i then x else f j
theorem upd_same {α : Type} (f : Nat → α) (i : Nat) (x : α) : upd f i x i = x := by simp [upd]
theorem upd_other {α : Type} (f : Nat → α) {i j : Nat} (x : α) (h : j ≠ i) : upd f i x j = f j := by simp [upd, h]
theorem upd_not {α : Type} (f : Nat → α) {i : Nat} (x : α) (hi : i < 2) : upd f i x (1 - i) = f (1 - i) := upd_other f x (by omega)
theorem Ent.two (F : Nat → Assn) {i : Nat} (hi : i < 2) (Γ : List Assn) : Ent (F 0 :: F 1 :: Γ) (F i :: F (1 - i) :: Γ) := by
  rcases (show i = 0 ∨ i = 1 by omega) with rfl | rfl
  · exact Ent.refl _
  · exact Ent.swap _ _ _
theorem Ent.twoBack (F : Nat → Assn) {i : Nat} (hi : i < 2) (Γ : List Assn) : Ent (F i :: F (1 - i) :: Γ) (F 0 :: F 1 :: Γ) := by
  rcases (show i = 0 ∨ i = 1 by omega) with rfl | rfl
  · exact Ent.refl _
  · exact Ent.swap _ _ _
theorem two_lg (f : Nat → Value) {i : Nat} (hi : i < 2) : lg [f 0, f 1] i = some (f i) := by
  rcases (show i = 0 ∨ i = 1 by omega) with rfl | rfl <;> rfl
theorem two_set (f : Nat → Value) {i : Nat} (hi : i < 2) (x : Value) : [f 0, f 1].set i x = [upd f i x 0, upd f i x 1] := by
  rcases (show i = 0 ∨ i = 1 by omega) with rfl | rfl <;> simp [upd]
theorem two_blt {i : Nat} (hi : i < 2) : Nat.blt i 2 = true := by
  rcases (show i = 0 ∨ i = 1 by omega) with rfl | rfl <;> rfl
section
variable {P : Program} {n : Nat} {w0 : World} {ρ : Env} {Γ : List Assn} {Q : Exit → Act → World → Prop} {K : Act → World → Prop} {ty : TypeId} {pos : String} {af : Array Edge} {gd : Option (Nat × Bool)} {d : Nat} {ds : Option Tmp}
/-- &x[i], x an array of two cells, i a variable. -/
theorem q_indexTwo {t : TypeId} {x y : Operand} {b : Nat} {k : IntKind} {z : Int} (i : Nat) (ht : arrT P t = some (2, 1)) (hx : ev ρ x = some (.pointer (some ⟨b, 0, none⟩))) (hy : ev ρ y = some (.int k z)) (hz : z = ((i : Nat) : Int)) (hi : i < 2) : Qv P n ρ Γ ⟨ds, .indexAddr t x y, ty, pos, af, gd⟩ (.pointer (some ⟨b, i, none⟩)) := by
  subst hz
  have := q_indexA (P := P) (n := n) (ρ := ρ) (Γ := Γ) (ty := ty) (pos := pos) (af := af) (gd := gd) (ds := ds) (i := (i : Int)) ht hx hy ⟨by omega, by omega⟩
  rw [show 0 + ((i : Int).toNat) * 1 = i by simp] at this
  exact this
/-- A load of cell i of two. -/
theorem q_loadTwo {t b : Nat} {x : Operand} {e : TypeId} {Δ : List Assn} (f : Nat → Value) (i : Nat) (hi : i < 2) (ht : atomT P t = true) (hx : ev ρ x = some (.pointer (some ⟨b, i, none⟩))) [hb : HasB Γ b e #[f 0, f 1] Δ] :
    Qv P n ρ Γ ⟨ds, .load t x, ty, pos, af, gd⟩ (f i) := q_load ht hx (hb := hb) (two_lg f hi)
/-- A store into cell i of two. -/
theorem S.storeTwo {t b : Nat} {x y : Operand} {e : TypeId} {v : Value} {Δ : List Assn} (f : Nat → Value) (i : Nat) (hi : i < 2) (ht : atomT P t = true) (hx : ev ρ x = some (.pointer (some ⟨b, i, none⟩))) (hy : ev ρ y = some v) (hv : v.oneCell' = true) [hb : HasB Γ b e #[f 0, f 1] Δ]
    (k : S n w0 ρ (blk b e #[upd f i v 0, upd f i v 1] :: Δ) K) : S n w0 ρ Γ (Ow P Q ⟨none, .store t x y, ty, pos, af, gd⟩ K) :=
  S.store (cs' := [upd f i v 0, upd f i v 1]) ht hx hy hv (hb := hb) (two_blt hi) (two_set f hi v) k
end
end Go.Proofs.Ytdlddggjjibeaaa
