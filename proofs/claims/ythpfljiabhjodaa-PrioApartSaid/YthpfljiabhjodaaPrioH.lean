/- awake; whether two items are the same; the law PrioOrder. -/
import Derived.Test.YthpfljiabhjodaaPrioG
import Derived.Laws.StructEq
namespace Go.Proofs.Ythpfljiabhjodaa
open Go.RowKit
set_option maxRecDepth 20000
theorem Ent.blkOwn (b : Nat) (e sz m : Nat) (cs : List Value) (hl : cs.length = m * sz) (hm : m ≤ maxLen) (Γ : List Assn) : Ent (blk b e cs.toArray :: Γ) (own ⟨some ⟨b, 0, none⟩, m, m⟩ e sz cs :: Γ) := Ent.mono1 Γ fun h p => by
  refine ⟨hl, .inr ⟨b, 0, cs.toArray, rfl, p, Nat.le_refl _, hm, by simp [hl], ?_⟩⟩
  simp only [List.drop_zero]
  exact List.take_of_length_le (by omega)
section
variable {n : Nat} {ρ : Env} {Γ : List Assn} {ty : TypeId} {pos : String} {af : Array Edge} {gd : Option (Nat × Bool)} {ds : Option Tmp}
theorem run_eqIt (t : TypeId) (ht : t = 25 ∨ t = 24) (a b : It) (w : World) : (Op.equalIn 10000 t (.agg (itC a).toArray) (.agg (itC b).toArray)).run Try.prog w = .ok (decide (a = b)) w := by
  have e0 : decide (a = b) = (a.id == b.id && (a.tier == b.tier && a.since == b.since)) := by
    rw [Bool.eq_iff_iff]
    simp only [decide_eq_true_eq, Bool.and_eq_true, beq_iff_eq]
    constructor
    · intro e; subst e; exact ⟨rfl, rfl, rfl⟩
    · obtain ⟨_, _, _⟩ := a
      obtain ⟨_, _, _⟩ := b
      simp only
      rintro ⟨rfl, rfl, rfl⟩
      rfl
  have h32 : ∀ (x y : Int) (w : World), (Op.equalIn 9999 22 (.int .u32 x) (.int .u32 y)).run Try.prog w = .ok (x == y) w := fun x y w => run_equalIn_int w 9998 22 .u32 .u32 x y Try.underlying22
  have h8 : ∀ (x y : Int) (w : World), (Op.equalIn 9999 5 (.int .u8 x) (.int .u8 y)).run Try.prog w = .ok (x == y) w := fun x y w => run_equalIn_int w 9998 5 .u8 .u8 x y Try.underlying5
  have p32 : ∀ (xs : Array Value) (o : Nat) (v : Value) (w : World), xs[o]? = some v → (part 22 xs o).run Try.prog w = .ok v w := fun xs o v w h => by simp [part, (run_isAgg_atom (P := Try.prog) Try.at22 w).1, h]
  have p8 : ∀ (xs : Array Value) (o : Nat) (v : Value) (w : World), xs[o]? = some v → (part 5 xs o).run Try.prog w = .ok v w := fun xs o v w h => by simp [part, (run_isAgg_atom (P := Try.prog) Try.at5 w).1, h]
  have key : ∀ (xs ys : Array Value), (∀ w, (part 22 xs 0).run Try.prog w = .ok (.int .u32 a.id) w) → (∀ w, (part 5 xs 1).run Try.prog w = .ok (.int .u8 a.tier) w) → (∀ w, (part 22 xs 2).run Try.prog w = .ok (.int .u32 a.since) w) →
      (∀ w, (part 22 ys 0).run Try.prog w = .ok (.int .u32 b.id) w) → (∀ w, (part 5 ys 1).run Try.prog w = .ok (.int .u8 b.tier) w) → (∀ w, (part 22 ys 2).run Try.prog w = .ok (.int .u32 b.since) w) →
      (Op.eqFields 9999 xs ys (Try.prog.fieldsOf t).toList).run Try.prog w = .ok (decide (a = b)) w := by
    intro xs ys a0 a1 a2 b0 b1 b2
    rw [e0]
    rcases ht with rfl | rfl
    · rw [Program.fieldsOf, Try.underlying25]
      simp only [Op.eqFields]
      cases h1 : (a.id == b.id) <;> cases h2 : (a.tier == b.tier) <;> cases h3 : (a.since == b.since) <;> simp [a0, a1, a2, b0, b1, b2, h32, h8, h1, h2, h3, Result.andThen]
    · rw [Program.fieldsOf, Try.underlying24]
      simp only [Op.eqFields]
      cases h1 : (a.id == b.id) <;> cases h2 : (a.tier == b.tier) <;> cases h3 : (a.since == b.since) <;> simp [a0, a1, a2, b0, b1, b2, h32, h8, h1, h2, h3, Result.andThen]
  rw [run_equalIn_agg w 9999 t _ _ (by rcases ht with rfl | rfl; (rw [Program.fieldsOf, Try.underlying25]); (rw [Program.fieldsOf, Try.underlying24])) (by rcases ht with rfl | rfl <;> kernel_rfl)]
  exact key _ _ (fun w => p32 _ 0 _ w rfl) (fun w => p8 _ 1 _ w rfl) (fun w => p32 _ 2 _ w rfl) (fun w => p32 _ 0 _ w rfl) (fun w => p8 _ 1 _ w rfl) (fun w => p32 _ 2 _ w rfl)
theorem guardIt (t : TypeId) (ht : t = 25 ∨ t = 24) : Try.prog.eqGuardType Try.prog.depth t = false := by
  rcases ht with rfl | rfl <;> kernel_rfl
theorem q_neIt {t yt : TypeId} {x y : Operand} (a b : It) (ht : t = 25 ∨ t = 24) (hx : ev ρ x = some (.agg (itC a).toArray)) (hy : ev ρ y = some (.agg (itC b).toArray)) : Qv Try.prog n ρ Γ ⟨ds, .binOp .neq t x y yt, ty, pos, af, gd⟩ (.bool (!decide (a = b))) :=
  q_binR hx hy (fun w => run_eqGuard_agg w _ t x y _ _ (guardIt t ht)) (fun w => by rw [run_neq_struct, run_eqIt t ht]; rfl)
theorem q_eqIt {t yt : TypeId} {x y : Operand} (a b : It) (ht : t = 25 ∨ t = 24) (hx : ev ρ x = some (.agg (itC a).toArray)) (hy : ev ρ y = some (.agg (itC b).toArray)) : Qv Try.prog n ρ Γ ⟨ds, .binOp .eql t x y yt, ty, pos, af, gd⟩ (.bool (decide (a = b))) :=
  q_binR hx hy (fun w => run_eqGuard_agg w _ t x y _ _ (guardIt t ht)) (fun w => by rw [run_eql_struct, run_eqIt t ht]; rfl)
end
end Go.Proofs.Ythpfljiabhjodaa
