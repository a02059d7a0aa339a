/- From a contract over memory that was there to what a law owes. -/
import Derived.Test.YtbhnbnecaejjiaaDoorRead
import Derived.Test.YtbhnbnecaejjiaaDoorMisc
namespace Go.Proofs.YtbhnbnecaejjiaaDoor
open Go.RowKit Go.ChangeShapes Go.WideShapes Go.ChangeAt Go.Deep
/-- A law, as a contract. -/
def LawS (f : FuncId) (args : List Value) (W : World) : Prop := Spec Tryd.prog f args [old W] fun Γ v Θ => v = .bool true ∧ Θ = old W :: Γ
theorem law_run {f : FuncId} {args : List Value} {W : World} (h : LawS f args W) : Calls Tryd.prog f args.toArray W fun e W' => e = .returned (.bool true) ∧ Below W.heap.size W W' := by
  have hs : Sat W ([old W] ++ []) := ⟨HL.of W, HL.le.refl _, HL.of W, HL.emp, fun b => .inr rfl, HL.le.refl _, HL.emp_le _, fun _ _ h => h, trivial⟩
  refine (h [] W hs).mono ?_
  rintro e w' ⟨v, Θ, rfl, ⟨rfl, rfl⟩, hs', hx⟩
  refine ⟨rfl, hx.os, hx.tape, hx.output, hx.size, fun k hk => ?_⟩
  have ho : HasOld [old W] W := inferInstance
  have := ho.sat w' hs' k W.heap[k] (Array.getElem?_eq_getElem hk)
  rw [this, Array.getElem?_eq_getElem hk]
theorem Spec.weaken {P : Program} {f : FuncId} {args : List Value} {pre pre' : List Assn} {post post' : List Assn → Value → List Assn → Prop} (h : Spec P f args pre post) (hpre : ∀ Γ, ∃ Δ, Ent (pre' ++ Γ) (pre ++ Δ) ∧ ∀ v Θ, post Δ v Θ → ∃ Ξ, post' Γ v Ξ ∧ Ent Θ Ξ) : Spec P f args pre' post' := by
  intro Γ w hs
  obtain ⟨Δ, h1, h2⟩ := hpre Γ
  refine (h Δ w (hs.ent h1)).mono ?_
  rintro e w' ⟨v, Θ, rfl, hp, hs', hx⟩
  obtain ⟨Ξ, h3, h4⟩ := h2 v Θ hp
  exact ⟨v, Ξ, rfl, h3, hs'.ent h4, hx⟩
section
variable {H : Type} {enc : TypeId × Value → H} {P : Program} {W : World} {b0 : Nat} {r : Reach} {sp : Nat → Bool} {held : Bool} {base : Nat}
theorem arg_int {t : TypeId} {k : IntKind} {v : Value} {d : DataW H} {ps : List MemPlace} (ht : P.underlying t = some (.int k)) (hval : Value.okWide P W r b0 t v) (hd : DataW.Trod enc P W base sp held t v d ps) : ∃ n, v = .int k n ∧ (Lit.int k n).wf = true := by
  obtain ⟨n, h1, _, _, h2⟩ := open_int ht hval hd
  exact ⟨n, h1, h2⟩
theorem arg_bool {t : TypeId} {v : Value} (ht : P.underlying t = some .bool) (hval : Value.okWide P W r b0 t v) : ∃ b, v = .bool b := okWide_bool ht hval
theorem arg_slice {t e : TypeId} {s : TS} {v : Value} {d : DataW H} {ps : List MemPlace} (n : Nat) (ht : P.underlying t = some (.slice e)) (hok : tsOk P n t s = true) (hval : Value.okWide P W r b0 t v) (hd : DataW.Trod enc P W base sp held t v d ps) : Rd W s [v] := by
  obtain ⟨a, l, c, rfl⟩ := okWide_slice ht hval
  obtain ⟨fuel, hf⟩ := hd
  exact rd_of_trod n fuel t s _ _ hok hf
theorem arg_struct {t : TypeId} {fs : Array Field} {s : TS} {v : Value} {d : DataW H} {ps : List MemPlace} (n : Nat) (ht : P.underlying t = some (.struct fs)) (hok : tsOk P n t s = true) (hval : Value.okWide P W r b0 t v) (hd : DataW.Trod enc P W base sp held t v d ps) : ∃ cs : List Value, v = .agg cs.toArray ∧ Rd W s cs := by
  obtain ⟨cs, rfl, _⟩ := okWide_struct ht hval
  obtain ⟨fuel, hf⟩ := hd
  exact ⟨cs.toList, by simp, rd_of_trod n fuel t s _ _ hok hf⟩
end
end Go.Proofs.YtbhnbnecaejjiaaDoor
