/- Calls of function values; shifts. Of no program. -/
import Derived.Test.YtbhnbnecaejjiaaDoorPure
namespace Go.Proofs.YtbhnbnecaejjiaaDoor
open Go.RowKit
section
variable {P : Program} {n : Nat} {md : Bool} {w0 : WM md} {ρ : Env} {Γ : List Assn} {Q : Exit → Act → World → Prop} {K : Act → World → Prop} {ty : TypeId} {pos : String} {af : Array Edge} {gd : Option (Nat × Bool)} {d : Nat} {ds : Option Tmp}
theorem run_enterC {f : FuncId} {vs fs cs : List Value} {c : Call} {x : Operand} {a : Act} {ds : Option Tmp} (he : enterT P f = true) (hx : c.callee = .value x) (hc : a.eval x = .func (.func f) fs.toArray cs.toArray) (hargs : c.args.map a.eval = vs.toArray) (w : World) :
    (execOp a.eval ⟨ds, .call c, ty, pos, af, gd⟩).run P w = .ok (.enter f (fs ++ vs ++ cs).toArray) w := by
  unfold enterT at he
  split at he
  · rename_i fn hfn
    simp only [Bool.and_eq_true, bne_iff_ne, ne_eq] at he
    obtain ⟨h1, h2⟩ := he
    have h2' : ¬ fn.body = none := by cases hb : fn.body <;> simp [hb] at h2 ⊢
    simp [execOp, resolve, hx, hc, Deferred.ofValue, invoke, hargs, callFunc, hfn, h1, h2']
  · cases he
/-- A call of a function value. -/
theorem S.callC {f : FuncId} {x : Operand} {xs : List Operand} {ats : Array TypeId} {vs fs cs : List Value} {pre Δ : List Assn} {post : List Assn → Value → List Assn → Prop} (he : enterT P f = true) (hx : ev ρ x = some (.func (.func f) fs.toArray cs.toArray)) (hargs : EvL ρ xs vs)
    (hs : Spec P f (fs ++ vs ++ cs) pre post md) [hp : Picks pre Γ Δ] (hn : Nat.blt d n = true)
    (k : ∀ v Θ, post Δ v Θ → S n w0 ((d, v) :: ρ) Θ K) : S n w0 ρ Γ (Ow P Q ⟨some d, .call { callee := .value x, args := xs.toArray, argTypes := ats }, ty, pos, af, gd⟩ K) := by
  intro a w ha hsat hxt
  have hr := run_enterC (ty := ty) (pos := pos) (af := af) (gd := gd) (c := { callee := .value x, args := xs.toArray, argTypes := ats }) (a := a) (ds := some d) (vs := vs) he rfl (ha.ev hx) (by simp [hargs.map ha]) w
  unfold Ow Oper.wp
  rw [hr, Oper.upon_enter]
  refine (hs Δ w (hsat.ent hp.ent)).mono ?_
  rintro e w' ⟨v, Θ, rfl, hpost, hsat', hx'⟩
  exact k v Θ hpost _ _ (ha.put hn v) hsat' (hxt.transM hx')
theorem S.callC0 {f : FuncId} {x : Operand} {xs : List Operand} {ats : Array TypeId} {vs fs cs : List Value} {pre Δ : List Assn} {post : List Assn → Value → List Assn → Prop} (he : enterT P f = true) (hx : ev ρ x = some (.func (.func f) fs.toArray cs.toArray)) (hargs : EvL ρ xs vs)
    (hs : Spec P f (fs ++ vs ++ cs) pre post md) [hp : Picks pre Γ Δ]
    (k : ∀ v Θ, post Δ v Θ → S n w0 ρ Θ K) : S n w0 ρ Γ (Ow P Q ⟨none, .call { callee := .value x, args := xs.toArray, argTypes := ats }, ty, pos, af, gd⟩ K) := by
  intro a w ha hsat hxt
  have hr := run_enterC (ty := ty) (pos := pos) (af := af) (gd := gd) (c := { callee := .value x, args := xs.toArray, argTypes := ats }) (a := a) (ds := none) (vs := vs) he rfl (ha.ev hx) (by simp [hargs.map ha]) w
  unfold Ow Oper.wp
  rw [hr, Oper.upon_enter]
  refine (hs Δ w (hsat.ent hp.ent)).mono ?_
  rintro e w' ⟨v, Θ, rfl, hpost, hsat', hx'⟩
  exact k v Θ hpost _ _ (ha.putNone _) hsat' (hxt.transM hx')
theorem S.callCP {f : FuncId} {x : Operand} {xs : List Operand} {ats : Array TypeId} {vs fs cs : List Value} {v : Value} (he : enterT P f = true) (hx : ev ρ x = some (.func (.func f) fs.toArray cs.toArray)) (hargs : EvL ρ xs vs) (h : ∀ w, Sat w Γ → PureS P f (fs ++ vs ++ cs) w v) (hn : Nat.blt d n = true)
    (k : S n w0 ((d, v) :: ρ) Γ K) : S n w0 ρ Γ (Ow P Q ⟨some d, .call { callee := .value x, args := xs.toArray, argTypes := ats }, ty, pos, af, gd⟩ K) := by
  intro a w ha hsat hxt
  have hr := run_enterC (ty := ty) (pos := pos) (af := af) (gd := gd) (c := { callee := .value x, args := xs.toArray, argTypes := ats }) (a := a) (ds := some d) (vs := vs) he rfl (ha.ev hx) (by simp [hargs.map ha]) w
  unfold Ow Oper.wp
  rw [hr, Oper.upon_enter]
  refine (pure_run (h w hsat)).mono ?_
  rintro e w' ⟨rfl, hb, hdr⟩
  exact k _ _ (ha.put hn v) (hsat.belowP hb) (hxt.trans ⟨hb.os, hb.tape, hb.output, hb.size, hdr⟩)
theorem q_shr {t yt : TypeId} {x y : Operand} {k ky : IntKind} {p q : Int} (m : Nat) (hx : ev ρ x = some (.int k p)) (hy : ev ρ y = some (.int ky q)) (hq : q = ((m : Nat) : Int)) (hm : Nat.ble m k.bits = true) : Qv P n ρ Γ ⟨ds, .binOp .shr t x y yt, ty, pos, af, gd⟩ (.int k (p / 2 ^ m)) := fun a w ha _ => by
  subst hq
  have h0 : ¬ ((m : Int) < 0) := by omega
  have h1 : min m k.bits = m := Nat.min_eq_left (Nat.le_of_ble_eq_true hm)
  have e : Int.fdiv p (2 ^ m) = p / 2 ^ m := Int.fdiv_eq_ediv_of_nonneg _ (by have : (0 : Int) < 2 ^ m := Int.pow_pos (by omega); omega)
  simp [execOp, ha.ev hx, ha.ev hy, eqGuard, binOp, Op.shift, h0, h1, e]
end
end Go.Proofs.YtbhnbnecaejjiaaDoor
