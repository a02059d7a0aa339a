/- Bits: rules in the states of XSep; look-ups in memory that was there. Of no program. -/
import Derived.Test.YtbhnbnecaejjiaaDoorSetP
import Derived.Test.YtbhnbnecaejjiaaDoorMap
namespace Go.Proofs.YtbhnbnecaejjiaaDoor
open Go.RowKit
def pc8 (n : Nat) : Nat := ((List.range 8).filter fun i => n.testBit i).length
/-- The table of how many bits a byte has. -/
def popOk (bs : ByteArray) : Bool := (List.range 256).all fun i => match bs[i]? with
  | some b => b.toNat == pc8 i
  | none => false
section
variable {P : Program} {n : Nat} {md : Bool} {w0 : WM md} {ρ : Env} {Γ : List Assn} {Q : Exit → Act → World → Prop} {K : Act → World → Prop} {ty : TypeId} {pos : String} {af : Array Edge} {gd : Option (Nat × Bool)} {d : Nat} {ds : Option Tmp}
theorem q_andB {t yt : TypeId} {x y : Operand} {p q : Int} (s u : Bs) (hx : ev ρ x = some (.int .u16 p)) (hy : ev ρ y = some (.int .u16 q)) (hp : p = s.toNat) (hq : q = u.toNat) : Qv P n ρ Γ ⟨ds, .binOp .and t x y yt, ty, pos, af, gd⟩ (bsv (s &&& u)) := by
  subst hp hq
  exact q_bin hx hy fun w => by
    have e := wrap_bs (s &&& u)
    simp [binOp, Op.intBits, IntKind.bits, BitVec.ofInt_natCast] at e ⊢
    exact e
theorem q_orB {t yt : TypeId} {x y : Operand} {p q : Int} (s u : Bs) (hx : ev ρ x = some (.int .u16 p)) (hy : ev ρ y = some (.int .u16 q)) (hp : p = s.toNat) (hq : q = u.toNat) : Qv P n ρ Γ ⟨ds, .binOp .or t x y yt, ty, pos, af, gd⟩ (bsv (s ||| u)) := by
  subst hp hq
  exact q_bin hx hy fun w => by
    have e := wrap_bs (s ||| u)
    simp [binOp, Op.intBits, IntKind.bits, BitVec.ofInt_natCast] at e ⊢
    exact e
theorem q_andNotB {t yt : TypeId} {x y : Operand} {p q : Int} (s u : Bs) (hx : ev ρ x = some (.int .u16 p)) (hy : ev ρ y = some (.int .u16 q)) (hp : p = s.toNat) (hq : q = u.toNat) : Qv P n ρ Γ ⟨ds, .binOp .andNot t x y yt, ty, pos, af, gd⟩ (bsv (s &&& ~~~u)) := by
  subst hp hq
  exact q_bin hx hy fun w => by
    have e := wrap_bs (s &&& ~~~u)
    simp only [binOp, Op.intBits, IntKind.bits, ofInt_bs, ne_eq, not_true_eq_false, if_false, Sem.run_pure]
    exact congrArg (fun z => Result.ok (Value.int IntKind.u16 z) w) e
theorem wrap16 (z : Int) : IntKind.u16.wrap z = ((BitVec.ofInt 16 z).toNat : Int) := by
  simp only [IntKind.wrap, IntKind.bits, IntKind.signed, Bool.false_and, Bool.false_eq_true, if_false]
  rw [BitVec.toNat_ofInt, Int.toNat_of_nonneg (Int.emod_nonneg _ (by decide))]
  rfl
theorem q_negB {t : TypeId} {x : Operand} {p : Int} (s : Bs) (hx : ev ρ x = some (.int .u16 p)) (hp : p = s.toNat) : Qv P n ρ Γ ⟨ds, .unOp .neg t x, ty, pos, af, gd⟩ (bsv (-s)) := fun a w ha _ => by
  subst hp
  have e : IntKind.u16.wrap (0 - (s.toNat : Int)) = ((-s).toNat : Int) := by
    rw [wrap16, Int.zero_sub, BitVec.ofInt_neg, ofInt_bs]
  simp only [execOp, ha.ev hx, Op.unary, Op.intArith, e, Sem.run_bind, Sem.run_pure, Result.andThen_ok]
theorem q_predB {t yt : TypeId} {x y : Operand} {p : Int} (s : Bs) (hx : ev ρ x = some (.int .u16 p)) (hy : ev ρ y = some (.int .u16 1)) (hp : p = s.toNat) : Qv P n ρ Γ ⟨ds, .binOp .sub t x y yt, ty, pos, af, gd⟩ (bsv (s - 1#16)) := by
  subst hp
  have e : IntKind.u16.wrap ((s.toNat : Int) - 1) = ((s - 1#16).toNat : Int) := by
    rw [wrap16, Int.sub_eq_add_neg, BitVec.ofInt_add, ofInt_bs, BitVec.ofInt_neg, BitVec.sub_eq_add_neg]
    rfl
  exact q_bin hx hy fun w => by simp only [binOp, Op.intArith, e, ne_eq, not_true_eq_false, if_false, Sem.run_pure]
theorem q_mulW {t yt : TypeId} {x y : Operand} {k : IntKind} {p q : Int} (hx : ev ρ x = some (.int k p)) (hy : ev ρ y = some (.int k q)) : Qv P n ρ Γ ⟨ds, .binOp .mul t x y yt, ty, pos, af, gd⟩ (.int k (k.wrap (p * q))) :=
  q_bin hx hy fun w => by simp [binOp, Op.intArith]
/-- s >> m. -/
theorem q_shrB {t yt : TypeId} {x y : Operand} {ky : IntKind} {p q : Int} (s : Bs) (m : Nat) (hx : ev ρ x = some (.int .u16 p)) (hy : ev ρ y = some (.int ky q)) (hp : p = s.toNat) (hq : q = ((m : Nat) : Int)) (hm : m ≤ 16) : Qv P n ρ Γ ⟨ds, .binOp .shr t x y yt, ty, pos, af, gd⟩ (bsv (s >>> m)) := by
  subst hp
  have := q_shr (P := P) (n := n) (Γ := Γ) (t := t) (yt := yt) (ty := ty) (pos := pos) (af := af) (gd := gd) (ds := ds) m hx hy hq (by simpa [IntKind.bits] using hm)
  have e : ((s.toNat : Int) / 2 ^ m) = ((s >>> m).toNat : Int) := by
    rw [BitVec.toNat_ushiftRight, Nat.shiftRight_eq_div_pow]
    norm_cast
  rwa [e] at this
/-- 1 << m. -/
theorem q_shlB {t yt : TypeId} {x y : Operand} {ky : IntKind} {q : Int} (m : Nat) (hx : ev ρ x = some (.int .u16 1)) (hy : ev ρ y = some (.int ky q)) (hq : q = ((m : Nat) : Int)) (hm : m ≤ 16) : Qv P n ρ Γ ⟨ds, .binOp .shl t x y yt, ty, pos, af, gd⟩ (bsv (BitVec.twoPow 16 m)) := fun a w ha _ => by
  subst hq
  have h0 : ¬ ((m : Int) < 0) := by omega
  have h1 : min m 16 = m := Nat.min_eq_left hm
  have e : IntKind.u16.wrap (1 * 2 ^ m) = ((BitVec.twoPow 16 m).toNat : Int) := by
    rw [wrap16, Int.one_mul, BitVec.toNat_twoPow]
    have e2 : ((2 : Int) ^ m) = ((2 ^ m : Nat) : Int) := by norm_cast
    rw [e2, BitVec.ofInt_natCast, BitVec.toNat_ofNat]
  simp only [execOp, ha.ev hx, ha.ev hy, eqGuard, binOp, Op.shift, IntKind.bits, h0, if_false, Int.toNat_natCast, h1, e, Sem.run_bind, Sem.run_pure]
  simp
/-- 1<<m - 1 -/
theorem twoPow_pred : ∀ m : Nat, m ≤ 16 → BitVec.twoPow 16 m - 1#16 = mask m := by
  intro m hm
  have : ∀ k : _root_.Fin 17, BitVec.twoPow 16 k.1 - 1#16 = mask k.1 := by decide
  exact this ⟨m, by omega⟩
theorem q_popAt {t : TypeId} {x y : Operand} {bs : ByteArray} {ky : IntKind} {z : Int} (i : Nat) (ht : P.underlying t = some .string) (hx : ev ρ x = some (.string bs)) (hb : popOk bs = true) (hy : ev ρ y = some (.int ky z)) (hz : z = ((i : Nat) : Int)) (hi : i < 256) : Qv P n ρ Γ ⟨ds, .index t x y, ty, pos, af, gd⟩ (.int .u8 ((pc8 i : Nat) : Int)) := fun a w ha _ => by
  subst hz
  have h := List.all_eq_true.1 hb i (List.mem_range.2 hi)
  cases e : bs[i]? with
  | none => rw [e] at h; cases h
  | some b =>
    rw [e] at h
    have h : b.toNat = pc8 i := by simpa using h
    simp [execOp, ha.ev hx, ha.ev hy, Instr.index, asIntOf, run_underlying ht, e, h]
end
theorem pc8_le (n : Nat) : pc8 n ≤ 8 := by
  have := List.length_filter_le (fun i => n.testBit i) (List.range 8)
  rw [List.length_range] at this
  exact this
theorem lst_pc (s : Bs) : (lst s).length = pc8 (s.toNat / 256) + pc8 (s.toNat % 256) := by
  have e : (List.range 16) = List.range 8 ++ (List.range 8).map (8 + ·) := by decide
  unfold lst
  rw [e, List.filter_append, List.length_append, List.filter_map, List.length_map]
  have e1 : (List.range 8).filter (fun i => s.getLsbD i) = (List.range 8).filter fun i => (s.toNat % 256).testBit i := List.filter_congr fun i hi => by
    have := List.mem_range.1 hi
    rw [show (256 : Nat) = 2 ^ 8 from rfl, Nat.testBit_mod_two_pow, BitVec.getLsbD]
    simp [this]
  have e2 : (List.range 8).filter ((fun i => s.getLsbD i) ∘ (8 + ·)) = (List.range 8).filter fun i => (s.toNat / 256).testBit i := List.filter_congr fun i _ => by
    rw [show (256 : Nat) = 2 ^ 8 from rfl, Nat.testBit_div_two_pow, Function.comp, BitVec.getLsbD, Nat.add_comm]
  rw [e1, e2]
  unfold pc8
  omega
/-! Look-ups in a map of memory that was there. -/
theorem q_lookup1W {P : Program} {n : Nat} {ρ : Env} {Γ : List Assn} {ty : TypeId} {pos : String} {af : Array Edge} {gd : Option (Nat × Bool)} {ds : Option Tmp} {t kt et : TypeId} {q : IntKind} {x y : Operand} {b : Nat} {kk : IntKind} {z : Int} {zv : Value} {W : World} {es : Array MapEntry} {clock : Nat} (l : List (Int × Value)) (v : Value) (ht : P.underlying t = some (.map kt et)) (hk : P.underlying kt = some (.int q)) (hzv : (P.info? et).bind (·.zero) = some zv)
    (hx : ev ρ x = some (.map (some b))) (hy : ev ρ y = some (.int kk z)) [h : HasOld Γ W] (hq : q = kk) (hb : W.heap[b]? = some (.map es clock)) (hr : MapRep kk l es.toList clock) (hv : v = (alGet z l).getD zv) : Qv P n ρ Γ ⟨ds, .lookup t x y false, ty, pos, af, gd⟩ v := by
  intro a w ha hs
  have hs2 : Sat w (mapL b kk l :: []) := by
    refine ⟨HL.of w, HL.le.refl _, HL.of w, HL.emp, fun _ => .inr rfl, HL.le.refl _, HL.emp_le _, ⟨es, clock, ?_, hr⟩, trivial⟩
    exact h.sat w hs b _ hb
  exact q_lookup1 (Γ := mapL b kk l :: []) v ht hk hzv hx hy hq hv a w ha hs2
end Go.Proofs.YtbhnbnecaejjiaaDoor
