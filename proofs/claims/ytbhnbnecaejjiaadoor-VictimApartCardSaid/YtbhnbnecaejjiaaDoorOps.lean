/- Rules for single operations, in the states of XSep. Of no program. -/
import Derived.Test.YtbhnbnecaejjiaaDoorSep
import Derived.WalkSpells
namespace Go.Proofs.YtbhnbnecaejjiaaDoor
open Go.RowKit
/-! Facts on the program's types, each a closed equation. -/
def atomT (P : Program) (t : TypeId) : Bool := match P.underlying t with
  | some (.struct _) | some (.array _ _) | none => false
  | some _ => (P.info? t).map (·.size) == some 1
def aggT (P : Program) (t : TypeId) : Option Nat := match P.underlying t with
  | some (.struct _) | some (.array _ _) => (P.info? t).map (·.size)
  | _ => none
def fieldT (P : Program) (t : TypeId) (f : Nat) : Option Nat := match P.underlying t with
  | some (.struct fs) => match fs[f]? with
    | some x => match P.info? x.type with
      | some i => if i.size = 0 then none else some x.offset
      | none => none
    | none => none
  | _ => none
def zeroT (P : Program) (t : TypeId) : Option (List Value) := ((P.info? t).bind (·.zero)).map (·.cells.toList)
def elemT (P : Program) (t : TypeId) : Option (TypeId × Nat) := match P.underlying t with
  | some (.slice e) => (P.info? e).map fun i => (e, i.size)
  | _ => none
def arrT (P : Program) (t : TypeId) : Option (Nat × Nat) := match P.underlying t with
  | some (.array n e) => (P.info? e).map fun i => (n, i.size)
  | _ => none
def intT (P : Program) (t : TypeId) : Option IntKind := match P.underlying t with
  | some (.int k) => some k
  | _ => none
def enterT (P : Program) (f : FuncId) : Bool := match P.funcs[f]? with
  | some fn => fn.name != "runtime.NumGoroutine" && fn.body.isSome
  | none => false
def partsT (P : Program) (t : TypeId) : Option (List (Nat × Nat)) := match P.underlying t with
  | some (.struct fs) => fs.toList.mapM fun f => (P.info? f.type).map fun i => (f.offset, i.size)
  | _ => none
/-- A cell of a list, so that what is reckoned is the cell itself. -/
def lg : List Value → Nat → Option Value
  | [], _ => none
  | v :: _, 0 => some v
  | _ :: vs, n + 1 => lg vs n
theorem lg_eq : ∀ (l : List Value) (n : Nat), lg l n = l[n]?
  | [], _ => by simp [lg]
  | _ :: _, 0 => by simp [lg]
  | _ :: vs, n + 1 => by simp [lg, lg_eq vs n]
theorem lg_arr {cs : Array Value} {o : Nat} {v : Value} (h : lg cs.toList o = some v) : cs[o]? = some v := by rw [lg_eq] at h; simpa using h
/-- Cells from o on. -/
def Seg (cs : Array Value) (o : Nat) : List Value → Prop
  | [] => True
  | v :: vs => lg cs.toList o = some v ∧ Seg cs (o + 1) vs
theorem Seg.get {cs : Array Value} {o : Nat} {vs : List Value} (h : Seg cs o vs) : ∀ j v, vs[j]? = some v → cs[o + j]? = some v := by
  induction vs generalizing o with
  | nil => intro j v h; simp at h
  | cons u vs ih =>
    intro j v hv
    cases j with
    | zero => simp only [List.getElem?_cons_zero, Option.some.injEq] at hv; subst hv; exact lg_arr h.1
    | succ j => have := ih h.2 j v (by simpa using hv); rwa [show o + 1 + j = o + (j + 1) by omega] at this
def EvL (ρ : Env) : List Operand → List Value → Prop
  | [], [] => True
  | x :: xs, v :: vs => ev ρ x = some v ∧ EvL ρ xs vs
  | _, _ => False
theorem EvL.map {n : Nat} {ρ : Env} {a : Act} (ha : EnvOk n ρ a) : ∀ {xs : List Operand} {vs : List Value}, EvL ρ xs vs → xs.map a.eval = vs
  | [], [], _ => rfl
  | _ :: _, _ :: _, h => by rw [List.map_cons, ha.ev h.1, EvL.map ha h.2]
  | [], _ :: _, h => h.elim
  | _ :: _, [], h => h.elim
/-- A block among the assertions. -/
class HasB (Γ : List Assn) (b : Nat) (e : outParam TypeId) (cs : outParam (Array Value)) (Δ : outParam (List Assn)) : Prop where
  ent : Ent Γ (blk b e cs :: Δ)
instance (priority := high) HasB.head {Γ : List Assn} {b : Nat} {e : TypeId} {cs : Array Value} : HasB (blk b e cs :: Γ) b e cs Γ := ⟨Ent.refl _⟩
instance HasB.tail {P : Assn} {Γ Δ : List Assn} {b : Nat} {e : TypeId} {cs : Array Value} [h : HasB Γ b e cs Δ] : HasB (P :: Γ) b e cs (P :: Δ) := ⟨(h.ent.cons P).trans (Ent.swap _ _ _)⟩
theorem HasB.blk {Γ Δ : List Assn} {b : Nat} {e : TypeId} {cs : Array Value} (h : HasB Γ b e cs Δ) {w : World} (hs : Sat w Γ) : Blk w b e cs := (hs.ent h.ent).isBlk
/-- An operation that leaves a value and changes nothing. -/
def Qv (P : Program) (n : Nat) (ρ : Env) (Γ : List Assn) (o : Oper) (v : Value) : Prop := ∀ a w, EnvOk n ρ a → Sat w Γ → (execOp a.eval o).run P w = .ok (.value v) w
/-- An operation, then K. -/
def Ow (P : Program) (Q : Exit → Act → World → Prop) (o : Oper) (K : Act → World → Prop) : Act → World → Prop := fun a w => o.wp P a w K Q
def wpL (P : Program) (Q : Exit → Act → World → Prop) : List Oper → Act → World → Prop
  | [], a, w => Q .normal a w
  | o :: rest, a, w => o.wp P a w (wpL P Q rest) Q
theorem wpL_sound {P : Program} {Q : Exit → Act → World → Prop} {ops : Array Oper} : ∀ (l : List Oper), (l.all fun o => o.guard.isNone) = true → ∀ a w, wpL P Q l a w → wpList P ops Q l a w := by
  intro l
  induction l with
  | nil => intro _ a w h; exact h
  | cons o l ih =>
    intro hg a w h
    simp only [List.all_cons, Bool.and_eq_true, Option.isNone_iff_eq_none] at hg
    unfold wpList
    rw [if_pos (by simp [Region.wanted, hg.1])]
    exact .inl (Oper.wp_mono (ih hg.2) h)
section
variable {P : Program} {n : Nat} {md : Bool} {w0 : WM md} {ρ : Env} {Γ : List Assn} {Q : Exit → Act → World → Prop} {K : Act → World → Prop} {rest : List Oper} {ty : TypeId} {pos : String} {af : Array Edge} {gd : Option (Nat × Bool)} {d : Nat} {ds : Option Tmp}
theorem S.region {id : Nat} {l : List Oper} (hg : (l.all fun o => o.guard.isNone) = true) (h : S n w0 ρ Γ (wpL P Q l)) : S n w0 ρ Γ ((Code.region id l.toArray false).wp P Q) :=
  fun a w ha hs hx => wp_region_lit (wpL_sound l hg a w (h a w ha hs hx))
theorem S.nil (h : S n w0 ρ Γ (Q .normal)) : S n w0 ρ Γ (wpL P Q []) := h
theorem S.nilK (h : S n w0 ρ Γ K) : S n w0 ρ Γ (wpL P (Exit.then K Q) []) := h
theorem S.op {o : Oper} (h : S n w0 ρ Γ (Ow P Q o (wpL P Q rest))) : S n w0 ρ Γ (wpL P Q (o :: rest)) := h
/-- A quiet operation. -/
theorem S.q {o : Oper} {v : Value} (h : Qv P n ρ Γ o v) (hd : o.dst = some d) (hn : Nat.blt d n = true) (k : S n w0 ((d, v) :: ρ) Γ K) : S n w0 ρ Γ (Ow P Q o K) := by
  intro a w ha hs hx
  unfold Ow Oper.wp
  rw [h a w ha hs, Oper.upon_value, hd]
  exact k _ _ (ha.put hn v) hs hx
/-! Quiet operations. -/
theorem q_move {x : Operand} {v : Value} (hx : ev ρ x = some v) : Qv P n ρ Γ ⟨ds, .move x, ty, pos, af, gd⟩ v := fun a w ha _ => by simp [execOp, ha.ev hx]
theorem q_assign {x : Operand} {v : Value} (hx : ev ρ x = some v) : Qv P n ρ Γ ⟨ds, .assign x, ty, pos, af, gd⟩ v := fun a w ha _ => by simp [execOp, ha.ev hx]
theorem q_nilCheck {x : Operand} {p : Addr} (hx : ev ρ x = some (.pointer (some p))) : Qv P n ρ Γ ⟨ds, .nilCheck x, ty, pos, af, gd⟩ (.pointer (some p)) := fun a w ha _ => by simp [execOp, ha.ev hx]
theorem q_field {t f : Nat} {x : Operand} {b o c : Nat} (hf : fieldT P t f = some c) (hx : ev ρ x = some (.pointer (some ⟨b, o, none⟩))) : Qv P n ρ Γ ⟨ds, .fieldAddr t x f, ty, pos, af, gd⟩ (.pointer (some ⟨b, o + c, none⟩)) := by
  intro a w ha _
  unfold fieldT at hf
  split at hf
  · rename_i fs hfs
    split at hf
    · rename_i y hy
      split at hf
      · rename_i i hi
        split at hf
        · cases hf
        · rename_i hne
          cases hf
          simp [execOp, ha.ev hx, Instr.fieldAt, run_underlying hfs, hy, Instr.sureAddr, fieldPlace, sizeOf, typeInfo, hi, hne, Addr.add_lit]
      · cases hf
    · cases hf
  · cases hf
theorem run_isAgg_atom {t : TypeId} (h : atomT P t = true) (w : World) : (isAgg t).run P w = .ok false w ∧ (sizeOf t).run P w = .ok 1 w := by
  unfold atomT at h
  split at h
  · cases h
  · cases h
  · cases h
  · rename_i dd h1 h2 h3
    cases hi : P.info? t with
    | none => simp [hi] at h
    | some i =>
      simp only [hi, Option.map_some, beq_iff_eq, Option.some.injEq] at h
      refine ⟨?_, by simp [sizeOf, typeInfo, hi, h]⟩
      unfold isAgg
      rw [Sem.run_bind, run_underlying h3]
      cases dd <;> simp_all
theorem run_isAgg_agg {t : TypeId} {k : Nat} (h : aggT P t = some k) (w : World) : (isAgg t).run P w = .ok true w ∧ (sizeOf t).run P w = .ok k w := by
  unfold aggT at h
  split at h
  · rename_i dd h1
    cases hi : P.info? t with
    | none => simp [hi] at h
    | some i => simp [hi] at h; exact ⟨by simp [isAgg, run_underlying h1], by simp [sizeOf, typeInfo, hi, h]⟩
  · rename_i dd h1
    cases hi : P.info? t with
    | none => simp [hi] at h
    | some i => simp [hi] at h; exact ⟨by simp [isAgg, run_underlying h1], by simp [sizeOf, typeInfo, hi, h]⟩
  · cases h
theorem run_load_at {w : World} {a : Addr} {v : Value} (h : w.cell? a = some v) : (load a).run P w = .ok v w := by simp [load, Sem.run, h]
theorem q_load {t b o : Nat} {x : Operand} {e : TypeId} {cs : Array Value} {v : Value} {Δ : List Assn} (ht : atomT P t = true) (hx : ev ρ x = some (.pointer (some ⟨b, o, none⟩))) [hb : HasB Γ b e cs Δ] (hv : lg cs.toList o = some v) :
    Qv P n ρ Γ ⟨ds, .load t x, ty, pos, af, gd⟩ v := by
  intro a w ha hs
  have hc : w.cell? ⟨b, o, none⟩ = some v := by rw [(hb.blk hs).cell]; exact lg_arr hv
  have hl : (loadVar t ⟨b, o, none⟩).run P w = .ok v w := by
    unfold loadVar
    rw [Sem.run_bind, (run_isAgg_atom ht w).1]
    exact run_load_at hc
  simp only [execOp, ha.ev hx, Instr.loadAt, Instr.sureAddr, Sem.run_bind, Sem.run_pure, Result.andThen_ok, hl]
theorem q_loadS {t b o k : Nat} {x : Operand} {e : TypeId} {cs : Array Value} {Δ : List Assn} (vs : List Value) (ht : aggT P t = some k) (hx : ev ρ x = some (.pointer (some ⟨b, o, none⟩))) [hb : HasB Γ b e cs Δ] (hk : vs.length = k) (hv : Seg cs o vs) :
    Qv P n ρ Γ ⟨ds, .load t x, ty, pos, af, gd⟩ (.agg vs.toArray) := by
  intro a w ha hs
  have hc : ∀ j u, vs[j]? = some u → w.cell? ((⟨b, o, none⟩ : Addr).add j) = some u := fun j u hu => by rw [Addr.add_lit, (hb.blk hs).cell]; exact hv.get j u hu
  have := run_loadCells_list (P := P) (w := w) ⟨b, o, none⟩ vs hc
  rw [hk] at this
  simp [execOp, ha.ev hx, Instr.loadAt, Instr.sureAddr, loadVar, (run_isAgg_agg ht w).1, (run_isAgg_agg ht w).2, this]
theorem q_extract {x : Operand} {vs : Array Value} {i : Nat} {v : Value} (hx : ev ρ x = some (.tuple vs)) (hv : lg vs.toList i = some v) : Qv P n ρ Γ ⟨ds, .extract x i, ty, pos, af, gd⟩ v := fun a w ha _ => by simp [execOp, ha.ev hx, Instr.extract, lg_arr hv]
theorem q_makeFunc {fn : Fn} {fs cs : List Operand} {vs us : List Value} (h1 : EvL ρ fs vs) (h2 : EvL ρ cs us) : Qv P n ρ Γ ⟨ds, .makeFunc fn fs.toArray cs.toArray, ty, pos, af, gd⟩ (.func fn vs.toArray us.toArray) := fun a w ha _ => by
  simp [execOp, Instr.makeFunc, h1.map ha, h2.map ha]
/-! Numbers. -/
theorem q_bin {op : BinOp} {t yt : TypeId} {x y : Operand} {k : IntKind} {p q : Int} {v : Value} (hx : ev ρ x = some (.int k p)) (hy : ev ρ y = some (.int k q)) (h : ∀ w, (binOp op t (.int k p) (.int k q)).run P w = .ok v w) : Qv P n ρ Γ ⟨ds, .binOp op t x y yt, ty, pos, af, gd⟩ v := fun a w ha _ => by
  simp [execOp, ha.ev hx, ha.ev hy, eqGuard, h]
theorem wrap_in {k : IntKind} {n : Int} (h : k.min ≤ n ∧ n ≤ k.max) : k.wrap n = n := by
  obtain ⟨h1, h2⟩ := h
  unfold IntKind.wrap
  cases k <;> simp [IntKind.min, IntKind.max, IntKind.signed, IntKind.bits] at h1 h2 ⊢ <;> omega
theorem q_add {t yt : TypeId} {x y : Operand} {k : IntKind} {p q : Int} (hx : ev ρ x = some (.int k p)) (hy : ev ρ y = some (.int k q)) (h : k.min ≤ p + q ∧ p + q ≤ k.max) : Qv P n ρ Γ ⟨ds, .binOp .add t x y yt, ty, pos, af, gd⟩ (.int k (p + q)) :=
  q_bin hx hy fun w => by simp [binOp, Op.intArith, wrap_in h]
theorem q_sub {t yt : TypeId} {x y : Operand} {k : IntKind} {p q : Int} (hx : ev ρ x = some (.int k p)) (hy : ev ρ y = some (.int k q)) (h : k.min ≤ p - q ∧ p - q ≤ k.max) : Qv P n ρ Γ ⟨ds, .binOp .sub t x y yt, ty, pos, af, gd⟩ (.int k (p - q)) :=
  q_bin hx hy fun w => by simp [binOp, Op.intArith, wrap_in h]
theorem q_mul {t yt : TypeId} {x y : Operand} {k : IntKind} {p q : Int} (hx : ev ρ x = some (.int k p)) (hy : ev ρ y = some (.int k q)) (h : k.min ≤ p * q ∧ p * q ≤ k.max) : Qv P n ρ Γ ⟨ds, .binOp .mul t x y yt, ty, pos, af, gd⟩ (.int k (p * q)) :=
  q_bin hx hy fun w => by simp [binOp, Op.intArith, wrap_in h]
theorem q_addW {t yt : TypeId} {x y : Operand} {k : IntKind} {p q : Int} (hx : ev ρ x = some (.int k p)) (hy : ev ρ y = some (.int k q)) : Qv P n ρ Γ ⟨ds, .binOp .add t x y yt, ty, pos, af, gd⟩ (.int k (k.wrap (p + q))) :=
  q_bin hx hy fun w => by simp [binOp, Op.intArith]
theorem q_subW {t yt : TypeId} {x y : Operand} {k : IntKind} {p q : Int} (hx : ev ρ x = some (.int k p)) (hy : ev ρ y = some (.int k q)) : Qv P n ρ Γ ⟨ds, .binOp .sub t x y yt, ty, pos, af, gd⟩ (.int k (k.wrap (p - q))) :=
  q_bin hx hy fun w => by simp [binOp, Op.intArith]
theorem q_eq {t yt : TypeId} {x y : Operand} {k : IntKind} {p q : Int} (hx : ev ρ x = some (.int k p)) (hy : ev ρ y = some (.int k q)) : Qv P n ρ Γ ⟨ds, .binOp .eql t x y yt, ty, pos, af, gd⟩ (.bool (decide (p = q))) :=
  q_bin hx hy fun w => by rw [show decide (p = q) = (p == q) from rfl]; simp [binOp, Op.intCmp]
theorem q_ne {t yt : TypeId} {x y : Operand} {k : IntKind} {p q : Int} (hx : ev ρ x = some (.int k p)) (hy : ev ρ y = some (.int k q)) : Qv P n ρ Γ ⟨ds, .binOp .neq t x y yt, ty, pos, af, gd⟩ (.bool (decide (p ≠ q))) :=
  q_bin hx hy fun w => by rw [show decide (p ≠ q) = (p != q) from by simp [bne]; rfl]; simp [binOp, Op.intCmp]
theorem q_lt {t yt : TypeId} {x y : Operand} {k : IntKind} {p q : Int} (hx : ev ρ x = some (.int k p)) (hy : ev ρ y = some (.int k q)) : Qv P n ρ Γ ⟨ds, .binOp .lss t x y yt, ty, pos, af, gd⟩ (.bool (decide (p < q))) :=
  q_bin hx hy fun w => by simp [binOp, Op.intCmp]
theorem q_le {t yt : TypeId} {x y : Operand} {k : IntKind} {p q : Int} (hx : ev ρ x = some (.int k p)) (hy : ev ρ y = some (.int k q)) : Qv P n ρ Γ ⟨ds, .binOp .leq t x y yt, ty, pos, af, gd⟩ (.bool (decide (p ≤ q))) :=
  q_bin hx hy fun w => by simp [binOp, Op.intCmp]
theorem q_gt {t yt : TypeId} {x y : Operand} {k : IntKind} {p q : Int} (hx : ev ρ x = some (.int k p)) (hy : ev ρ y = some (.int k q)) : Qv P n ρ Γ ⟨ds, .binOp .gtr t x y yt, ty, pos, af, gd⟩ (.bool (decide (q < p))) :=
  q_bin hx hy fun w => by simp [binOp, Op.intCmp]
theorem q_ge {t yt : TypeId} {x y : Operand} {k : IntKind} {p q : Int} (hx : ev ρ x = some (.int k p)) (hy : ev ρ y = some (.int k q)) : Qv P n ρ Γ ⟨ds, .binOp .geq t x y yt, ty, pos, af, gd⟩ (.bool (decide (q ≤ p))) :=
  q_bin hx hy fun w => by simp [binOp, Op.intCmp]
theorem q_rem {t yt : TypeId} {x y : Operand} {k : IntKind} {p q : Int} (hx : ev ρ x = some (.int k p)) (hy : ev ρ y = some (.int k q)) (h : 0 ≤ p ∧ 0 < q) : Qv P n ρ Γ ⟨ds, .binOp .rem t x y yt, ty, pos, af, gd⟩ (.int k (p % q)) :=
  q_bin hx hy fun w => by
    have h0 : q ≠ 0 := by omega
    simp [binOp, Op.intDiv, h0, Int.tmod_eq_emod_of_nonneg h.1]
theorem q_quo {t yt : TypeId} {x y : Operand} {k : IntKind} {p q : Int} (hx : ev ρ x = some (.int k p)) (hy : ev ρ y = some (.int k q)) (h : 0 ≤ p ∧ 0 < q) (hr : k.min ≤ p / q ∧ p / q ≤ k.max) : Qv P n ρ Γ ⟨ds, .binOp .quo t x y yt, ty, pos, af, gd⟩ (.int k (p / q)) :=
  q_bin hx hy fun w => by
    have h0 : q ≠ 0 := by omega
    simp [binOp, Op.intDiv, h0, Int.tdiv_eq_ediv_of_nonneg h.1, wrap_in hr]
theorem q_not {t : TypeId} {x : Operand} {b : Bool} (hx : ev ρ x = some (.bool b)) : Qv P n ρ Γ ⟨ds, .unOp .not t x, ty, pos, af, gd⟩ (.bool (!b)) := fun a w ha _ => by simp [execOp, ha.ev hx, Op.unary]
theorem q_conv {s t : TypeId} {x : Operand} {k j : IntKind} {p : Int} (ht : intT P t = some k) (hst : (P.underlying s).isSome = true) (hx : ev ρ x = some (.int j p)) (h : k.min ≤ p ∧ p ≤ k.max) : Qv P n ρ Γ ⟨ds, .convert s t x, ty, pos, af, gd⟩ (.int k p) := fun a w ha _ => by
  unfold intT at ht
  split at ht
  · rename_i k' hk
    cases ht
    obtain ⟨ds', hds⟩ := Option.isSome_iff_exists.1 hst
    simp [execOp, ha.ev hx, convert, run_underlying hds, run_underlying hk, Conv.intToInt, wrap_in h]
  · cases ht
theorem q_convW {s t : TypeId} {x : Operand} {k j : IntKind} {p : Int} (ht : intT P t = some k) (hst : (P.underlying s).isSome = true) (hx : ev ρ x = some (.int j p)) : Qv P n ρ Γ ⟨ds, .convert s t x, ty, pos, af, gd⟩ (.int k (k.wrap p)) := fun a w ha _ => by
  unfold intT at ht
  split at ht
  · rename_i k' hk
    cases ht
    obtain ⟨ds', hds⟩ := Option.isSome_iff_exists.1 hst
    simp [execOp, ha.ev hx, convert, run_underlying hds, run_underlying hk, Conv.intToInt]
  · cases ht
theorem q_binR {op : BinOp} {t yt : TypeId} {x y : Operand} {p q v : Value} (hx : ev ρ x = some p) (hy : ev ρ y = some q) (hg : ∀ w, (eqGuard op t x y p q).run P w = .ok () w) (h : ∀ w, (binOp op t p q).run P w = .ok v w) : Qv P n ρ Γ ⟨ds, .binOp op t x y yt, ty, pos, af, gd⟩ v := fun a w ha _ => by
  simp only [execOp, ha.ev hx, ha.ev hy, Sem.run_bind, hg, h, Result.andThen_ok, Sem.run_pure]
theorem q_eqB {t yt : TypeId} {x y : Operand} {p q : Bool} (ht : P.underlying t = some .bool) (hx : ev ρ x = some (.bool p)) (hy : ev ρ y = some (.bool q)) : Qv P n ρ Γ ⟨ds, .binOp .eql t x y yt, ty, pos, af, gd⟩ (.bool (p == q)) :=
  q_binR hx hy (fun w => by simp [eqGuard]) (fun w => run_eql_bool (w := w) t p q ht)
theorem q_neB {t yt : TypeId} {x y : Operand} {p q : Bool} (ht : P.underlying t = some .bool) (hx : ev ρ x = some (.bool p)) (hy : ev ρ y = some (.bool q)) : Qv P n ρ Γ ⟨ds, .binOp .neq t x y yt, ty, pos, af, gd⟩ (.bool (p != q)) :=
  q_binR hx hy (fun w => by simp [eqGuard]) (fun w => run_neq_bool (w := w) t p q ht)
/-! Pointers against nil. -/
theorem pointee_of {t e : TypeId} (ht : P.underlying t = some (.pointer e)) : P.underlying t = some (.pointer (P.pointee t)) := by rw [ht]; simp [Program.pointee, ht]
theorem q_eqN {t yt e : TypeId} {x : Operand} {p : Option Addr} (ht : P.underlying t = some (.pointer e)) (hx : ev ρ x = some (.pointer p)) {y : Operand} (hy : ev ρ y = some (.pointer none)) : Qv P n ρ Γ ⟨ds, .binOp .eql t x y yt, ty, pos, af, gd⟩ (.bool p.isNone) :=
  q_binR hx hy (fun w => by simp [eqGuard]) (fun w => run_eql_pointer_nil (w := w) t p (pointee_of ht))
theorem q_neN {t yt e : TypeId} {x : Operand} {p : Option Addr} (ht : P.underlying t = some (.pointer e)) (hx : ev ρ x = some (.pointer p)) {y : Operand} (hy : ev ρ y = some (.pointer none)) : Qv P n ρ Γ ⟨ds, .binOp .neq t x y yt, ty, pos, af, gd⟩ (.bool (!p.isNone)) :=
  q_binR hx hy (fun w => by simp [eqGuard]) (fun w => run_neq_pointer_nil (w := w) t p (pointee_of ht))
/-! Slices. -/
theorem q_eqSN {t yt e : TypeId} {x : Operand} {p : Option Addr} {l c l' c' : Nat} (ht : P.underlying t = some (.slice e)) (hx : ev ρ x = some (.slice p l c)) {y : Operand} (hy : ev ρ y = some (.slice none l' c')) : Qv P n ρ Γ ⟨ds, .binOp .eql t x y yt, ty, pos, af, gd⟩ (.bool p.isNone) :=
  q_binR hx hy (fun w => by simp [eqGuard]) (fun w => Lib.run_eql_slice_nil w _ _ p l c l' c' ht)
theorem q_neSN {t yt e : TypeId} {x : Operand} {p : Option Addr} {l c l' c' : Nat} (ht : P.underlying t = some (.slice e)) (hx : ev ρ x = some (.slice p l c)) {y : Operand} (hy : ev ρ y = some (.slice none l' c')) : Qv P n ρ Γ ⟨ds, .binOp .neq t x y yt, ty, pos, af, gd⟩ (.bool (!p.isNone)) :=
  q_binR hx hy (fun w => by simp [eqGuard]) (fun w => run_neq_slice_nil_any w _ _ p l c l' c' ht)
theorem q_len {x : Operand} {t e : TypeId} {p : Option Addr} {l c : Nat} (ht : P.underlying t = some (.slice e)) (hx : ev ρ x = some (.slice p l c)) : Qv P n ρ Γ ⟨ds, .call { callee := .builtin .len, args := #[x], argTypes := #[t] }, ty, pos, af, gd⟩ (.int .i64 l) := fun a w ha _ => by
  simp [execOp, ha.ev hx, resolve, invoke, builtin, Builtin.len_, run_underlying ht, goInt]
theorem q_index {t : TypeId} {x y : Operand} {e sz b o l c : Nat} {k : IntKind} {i : Int} (ht : elemT P t = some (e, sz)) (hx : ev ρ x = some (.slice (some ⟨b, o, none⟩) l c)) (hy : ev ρ y = some (.int k i)) (h : 0 ≤ i ∧ i < l) : Qv P n ρ Γ ⟨ds, .indexAddr t x y, ty, pos, af, gd⟩ (.pointer (some ⟨b, o + i.toNat * sz, none⟩)) := fun a w ha _ => by
  unfold elemT at ht
  split at ht
  · rename_i e' he
    cases hi : P.info? e' with
    | none => simp [hi] at ht
    | some inf =>
      simp only [hi, Option.map_some, Option.some.injEq, Prod.mk.injEq] at ht
      obtain ⟨rfl, rfl⟩ := ht
      simp [execOp, ha.ev hx, ha.ev hy, Instr.indexAt, asIntOf, run_underlying he, h.1, h.2, sizeOf, typeInfo, hi, Addr.add_lit]
  · cases ht
theorem q_indexA {t : TypeId} {x y : Operand} {m sz b o : Nat} {k : IntKind} {i : Int} (ht : arrT P t = some (m, sz)) (hx : ev ρ x = some (.pointer (some ⟨b, o, none⟩))) (hy : ev ρ y = some (.int k i)) (h : 0 ≤ i ∧ i < m) : Qv P n ρ Γ ⟨ds, .indexAddr t x y, ty, pos, af, gd⟩ (.pointer (some ⟨b, o + i.toNat * sz, none⟩)) := fun a w ha _ => by
  unfold arrT at ht
  split at ht
  · rename_i m' e' he
    cases hi : P.info? e' with
    | none => simp [hi] at ht
    | some inf =>
      simp only [hi, Option.map_some, Option.some.injEq, Prod.mk.injEq] at ht
      obtain ⟨rfl, rfl⟩ := ht
      simp [execOp, ha.ev hx, ha.ev hy, Instr.indexAt, asIntOf, run_underlying he, h.1, h.2, sizeOf, typeInfo, hi, Addr.add_lit, Instr.sureAddr]
  · cases ht
/-! What makes or writes memory. -/
theorem S.alloc {t : TypeId} {zs : List Value} (hz : zeroT P t = some zs) (hn : Nat.blt d n = true) (k : ∀ b, S n w0 ((d, .pointer (some ⟨b, 0, none⟩)) :: ρ) (blk b t zs.toArray :: Γ) K) : S n w0 ρ Γ (Ow P Q ⟨some d, .alloc t, ty, pos, af, gd⟩ K) := by
  intro a w ha hs hx
  unfold zeroT at hz
  cases hi : P.info? t with
  | none => simp [hi] at hz
  | some i =>
    cases hz' : i.zero with
    | none => simp [hi, hz'] at hz
    | some z =>
      simp only [hi, hz', Option.bind_some, Option.map_some, Option.some.injEq] at hz
      have hr : (execOp a.eval ⟨some d, .alloc t, ty, pos, af, gd⟩).run P w = .ok (.value (.pointer (some ⟨w.heap.size, 0, none⟩))) (w.alloc (.cells zs.toArray t)) := by
        have : zs.toArray = z.cells := by rw [← hz]
        simp [execOp, Instr.alloc, zeroValue, typeInfo, hi, hz', newVar, newRow, this]
      unfold Ow Oper.wp
      rw [hr, Oper.upon_value]
      exact k w.heap.size _ _ (ha.put hn _) (hs.alloc _ _) (hx.alloc _)
theorem S.box {t : TypeId} {x : Operand} {v : Value} {cs : List Value} (hx : ev ρ x = some v) (hc : v.cells.toList = cs) (hn : Nat.blt d n = true) (k : ∀ b, S n w0 ((d, .pointer (some ⟨b, 0, none⟩)) :: ρ) (blk b t cs.toArray :: Γ) K) : S n w0 ρ Γ (Ow P Q ⟨some d, .box t x, ty, pos, af, gd⟩ K) := by
  intro a w ha hs hxt
  have hr : (execOp a.eval ⟨some d, .box t x, ty, pos, af, gd⟩).run P w = .ok (.value (.pointer (some ⟨w.heap.size, 0, none⟩))) (w.alloc (.cells cs.toArray t)) := by
    have : cs.toArray = v.cells := by rw [← hc]
    simp [execOp, ha.ev hx, Instr.box, newVar, newRow, this]
  unfold Ow Oper.wp
  rw [hr, Oper.upon_value]
  exact k w.heap.size _ _ (ha.put hn _) (hs.alloc _ _) (hxt.alloc _)
theorem EnvOk.putNone {ρ : Env} {a : Act} (h : EnvOk n ρ a) (v : Value) : EnvOk n ρ (a.put none v) := h
theorem S.store {t b o : Nat} {x y : Operand} {e : TypeId} {cs : Array Value} {v : Value} {Δ : List Assn} {cs' : List Value} (ht : atomT P t = true) (hx : ev ρ x = some (.pointer (some ⟨b, o, none⟩))) (hy : ev ρ y = some v) (hv : v.oneCell' = true) [hb : HasB Γ b e cs Δ] (ho : Nat.blt o cs.size = true) (hc : cs.toList.set o v = cs')
    (k : S n w0 ρ (blk b e cs'.toArray :: Δ) K) : S n w0 ρ Γ (Ow P Q ⟨none, .store t x y, ty, pos, af, gd⟩ K) := by
  intro a w ha hs hxt
  have hB := hb.blk hs
  have ho' : o < cs.size := by have := ho; simp [Nat.blt] at this; omega
  have hcell : w.cell? ⟨b, o, none⟩ = some cs[o] := by rw [hB.cell]; simp [ho']
  have hcells : v.cells = #[v] := by cases v <;> first | rfl | simp [Value.oneCell'] at hv
  have hst : (Go.store (⟨b, o, none⟩ : Addr) v).run P w = .ok () (w.setCell ⟨b, o, none⟩ v) := by rw [run_store P w _ v _ hv, hcell]; simp [hB.frozen]
  have hr : (execOp a.eval ⟨none, .store t x y, ty, pos, af, gd⟩).run P w = .ok .skip (w.setCell ⟨b, o, none⟩ v) := by
    have h0 : (⟨b, o, none⟩ : Addr).add 0 = ⟨b, o, none⟩ := by simp [Addr.add]
    simp [execOp, ha.ev hx, ha.ev hy, Instr.storeAt, Instr.sureAddr, storeVar, (run_isAgg_atom ht w).2, hcells, storeCells]
    rw [h0, hst]
    rfl
  unfold Ow Oper.wp
  rw [hr, Oper.upon_skip]
  refine k _ _ (ha.putNone _) ?_ (hxt.setCell _ _)
  have := (hs.ent hb.ent).setCell o v
  rw [← hc]
  have e1 : (cs.toList.set o v).toArray = cs.setIfInBounds o v := by rw [← Array.toList_setIfInBounds]
  rw [e1]
  exact this
def allOne (l : List Value) : Bool := l.all (·.oneCell')
theorem Sat.setRow {w : World} {Γ : List Assn} {b : Nat} {e : TypeId} {cs : Array Value} (h : Sat w (blk b e cs :: Γ)) (cs' : Array Value) : Sat (w.setRow b cs') (blk b e cs' :: Γ) := by
  refine h.upd fun x l p => ⟨HL.one b (.cells cs' e), HL.one_le (setRow_heap w b cs _ e _ (l b _ p)), HL.one_self _ _, fun c hc _ => ?_⟩
  have hne : c ≠ b := fun e => by subst e; rw [p] at hc; cases hc
  exact ⟨HL.one_none hne, setRow_other w b c _ hne⟩
theorem S.storeS {t b o k : Nat} {x y : Operand} {e : TypeId} {cs : Array Value} {vs : Array Value} {Δ : List Assn} {cs' : List Value} (ht : aggT P t = some k) (hx : ev ρ x = some (.pointer (some ⟨b, o, none⟩))) (hy : ev ρ y = some (.agg vs)) (hk : vs.size = k) (h1 : allOne vs.toList = true) [hb : HasB Γ b e cs Δ] (ho : Nat.ble (o + vs.size) cs.size = true)
    (hc : cs.toList.take o ++ vs.toList ++ cs.toList.drop (o + vs.size) = cs') (kk : S n w0 ρ (blk b e cs'.toArray :: Δ) K) : S n w0 ρ Γ (Ow P Q ⟨none, .store t x y, ty, pos, af, gd⟩ K) := by
  intro a w ha hs hxt
  have hB := hb.blk hs
  have ho' : o + vs.size ≤ cs.size := Nat.le_of_ble_eq_true ho
  have hst := run_storeCells_at P b o e vs.toList 0 cs w hB (by simpa using ho') (fun v hv => List.all_eq_true.1 h1 v hv)
  have hr : (execOp a.eval ⟨none, .store t x y, ty, pos, af, gd⟩).run P w = .ok .skip (w.setRow b cs'.toArray) := by
    rw [← hc]
    simp only [Nat.add_zero, Array.length_toList] at hst
    simp [execOp, ha.ev hx, ha.ev hy, Instr.storeAt, Instr.sureAddr, storeVar, (run_isAgg_agg ht w).2, Value.cells, hk] at hst ⊢
    rw [hst]
    simp
  unfold Ow Oper.wp
  rw [hr, Oper.upon_skip]
  exact kk _ _ (ha.putNone _) ((hs.ent hb.ent).setRow _) (hxt.trans ⟨rfl, rfl, rfl, by simp [World.setRow], Nat.le_refl _⟩)
/-! Calls. -/
theorem run_enter {f : FuncId} {vs : List Value} {c : Call} {a : Act} {ds : Option Tmp} (he : enterT P f = true) (hc : a.eval (match c.callee with | .value x => x | _ => .const undef) = .func (.func f) #[] #[]) (hv : ∃ x, c.callee = .value x) (hargs : c.args.map a.eval = vs.toArray) (w : World) :
    (execOp a.eval ⟨ds, .call c, ty, pos, af, gd⟩).run P w = .ok (.enter f vs.toArray) w := by
  obtain ⟨x, hx⟩ := hv
  simp only [hx] at hc
  unfold enterT at he
  split at he
  · rename_i fn hfn
    simp only [Bool.and_eq_true, bne_iff_ne, ne_eq] at he
    obtain ⟨h1, h2⟩ := he
    have h2' : ¬ fn.body = none := by cases hb : fn.body <;> simp [hb] at h2 ⊢
    simp [execOp, resolve, hx, hc, Deferred.ofValue, invoke, hargs, callFunc, hfn, h1, h2']
  · cases he
theorem S.call {f : FuncId} {xs : List Operand} {ats : Array TypeId} {vs : List Value} {pre Δ : List Assn} {post : List Assn → Value → List Assn → Prop} (he : enterT P f = true) (hargs : EvL ρ xs vs)
    (hs : Spec P f vs pre post md) [hp : Picks pre Γ Δ] (hn : Nat.blt d n = true)
    (k : ∀ v Θ, post Δ v Θ → S n w0 ((d, v) :: ρ) Θ K) : S n w0 ρ Γ (Ow P Q ⟨some d, .call { callee := .value (.func f), args := xs.toArray, argTypes := ats }, ty, pos, af, gd⟩ K) := by
  intro a w ha hsat hx
  have hr := run_enter (ty := ty) (pos := pos) (af := af) (gd := gd) (c := { callee := .value (.func f), args := xs.toArray, argTypes := ats }) (a := a) (ds := some d) (vs := vs) he rfl ⟨_, rfl⟩ (by simp [hargs.map ha]) w
  unfold Ow Oper.wp
  rw [hr, Oper.upon_enter]
  refine (hs Δ w (hsat.ent hp.ent)).mono ?_
  rintro e w' ⟨v, Θ, rfl, hpost, hsat', hx'⟩
  exact k v Θ hpost _ _ (ha.put hn v) hsat' (hx.transM hx')
theorem S.call0 {f : FuncId} {xs : List Operand} {ats : Array TypeId} {vs : List Value} {pre Δ : List Assn} {post : List Assn → Value → List Assn → Prop} (he : enterT P f = true) (hargs : EvL ρ xs vs)
    (hs : Spec P f vs pre post md) [hp : Picks pre Γ Δ]
    (k : ∀ v Θ, post Δ v Θ → S n w0 ρ Θ K) : S n w0 ρ Γ (Ow P Q ⟨none, .call { callee := .value (.func f), args := xs.toArray, argTypes := ats }, ty, pos, af, gd⟩ K) := by
  intro a w ha hsat hx
  have hr := run_enter (ty := ty) (pos := pos) (af := af) (gd := gd) (c := { callee := .value (.func f), args := xs.toArray, argTypes := ats }) (a := a) (ds := none) (vs := vs) he rfl ⟨_, rfl⟩ (by simp [hargs.map ha]) w
  unfold Ow Oper.wp
  rw [hr, Oper.upon_enter]
  refine (hs Δ w (hsat.ent hp.ent)).mono ?_
  rintro e w' ⟨v, Θ, rfl, hpost, hsat', hx'⟩
  exact k v Θ hpost _ _ (ha.putNone _) hsat' (hx.transM hx')
end
end Go.Proofs.YtbhnbnecaejjiaaDoor
