/- The matrix in memory; what is asked of one place. -/
import Derived.MapKept
import Derived.Test.YtegjmmocnffpiaaDoorTie
import Derived.Test.YtegjmmocnffpiaaDoorCards
import Derived.SevenTiedAt
import Derived.Lib.LaidTab
import Derived.LaidMore
import Derived.Maps.RangeRun
import Derived.Laws.Externs
import Derived.RangeFuncIn
import Derived.RangeFuncRecord
import Derived.RangeFuncLeaves
import Derived.RangeFuncSeq
import Derived.OwnWalkIn
import Derived.Test.YtegjmmocnffpiaaDoorMJ1
/- Calls of function values; shifts. Of no program. -/
namespace Go.Proofs.YtegjmmocnffpiaaDoor
open Go.RowKit
section
variable {P : Program} {n : Nat} {md : Bool} {w0 : WM md} {ρ : Env} {Γ : List Assn} {Q : Exit → Act → World → Prop} {K : Act → World → Prop} {ty : TypeId} {pos : String} {af : Array Edge} {gd : Option (Nat × Bool)} {d : Nat} {ds : Option Tmp}
theorem run_enterC {f : FuncId} {vs fs cs : List Value} {c : Call} {x : Operand} {a : Act} {ds : Option Tmp} (he : enterT P f = true) (hx : c.callee = .value x) (hc : a.eval x = .func (.func f) fs.toArray cs.toArray) (hargs : c.args.map a.eval = vs.toArray) (w : World) :
    (execOp a.eval ⟨ds, .call c, ty, pos, af, gd⟩).run P w = .ok (.enter f (fs ++ vs ++ cs).toArray) w := by
  unfold enterT at he
  split at he
  · rename_i fn hfn
    simp only [Bool.and_eq_true, bne_iff_ne, ne_eq] at he
    obtain ⟨h1, h2⟩ := he
    have h2' : ¬ fn.body = none := by cases hb : fn.body <;> simp [hb] at h2 ⊢
    simp [execOp, resolve, hx, hc, Deferred.ofValue, invoke, hargs, callFunc, hfn, h1, h2']
  · cases he
/-- A call of a function value. -/
theorem S.callC {f : FuncId} {x : Operand} {xs : List Operand} {ats : Array TypeId} {vs fs cs : List Value} {pre Δ : List Assn} {post : List Assn → Value → List Assn → Prop} (he : enterT P f = true) (hx : ev ρ x = some (.func (.func f) fs.toArray cs.toArray)) (hargs : EvL ρ xs vs)
    (hs : Spec P f (fs ++ vs ++ cs) pre post md) [hp : Picks pre Γ Δ] (hn : Nat.blt d n = true)
    (k : ∀ v Θ, post Δ v Θ → S n w0 ((d, v) :: ρ) Θ K) : S n w0 ρ Γ (Ow P Q ⟨some d, .call { callee := .value x, args := xs.toArray, argTypes := ats }, ty, pos, af, gd⟩ K) := by
  intro a w ha hsat hxt
  have hr := run_enterC (ty := ty) (pos := pos) (af := af) (gd := gd) (c := { callee := .value x, args := xs.toArray, argTypes := ats }) (a := a) (ds := some d) (vs := vs) he rfl (ha.ev hx) (by simp [hargs.map ha]) w
  unfold Ow Oper.wp
  rw [hr, Oper.upon_enter]
  refine (hs Δ w (hsat.ent hp.ent)).mono ?_
  rintro e w' ⟨v, Θ, rfl, hpost, hsat', hx'⟩
  exact k v Θ hpost _ _ (ha.put hn v) hsat' (hxt.transM hx')
theorem S.callC0 {f : FuncId} {x : Operand} {xs : List Operand} {ats : Array TypeId} {vs fs cs : List Value} {pre Δ : List Assn} {post : List Assn → Value → List Assn → Prop} (he : enterT P f = true) (hx : ev ρ x = some (.func (.func f) fs.toArray cs.toArray)) (hargs : EvL ρ xs vs)
    (hs : Spec P f (fs ++ vs ++ cs) pre post md) [hp : Picks pre Γ Δ]
    (k : ∀ v Θ, post Δ v Θ → S n w0 ρ Θ K) : S n w0 ρ Γ (Ow P Q ⟨none, .call { callee := .value x, args := xs.toArray, argTypes := ats }, ty, pos, af, gd⟩ K) := by
  intro a w ha hsat hxt
  have hr := run_enterC (ty := ty) (pos := pos) (af := af) (gd := gd) (c := { callee := .value x, args := xs.toArray, argTypes := ats }) (a := a) (ds := none) (vs := vs) he rfl (ha.ev hx) (by simp [hargs.map ha]) w
  unfold Ow Oper.wp
  rw [hr, Oper.upon_enter]
  refine (hs Δ w (hsat.ent hp.ent)).mono ?_
  rintro e w' ⟨v, Θ, rfl, hpost, hsat', hx'⟩
  exact k v Θ hpost _ _ (ha.putNone _) hsat' (hxt.transM hx')
theorem S.callCP {f : FuncId} {x : Operand} {xs : List Operand} {ats : Array TypeId} {vs fs cs : List Value} {v : Value} (he : enterT P f = true) (hx : ev ρ x = some (.func (.func f) fs.toArray cs.toArray)) (hargs : EvL ρ xs vs) (h : ∀ w, Sat w Γ → PureS P f (fs ++ vs ++ cs) w v) (hn : Nat.blt d n = true)
    (k : S n w0 ((d, v) :: ρ) Γ K) : S n w0 ρ Γ (Ow P Q ⟨some d, .call { callee := .value x, args := xs.toArray, argTypes := ats }, ty, pos, af, gd⟩ K) := by
  intro a w ha hsat hxt
  have hr := run_enterC (ty := ty) (pos := pos) (af := af) (gd := gd) (c := { callee := .value x, args := xs.toArray, argTypes := ats }) (a := a) (ds := some d) (vs := vs) he rfl (ha.ev hx) (by simp [hargs.map ha]) w
  unfold Ow Oper.wp
  rw [hr, Oper.upon_enter]
  refine (pure_run (h w hsat)).mono ?_
  rintro e w' ⟨rfl, hb, hdr⟩
  exact k _ _ (ha.put hn v) (hsat.belowP hb) (hxt.trans ⟨hb.os, hb.tape, hb.output, hb.size, hdr⟩)
theorem q_shr {t yt : TypeId} {x y : Operand} {k ky : IntKind} {p q : Int} (m : Nat) (hx : ev ρ x = some (.int k p)) (hy : ev ρ y = some (.int ky q)) (hq : q = ((m : Nat) : Int)) (hm : Nat.ble m k.bits = true) : Qv P n ρ Γ ⟨ds, .binOp .shr t x y yt, ty, pos, af, gd⟩ (.int k (p / 2 ^ m)) := fun a w ha _ => by
  subst hq
  have h0 : ¬ ((m : Int) < 0) := by omega
  have h1 : min m k.bits = m := Nat.min_eq_left (Nat.le_of_ble_eq_true hm)
  have e : Int.fdiv p (2 ^ m) = p / 2 ^ m := Int.fdiv_eq_ediv_of_nonneg _ (by have : (0 : Int) < 2 ^ m := Int.pow_pos (by omega); omega)
  simp [execOp, ha.ev hx, ha.ev hy, eqGuard, binOp, Op.shift, h0, h1, e]
end
end Go.Proofs.YtegjmmocnffpiaaDoor
/- Slice expressions by value alone; `append(s[:i], s[j:]...)` within one owned block; clear of the slack. Of no program. -/
namespace Go.Proofs.YtegjmmocnffpiaaDoor
open Go.RowKit
theorem Sat.ownUpd {w w' : World} {s s' : SV} {e : TypeId} {sz : Nat} {xs xs' : List Value} {Δ : List Assn} {b : Nat} (hs : Sat w (own s e sz xs :: Δ)) (hO : Own w' e sz s'.v s'.n xs' (some b)) (hb : s.a.map (·.block) = some b) (keep : Keeps (fun k => k = b) w w') : Sat w' (own s' e sz xs' :: Δ) := by
  obtain ⟨hg', ow⟩ := own.ofOwn (s := s') hO
  refine hs.upd fun q l p => ?_
  have hq : ∀ k, q k = none → w.heap[k]? ≠ none → k ≠ b := by
    intro k hk _ e1
    rcases p.2 with ⟨h, _⟩ | ⟨b', off, cur, h, h2, _⟩
    · rw [h] at hb; cases hb
    · rw [h] at hb
      simp only [Option.map_some, Option.some.injEq] at hb
      subst hb
      rw [e1, h2] at hk; cases hk
  have hlt : ∀ b, w.heap[b]? ≠ none → b < w.heap.size := fun b hb => by
    rcases Nat.lt_or_ge b w.heap.size with h | h
    · exact h
    · simp [Array.getElem?_eq_none h] at hb
  rcases ow.2 with ⟨h1, h2, h3⟩ | ⟨b', off, cur, h1, h2, r⟩
  · rw [h1] at hg'; cases hg'
  · refine ⟨HL.one b' (.cells cur e), HL.one_le h2, ⟨ow.1, .inr ⟨b', off, cur, h1, HL.one_self _ _, r⟩⟩, fun c' hc hw => ⟨HL.one_none fun e1 => ?_, keep.block c' (hlt c' hw) (hq c' hc hw)⟩⟩
    subst e1
    rw [h1] at hg'
    simp only [Option.map_some, Option.some.injEq] at hg'
    exact hq c' hc hw hg'.symm
section
variable {P : Program} {n : Nat} {md : Bool} {w0 : WM md} {ρ : Env} {Γ : List Assn} {Q : Exit → Act → World → Prop} {K : Act → World → Prop} {ty : TypeId} {pos : String} {af : Array Edge} {gd : Option (Nat × Bool)} {d : Nat} {ds : Option Tmp}
theorem q_shrTo {t yt : TypeId} {x y : Operand} {k ky : IntKind} {p q : Int} (m : Nat) (r : Int) (hx : ev ρ x = some (.int k p)) (hy : ev ρ y = some (.int ky q)) (hq : q = ((m : Nat) : Int)) (hm : Nat.ble m k.bits = true) (hr : p / 2 ^ m = r) : Qv P n ρ Γ ⟨ds, .binOp .shr t x y yt, ty, pos, af, gd⟩ (.int k r) := by
  subst hr
  exact q_shr m hx hy hq hm
/-- x[m:], the value. -/
theorem q_sliceFrom {t e sz : Nat} {x y : Operand} {p : Option Addr} {l c : Nat} {kk : IntKind} {z : Int} (m : Nat) (ht : elemT P t = some (e, sz)) (hx : ev ρ x = some (.slice p l c)) (hy : ev ρ y = some (.int kk z)) (hz : z = ((m : Nat) : Int)) (hm : m ≤ l) : Qv P n ρ Γ ⟨ds, .slice t x (some y) none none, ty, pos, af, gd⟩ (.slice (if c = m then p else p.map (·.add (m * sz))) (l - m) (c - m)) := by
  intro a w ha _
  subst hz
  obtain ⟨hu, i, hi, rfl⟩ := elemT_info ht
  simp [execOp, ha.ev hx, ha.ev hy, Instr.sliceAt, Instr.slice, run_underlying hu, Instr.sliceBounds, Instr.sliceBound, asIntOf, hm, sizeOf, typeInfo, hi]
/-- x[m:h], the value. -/
theorem q_sliceLH {t e sz : Nat} {x y y' : Operand} {p : Option Addr} {l c : Nat} {kk kk' : IntKind} {z z' : Int} (m h : Nat) (ht : elemT P t = some (e, sz)) (hx : ev ρ x = some (.slice p l c)) (hy : ev ρ y = some (.int kk z)) (hy' : ev ρ y' = some (.int kk' z')) (hz : z = ((m : Nat) : Int)) (hz' : z' = ((h : Nat) : Int)) (hm : m ≤ h ∧ h ≤ c) : Qv P n ρ Γ ⟨ds, .slice t x (some y) (some y') none, ty, pos, af, gd⟩ (.slice (if c = m then p else p.map (·.add (m * sz))) (h - m) (c - m)) := by
  intro a w ha _
  subst hz hz'
  obtain ⟨hu, i, hi, rfl⟩ := elemT_info ht
  simp [execOp, ha.ev hx, ha.ev hy, ha.ev hy', Instr.sliceAt, Instr.slice, run_underlying hu, Instr.sliceBounds, Instr.sliceBound, asIntOf, hm.1, hm.2, sizeOf, typeInfo, hi]
/-- x[m:h:g], the value. -/
theorem q_slice3 {t e sz : Nat} {x y y' y2 : Operand} {p : Option Addr} {l c : Nat} {kk kk' k2 : IntKind} {z z' z2 : Int} (m h g : Nat) (ht : elemT P t = some (e, sz)) (hx : ev ρ x = some (.slice p l c)) (hy : ev ρ y = some (.int kk z)) (hy' : ev ρ y' = some (.int kk' z')) (hy2 : ev ρ y2 = some (.int k2 z2)) (hz : z = ((m : Nat) : Int)) (hz' : z' = ((h : Nat) : Int)) (hz2 : z2 = ((g : Nat) : Int)) (hm : m ≤ h ∧ h ≤ g ∧ g ≤ c) : Qv P n ρ Γ ⟨ds, .slice t x (some y) (some y') (some y2), ty, pos, af, gd⟩ (.slice (if g = m then p else p.map (·.add (m * sz))) (h - m) (g - m)) := by
  intro a w ha _
  subst hz hz' hz2
  obtain ⟨hu, i, hi, rfl⟩ := elemT_info ht
  simp [execOp, ha.ev hx, ha.ev hy, ha.ev hy', ha.ev hy2, Instr.sliceAt, Instr.slice, run_underlying hu, Instr.sliceBounds, Instr.sliceBound, asIntOf, hm.1, hm.2.1, hm.2.2, sizeOf, typeInfo, hi]
/-- A load of a record from memory that was there. -/
theorem q_loadWS {t k b o : Nat} {x : Operand} {W : World} (vs : List Value) [h : HasOld Γ W] (ht : aggT P t = some k) (hx : ev ρ x = some (.pointer (some ⟨b, o, none⟩))) (hk : vs.length = k) (hv : ∀ i u, vs[i]? = some u → W.cell? ⟨b, o + i, none⟩ = some u) : Qv P n ρ Γ ⟨ds, .load t x, ty, pos, af, gd⟩ (.agg vs.toArray) := by
  intro a w ha hs
  have hc : ∀ j u, vs[j]? = some u → w.cell? ((⟨b, o, none⟩ : Addr).add j) = some u := fun j u hu => by rw [Addr.add_lit]; exact h.cell hs (hv j u hu)
  have hl0 := run_loadCells_list (P := P) (w := w) ⟨b, o, none⟩ vs hc
  rw [hk] at hl0
  have hl : (loadVar t ⟨b, o, none⟩).run P w = .ok (.agg vs.toArray) w := by simp [loadVar, (run_isAgg_agg ht w).1, (run_isAgg_agg ht w).2, hl0]
  simp only [execOp, ha.ev hx, Instr.loadAt, Instr.sureAddr, Sem.run_bind, Sem.run_pure, Result.andThen_ok, hl]
abbrev xorI (k : IntKind) (p q : Int) : Int := k.wrap (BitVec.ofInt k.bits p ^^^ BitVec.ofInt k.bits q).toNat
theorem q_xor {t yt : TypeId} {x y : Operand} {k : IntKind} {p q : Int} (hx : ev ρ x = some (.int k p)) (hy : ev ρ y = some (.int k q)) : Qv P n ρ Γ ⟨ds, .binOp .xor t x y yt, ty, pos, af, gd⟩ (.int k (xorI k p q)) := fun a w ha _ => by
  simp [execOp, ha.ev hx, ha.ev hy, eqGuard, binOp, Op.intBits, xorI]
/-- append(s[:i], s[j:]...), s owned. -/
theorem S.appendDel {t e sz : Nat} {x y : Operand} {s : SV} {xs : List Value} {p2 : Option Addr} {c2 m2 : Nat} {Δ : List Assn} (i j : Nat) {b off : Nat} (ht : elemT P t = some (e, sz)) (hx : ev ρ x = some (.slice s.a i s.c)) [h : HasOw Γ s e sz xs Δ] (hp : s.a = some ⟨b, off, none⟩) (hy : ev ρ y = some (.slice p2 m2 c2)) (hm2 : m2 = s.n - j)
    (hp2 : ∃ a', p2 = some a' ∧ (j < s.n → a' = ⟨b, off + j * sz, none⟩)) (hij : i ≤ j) (hj : j ≤ s.n) (h1 : ∀ u ∈ xs, u.oneCell' = true) (hn : Nat.blt d n = true)
    (k : S n w0 ((d, .slice s.a (i + (s.n - j)) s.c) :: ρ) (own ⟨s.a, i + (s.n - j), s.c⟩ e sz (xs.take (i * sz) ++ xs.drop (j * sz)) :: Δ) K) :
    S n w0 ρ Γ (Ow P Q ⟨some d, .call { callee := .builtin .append, args := #[x, y], argTypes := #[t, t] }, ty, pos, af, gd⟩ K) := by
  intro a w ha hs hxt
  subst hm2
  obtain ⟨hu, ii, hi, rfl⟩ := elemT_info ht
  have hO := h.own hs
  obtain ⟨sa, sn, sc⟩ := s
  simp only at hp hp2 hj hx hO k hy
  subst hp
  obtain ⟨a', rfl, ha'⟩ := hp2
  have hlen := hO.1
  rcases hO.2 with ⟨h0, _⟩ | ⟨b', off', c', cur, q1, q2, hB, q4, q5, q6, q7⟩
  · cases h0
  simp only [SV.v, Value.slice.injEq, Option.some.injEq, Addr.mk.injEq, and_true, true_and] at q1
  obtain ⟨⟨rfl, rfl⟩, rfl⟩ := q1
  have hjm : (sn - j) * ii.size + j * ii.size = sn * ii.size := by rw [← Nat.add_mul]; congr 1; omega
  have him : i * ii.size ≤ j * ii.size := Nat.mul_le_mul_right _ hij
  have hcm : sn * ii.size ≤ sc * ii.size := Nat.mul_le_mul_right _ q4
  have hl : (xs.drop (j * ii.size)).length = (sn - j) * ii.size := by rw [List.length_drop, hlen]; omega
  have hcell : ∀ k u, (xs.drop (j * ii.size))[k]? = some u → w.cell? (a'.add k) = some u := by
    intro k u hk
    have hk' := (List.getElem?_eq_some_iff.1 hk).1
    have hjn : j < sn := by
      rcases Nat.lt_or_ge j sn with h | h
      · exact h
      · have : sn - j = 0 := by omega
        rw [hl, this] at hk'; simp at hk'
    rw [ha' hjn, Addr.add_lit]
    rw [List.getElem?_drop] at hk
    have := Own.cases hO
    rcases this with ⟨h0, _⟩ | ⟨b2, o2, c3, r1, _, _, _, _, r2, _⟩
    · cases h0
    · simp only [SV.v, Value.slice.injEq, Option.some.injEq, Addr.mk.injEq, and_true, true_and] at r1
      obtain ⟨⟨rfl, rfl⟩, rfl⟩ := r1
      rw [Nat.add_assoc, r2 _ (by rw [← hlen]; exact (List.getElem?_eq_some_iff.1 hk).1)]
      exact hk
  have hfit : off + i * ii.size + (xs.drop (j * ii.size)).length ≤ cur.size := by rw [hl]; omega
  have hr0 := run_append_room_off (P := P) (w := w) t ty e ii hu hi b off i sc cur hB a' (sn - j) c2 (xs.drop (j * ii.size)) hl hcell (fun u hu => h1 u (List.mem_of_mem_drop hu)) (by omega) hfit
  have hr : (execOp a.eval ⟨some d, .call { callee := .builtin .append, args := #[x, y], argTypes := #[t, t] }, ty, pos, af, gd⟩).run P w = .ok (.value (.slice (some ⟨b, off, none⟩) (i + (sn - j)) sc)) (w.setRow b (cur.toList.take (off + i * ii.size) ++ xs.drop (j * ii.size) ++ cur.toList.drop (off + i * ii.size + (xs.drop (j * ii.size)).length)).toArray) := by
    simp [execOp, ha.ev hx, ha.ev hy, resolve, invoke, builtin, hr0]
  unfold Ow Oper.wp
  rw [hr, Oper.upon_value]
  refine k _ _ (ha.put hn _) ?_ (hxt.trans ⟨rfl, rfl, rfl, by simp [World.setRow], Nat.le_refl _⟩)
  refine (hs.ent h.ent).ownUpd (b := b) ⟨?_, .inr ⟨b, off, sc, _, rfl, rfl, setRow_heap w b cur _ e _ hB, by simp only; omega, q5, ?_, ?_⟩⟩ rfl ⟨rfl, rfl, rfl, by simp [World.setRow], fun k _ hk => setRow_other w b k _ hk, Nat.le_refl _⟩
  · simp only [List.length_append, List.length_take, hl, hlen]
    rw [Nat.min_eq_left (by omega), ← Nat.add_mul]
  · simp only [List.size_toArray, List.length_append, List.length_take, List.length_drop, Array.length_toList]
    omega
  · have hlt : (cur.toList.take (off + i * ii.size)).length = off + i * ii.size := by simp; omega
    have e1 : ((cur.toList.take (off + i * ii.size) ++ xs.drop (j * ii.size) ++ cur.toList.drop (off + i * ii.size + (xs.drop (j * ii.size)).length)).drop off).take ((i + (sn - j)) * ii.size) = (cur.toList.take (off + i * ii.size)).drop off ++ xs.drop (j * ii.size) := by
      rw [List.append_assoc, List.drop_append_of_le_length (by omega), Nat.add_mul, ← hl, ← List.append_assoc]
      have hll : ((cur.toList.take (off + i * ii.size)).drop off ++ xs.drop (j * ii.size)).length = i * ii.size + (xs.drop (j * ii.size)).length := by rw [List.length_append, List.length_drop, hlt]; omega
      rw [← hll]
      exact List.take_left
    simp only
    rw [e1]
    congr 1
    rw [← q7, List.take_take, Nat.min_eq_left (by omega), List.drop_take]
    congr 1
    omega
theorem run_clear_one {w : World} {t e : TypeId} {ii : TypeInfo} {z : Value} (hu : P.underlying t = some (.slice e)) (hi : P.info? e = some ii) (hz : ii.zero = some z) (g off cap : Nat) (cur : Array Value) (hg : Blk w g e cur) (hfit : off + z.cells.toList.length ≤ cur.size) (h1 : ∀ u ∈ z.cells.toList, u.oneCell' = true) :
    (Builtin.clear_ #[t] ty #[.slice (some ⟨g, off, none⟩) 1 cap]).run P w = .ok (.tuple #[]) (w.setRow g (cur.toList.take off ++ z.cells.toList ++ cur.toList.drop (off + z.cells.toList.length)).toArray) := by
  have hst := run_storeCells_at P g off e z.cells.toList 0 cur w hg (by simpa using hfit) h1
  have hzc : (Builtin.zeroCells z.cells 1).toList = z.cells.toList := by
    congr 1
    apply Array.ext
    · simp [Builtin.zeroCells]
    · intro i h1 h2
      simp [Builtin.zeroCells, Nat.mod_eq_of_lt h2]
      exact getElem!_pos z.cells i h2
  simp only [Nat.add_zero] at hst
  simp [Builtin.clear_, run_underlying hu, zeroValue, typeInfo, hi, hz, hzc, hst]
/-- clear(s[len:len+1]), the slack of an owned slice. -/
theorem S.clearOne {t e sz by_ : Nat} {zs : List Value} {x : Operand} (s : SV) {xs : List Value} {p : Option Addr} {q cc : Nat} {Δ : List Assn} {b off : Nat} (hu : P.underlying t = some (.slice e)) (hi : infoT P e = some (zs, sz, by_)) (hzl : Nat.beq zs.length sz = true) (hz1 : allOne zs = true) (hx : ev ρ x = some (.slice p q cc)) [h : HasOw Γ s e sz xs Δ] (hp : s.a = some ⟨b, off, none⟩)
    (hq : q = 1) (hpp : p = some ⟨b, off + s.n * sz, none⟩) (hc : s.n + 1 ≤ s.c) (k : S n w0 ρ (own s e sz xs :: Δ) K) :
    S n w0 ρ Γ (Ow P Q ⟨none, .call { callee := .builtin .clear, args := #[x], argTypes := #[t] }, ty, pos, af, gd⟩ K) := by
  intro a w ha hs hxt
  subst hq hpp
  unfold infoT at hi
  split at hi
  case h_2 => cases hi
  rename_i i hi'
  split at hi
  case h_2 => cases hi
  rename_i z hz
  simp only [Option.some.injEq, Prod.mk.injEq] at hi
  obtain ⟨rfl, rfl, rfl⟩ := hi
  have hzs := Nat.eq_of_beq_eq_true hzl
  have hO := h.own hs
  obtain ⟨sa, sn, sc⟩ := s
  simp only at hp hc hx hO
  subst hp
  have hlen := hO.1
  rcases hO.2 with ⟨h0, _⟩ | ⟨b', off', c', cur, q1, q2, hB, q4, q5, q6, q7⟩
  · cases h0
  simp only [SV.v, Value.slice.injEq, Option.some.injEq, Addr.mk.injEq, and_true, true_and] at q1
  obtain ⟨⟨rfl, rfl⟩, rfl⟩ := q1
  have hcm : (sn + 1) * i.size ≤ sc * i.size := Nat.mul_le_mul_right _ hc
  rw [Nat.succ_mul] at hcm
  have hfit : off + sn * i.size + z.cells.toList.length ≤ cur.size := by rw [hzs]; omega
  have hr0 := run_clear_one (P := P) (ty := ty) hu hi' hz b (off + sn * i.size) cc cur hB hfit (fun v hv => List.all_eq_true.1 hz1 v hv)
  have hr : (execOp a.eval ⟨none, .call { callee := .builtin .clear, args := #[x], argTypes := #[t] }, ty, pos, af, gd⟩).run P w = .ok (.value (.tuple #[])) (w.setRow b (cur.toList.take (off + sn * i.size) ++ z.cells.toList ++ cur.toList.drop (off + sn * i.size + z.cells.toList.length)).toArray) := by
    simp [execOp, ha.ev hx, resolve, invoke, builtin, hr0]
  unfold Ow Oper.wp
  rw [hr, Oper.upon_value]
  refine k _ _ (ha.putNone _) ?_ (hxt.trans ⟨rfl, rfl, rfl, by simp [World.setRow], Nat.le_refl _⟩)
  refine (hs.ent h.ent).ownUpd (b := b) ⟨hlen, .inr ⟨b, off, sc, _, rfl, rfl, setRow_heap w b cur _ e _ hB, q4, q5, ?_, ?_⟩⟩ rfl ⟨rfl, rfl, rfl, by simp [World.setRow], fun k _ hk => setRow_other w b k _ hk, Nat.le_refl _⟩
  · simp only [List.size_toArray, List.length_append, List.length_take, List.length_drop, Array.length_toList]
    omega
  · have hlt : (cur.toList.take (off + sn * i.size)).length = off + sn * i.size := by simp; omega
    simp only
    rw [List.append_assoc, List.drop_append_of_le_length (by omega), ← q7, List.drop_take]
    have e2 : off + sn * i.size - off = sn * i.size := by omega
    rw [e2, List.take_left' (by rw [List.length_take, List.length_drop, Array.length_toList]; omega)]
end
end Go.Proofs.YtegjmmocnffpiaaDoor
/- Maps with keys that are whole numbers; calls through an interface whose type is known. Of no program. -/
namespace Go.Proofs.YtegjmmocnffpiaaDoor
open Go.RowKit
open Go.MapKept (run_checkKey run_findKey run_keyThatStays heap_set)
theorem map_eraseIdx' {α β : Type} (f : α → β) (l : List α) (k : Nat) : (l.eraseIdx k).map f = (l.map f).eraseIdx k := by
  rw [List.eraseIdx_eq_take_drop_succ, List.eraseIdx_eq_take_drop_succ, List.map_append, List.map_take, List.map_drop]
/-- Where a key stands, and what it has. -/
def alFind {α : Type} (z : Int) : List (Int × α) → Nat → Option (Nat × α)
  | [], _ => none
  | x :: l, i => if z = x.1 then some (i, x.2) else alFind z l (i + 1)
def alGet {α : Type} (z : Int) : List (Int × α) → Option α
  | [] => none
  | x :: l => if z = x.1 then some x.2 else alGet z l
def alPut {α : Type} (z : Int) (v : α) : List (Int × α) → List (Int × α)
  | [] => [(z, v)]
  | x :: l => if z = x.1 then (z, v) :: l else x :: alPut z v l
def alDel {α : Type} (z : Int) : List (Int × α) → List (Int × α)
  | [] => []
  | x :: l => if z = x.1 then l else x :: alDel z l
section
variable {α : Type}
theorem alFind_get (z : Int) : ∀ (l : List (Int × α)) (i : Nat), (alFind z l i).map (·.2) = alGet z l
  | [], _ => rfl
  | x :: l, i => by
    unfold alFind alGet
    split
    · rfl
    · exact alFind_get z l (i + 1)
theorem alFind_some {z : Int} : ∀ {l : List (Int × α)} {i j : Nat} {v : α}, alFind z l i = some (j, v) → ∃ k, j = i + k ∧ l[k]? = some (z, v) ∧ (∀ w, alPut z w l = l.set k (z, w)) ∧ alDel z l = l.eraseIdx k
  | [], _, _, _, h => by cases h
  | x :: l, i, j, v, h => by
    unfold alFind at h
    split at h
    · rename_i e
      cases h
      exact ⟨0, rfl, by simp [e], fun w => by simp [alPut, e], by simp [alDel, e]⟩
    · rename_i e
      obtain ⟨k, h1, h2, h3, h4⟩ := alFind_some h
      exact ⟨k + 1, by omega, by simpa using h2, fun w => by simp [alPut, e, h3], by simp [alDel, e, h4]⟩
theorem alFind_none {z : Int} : ∀ {l : List (Int × α)} {i : Nat}, alFind z l i = none → (∀ w, alPut z w l = l ++ [(z, w)]) ∧ alDel z l = l ∧ z ∉ l.map (·.1)
  | [], _, _ => ⟨fun _ => rfl, rfl, by simp⟩
  | x :: l, i, h => by
    unfold alFind at h
    split at h
    · cases h
    · rename_i e
      obtain ⟨h1, h2, h3⟩ := alFind_none h
      exact ⟨fun w => by simp [alPut, e, h1], by simp [alDel, e, h2], by simp only [List.map_cons, List.mem_cons, not_or]; exact ⟨e, h3⟩⟩
theorem alGet_put (z y : Int) (v : α) : ∀ l : List (Int × α), alGet y (alPut z v l) = if y = z then some v else alGet y l
  | [] => by simp [alPut, alGet]
  | x :: l => by
    unfold alPut
    split
    · rename_i e
      subst e
      simp only [alGet]
      split <;> rfl
    · rename_i e
      simp only [alGet, alGet_put z y v l]
      by_cases h : y = x.1
      · rw [if_pos h, if_neg (fun (e2 : y = z) => e (e2 ▸ h)), if_pos h]
      · rw [if_neg h, if_neg h]
theorem alGet_notin {z : Int} : ∀ {l : List (Int × α)}, z ∉ l.map (·.1) → alGet z l = none
  | [], _ => rfl
  | x :: l, h => by
    simp only [List.map_cons, List.mem_cons, not_or] at h
    unfold alGet
    rw [if_neg h.1]
    exact alGet_notin h.2
theorem alGet_del {z : Int} (y : Int) : ∀ {l : List (Int × α)}, (l.map (·.1)).Nodup → alGet y (alDel z l) = if y = z then none else alGet y l
  | [], _ => by simp [alDel, alGet]
  | x :: l, h => by
    rw [List.map_cons, List.nodup_cons] at h
    unfold alDel
    split
    · rename_i e
      simp only [alGet]
      by_cases h2 : y = z
      · rw [if_pos h2, h2, e]; exact alGet_notin h.1
      · rw [if_neg h2, if_neg (fun e2 => h2 (e2.trans e.symm))]
    · rename_i e
      simp only [alGet, alGet_del y h.2]
      by_cases h2 : y = x.1
      · rw [if_pos h2, if_neg (fun (e2 : y = z) => e (e2 ▸ h2)), if_pos h2]
      · rw [if_neg h2, if_neg h2]
end
/-- A map's entries are l. -/
structure MapRep (kk : IntKind) (l : List (Int × Value)) (es : List MapEntry) (clock : Nat) : Prop where
  ent : es.map (fun e => (e.key, e.val)) = l.map (fun x => (Value.int kk x.1, x.2))
  nd : (l.map (·.1)).Nodup
  born : es.Pairwise (fun a b => a.born < b.born)
  lt : ∀ e ∈ es, e.born < clock
def mapL (b : Nat) (kk : IntKind) (l : List (Int × Value)) : Assn := fun h => ∃ es clock, h b = some (.map es clock) ∧ MapRep kk l es.toList clock
/-- .. and the entry of z was born at s. -/
def mapB (b : Nat) (kk : IntKind) (l : List (Int × Value)) (z : Int) (s : Nat) : Assn := fun h => ∃ es clock, h b = some (.map es clock) ∧ MapRep kk l es.toList clock ∧ ∃ (i : Nat) (e : MapEntry), es.toList[i]? = some e ∧ e.key = .int kk z ∧ e.born = s
theorem MapRep.find {kk q : IntKind} (z : Int) : ∀ {es : List MapEntry} {l : List (Int × Value)}, es.map (fun e => (e.key, e.val)) = l.map (fun x => (Value.int kk x.1, x.2)) → ∀ i, Instr.findNow (.int q) (.int kk z) es i = some (alFind z l i)
  | [], [], _, _ => rfl
  | [], _ :: _, h, _ => by cases h
  | _ :: _, [], h, _ => by cases h
  | e :: es, x :: l, h, i => by
    simp only [List.map_cons, List.cons.injEq, Prod.mk.injEq] at h
    obtain ⟨⟨h1, h2⟩, h3⟩ := h
    unfold Instr.findNow alFind
    simp only [h1, Instr.sameNow, if_true]
    by_cases e2 : z = x.1
    · simp [e2, h2]
    · have : (z == x.1) = false := by simpa using e2
      simp only [this, if_neg e2]
      exact MapRep.find z h3 (i + 1)
theorem MapRep.at {kk : IntKind} {l : List (Int × Value)} {es : List MapEntry} {clock : Nat} (h : MapRep kk l es clock) {k : Nat} {z : Int} {v : Value} (hl : l[k]? = some (z, v)) : ∃ e, es[k]? = some e ∧ e.key = .int kk z ∧ e.val = v := by
  have e1 := congrArg (fun l => l[k]?) h.ent
  simp only [List.getElem?_map, hl, Option.map_some] at e1
  cases he : es[k]? with
  | none => rw [he] at e1; cases e1
  | some e =>
    rw [he] at e1
    simp only [Option.map_some, Option.some.injEq, Prod.mk.injEq] at e1
    exact ⟨e, rfl, e1⟩
theorem MapRep.set {kk : IntKind} {l : List (Int × Value)} {es : List MapEntry} {clock : Nat} (h : MapRep kk l es clock) {k : Nat} {z : Int} {v : Value} (hl : l[k]? = some (z, v)) (w : Value) (f : MapEntry → MapEntry) (hf : ∀ e, e.key = .int kk z → (f e).key = .int kk z ∧ (f e).val = w ∧ (f e).born = e.born) :
    MapRep kk (l.set k (z, w)) (es.modify k f) clock := by
  obtain ⟨e, he, hk, _⟩ := h.at hl
  obtain ⟨f1, f2, f3⟩ := hf e hk
  have hb : (es.modify k f).map (·.born) = es.map (·.born) := by
    refine List.ext_getElem? fun j => ?_
    simp only [List.getElem?_map, List.getElem?_modify]
    by_cases hj : k = j
    · subst hj
      simp [he, f3]
    · simp [hj]
  have hb2 : ∀ (a b : List MapEntry), a.map (·.born) = b.map (·.born) → b.Pairwise (fun a b => a.born < b.born) → a.Pairwise (fun a b => a.born < b.born) := fun a b e h => by
    rw [← List.pairwise_map (f := fun e : MapEntry => e.born) (R := (· < ·))] at h ⊢
    rwa [e]
  refine ⟨?_, ?_, hb2 _ _ hb h.born, fun x hx => ?_⟩
  · refine List.ext_getElem? fun j => ?_
    have e1 := congrArg (fun l => l[j]?) h.ent
    simp only [List.getElem?_map, List.getElem?_modify] at e1 ⊢
    by_cases hj : k = j
    · subst hj
      have hkl : k < l.length := (List.getElem?_eq_some_iff.1 hl).1
      simp [he, f1, f2, hkl]
    · rw [List.getElem?_set_ne hj]
      simpa [hj] using e1
  · have : (l.set k (z, w)).map (·.1) = l.map (·.1) := by
      refine List.ext_getElem? fun j => ?_
      simp only [List.getElem?_map]
      by_cases hj : k = j
      · subst hj
        have hkl : k < l.length := (List.getElem?_eq_some_iff.1 hl).1
        rw [List.getElem?_set_self hkl, hl]
        rfl
      · rw [List.getElem?_set_ne hj]
    rw [this]
    exact h.nd
  · have hx2 : x.born ∈ es.map (·.born) := by rw [← hb]; exact List.mem_map_of_mem hx
    obtain ⟨y, hy, e2⟩ := List.mem_map.1 hx2
    rw [← e2]
    exact h.lt y hy
theorem MapRep.push {kk : IntKind} {l : List (Int × Value)} {es : List MapEntry} {clock : Nat} (h : MapRep kk l es clock) {z : Int} (hz : z ∉ l.map (·.1)) (w : Value) : MapRep kk (l ++ [(z, w)]) (es ++ [⟨.int kk z, w, clock⟩]) (clock + 1) := by
  refine ⟨by simp [h.ent], by rw [List.map_append, List.nodup_append]; exact ⟨h.nd, by simp, fun a ha b hb => by simp at hb; subst hb; exact fun e => hz (e ▸ ha)⟩, ?_, ?_⟩
  · rw [List.pairwise_append]
    exact ⟨h.born, by simp, fun a ha b hb => by simp at hb; subst hb; exact h.lt a ha⟩
  · intro e he
    rcases List.mem_append.1 he with he | he
    · have := h.lt e he; omega
    · simp at he; subst he; simp
theorem MapRep.del {kk : IntKind} {l : List (Int × Value)} {es : List MapEntry} {clock : Nat} (h : MapRep kk l es clock) (k : Nat) : MapRep kk (l.eraseIdx k) (es.eraseIdx k) clock := by
  refine ⟨?_, ?_, h.born.sublist (List.eraseIdx_sublist ..), fun e he => h.lt e (List.mem_of_mem_eraseIdx he)⟩
  · rw [map_eraseIdx', map_eraseIdx', h.ent]
  · rw [map_eraseIdx']
    exact h.nd.sublist (List.eraseIdx_sublist ..)
/-- A map among the assertions. -/
class HasM (Γ : List Assn) (b : Nat) (kk : outParam IntKind) (l : outParam (List (Int × Value))) (Δ : outParam (List Assn)) : Prop where
  ent : Ent Γ (mapL b kk l :: Δ)
instance (priority := high) HasM.head {Γ : List Assn} {b : Nat} {kk : IntKind} {l : List (Int × Value)} : HasM (mapL b kk l :: Γ) b kk l Γ := ⟨Ent.refl _⟩
instance HasM.tail {P : Assn} {Γ Δ : List Assn} {b : Nat} {kk : IntKind} {l : List (Int × Value)} [h : HasM Γ b kk l Δ] : HasM (P :: Γ) b kk l (P :: Δ) := ⟨(h.ent.cons P).trans (Ent.swap _ _ _)⟩
class HasMB (Γ : List Assn) (b : Nat) (kk : outParam IntKind) (l : outParam (List (Int × Value))) (z : outParam Int) (s : outParam Nat) (Δ : outParam (List Assn)) : Prop where
  ent : Ent Γ (mapB b kk l z s :: Δ)
instance (priority := high) HasMB.head {Γ : List Assn} {b : Nat} {kk : IntKind} {l : List (Int × Value)} {z : Int} {s : Nat} : HasMB (mapB b kk l z s :: Γ) b kk l z s Γ := ⟨Ent.refl _⟩
instance HasMB.tail {P : Assn} {Γ Δ : List Assn} {b : Nat} {kk : IntKind} {l : List (Int × Value)} {z : Int} {s : Nat} [h : HasMB Γ b kk l z s Δ] : HasMB (P :: Γ) b kk l z s (P :: Δ) := ⟨(h.ent.cons P).trans (Ent.swap _ _ _)⟩
theorem Sat.isMap {w : World} {b : Nat} {kk : IntKind} {l : List (Int × Value)} {Γ : List Assn} (h : Sat w (mapL b kk l :: Γ)) : ∃ es clock, w.heap[b]? = some (.map es clock) ∧ MapRep kk l es.toList clock := by
  obtain ⟨x, le, es, clock, p, r⟩ := h.head
  exact ⟨es, clock, le b _ p, r⟩
/-- The keys of a map are all other. -/
theorem S.mapNodup {n : Nat} {md : Bool} {w0 : WM md} {ρ : Env} {Γ Δ : List Assn} {φ : Act → World → Prop} (b : Nat) {kk : IntKind} {l : List (Int × Value)} [h : HasM Γ b kk l Δ] (k : (l.map (·.1)).Nodup → S n w0 ρ Γ φ) : S n w0 ρ Γ φ := by
  intro a w ha hs hx
  obtain ⟨_, _, _, r⟩ := (hs.ent h.ent).isMap
  exact k r.nd a w ha hs hx
/-- A block's object is set anew. -/
theorem Sat.setObj {w : World} {A B : Assn} {b : Nat} {Γ : List Assn} (h : Sat w (A :: Γ)) (o : Obj) (hA : ∀ x, A x → ∃ o', x b = some o') (hB : B (HL.one b o)) : Sat ({ w with heap := w.heap.setIfInBounds b o } : World) (B :: Γ) := by
  refine h.upd fun x l p => ?_
  obtain ⟨o', ho⟩ := hA x p
  have hw := l b _ ho
  obtain ⟨h1, h2⟩ := heap_set (o' := o) hw
  refine ⟨HL.one b o, HL.one_le h1, hB, fun c hc _ => ?_⟩
  have hne : c ≠ b := fun e => by subst e; rw [ho] at hc; cases hc
  exact ⟨HL.one_none hne, h2 c hne⟩
theorem Ext.setObj {md : Bool} {a : WM md} {w : World} (h : Ext a w) (b : Nat) (o : Obj) : Ext a ({ w with heap := w.heap.setIfInBounds b o } : World) := h.trans ⟨rfl, rfl, rfl, by simp, Nat.le_refl _⟩
section
variable {P : Program} {n : Nat} {md : Bool} {w0 : WM md} {ρ : Env} {Γ : List Assn} {Q : Exit → Act → World → Prop} {K : Act → World → Prop} {ty : TypeId} {pos : String} {af : Array Edge} {gd : Option (Nat × Bool)} {d : Nat} {ds : Option Tmp}
theorem S.makeMap {t : TypeId} (kk : IntKind) (hn : Nat.blt d n = true) (k : ∀ b, S n w0 ((d, .map (some b)) :: ρ) (mapL b kk [] :: Γ) K) : S n w0 ρ Γ (Ow P Q ⟨some d, .makeMap t none, ty, pos, af, gd⟩ K) := by
  intro a w ha hs hx
  have hr : (execOp a.eval ⟨some d, .makeMap t none, ty, pos, af, gd⟩).run P w = .ok (.value (.map (some w.heap.size))) (w.alloc (.map #[] 0)) := by
    simp [execOp, run_makeMap]
  unfold Ow Oper.wp
  rw [hr, Oper.upon_value]
  refine k w.heap.size _ _ (ha.put hn _) ?_ (hx.alloc _)
  have h' : Sat w ((fun _ => True : Assn) :: Γ) := by
    obtain ⟨x, l, s⟩ := hs
    exact ⟨x, l, HL.emp, x, HL.emp_disj _, HL.emp_le _, HL.le.refl _, trivial, s⟩
  refine h'.upd fun x _ _ => ⟨HL.one w.heap.size (.map #[] 0), HL.one_le (hx_new rfl), ⟨#[], 0, HL.one_self _ _, rfl, by simp, by simp, by simp⟩, fun b _ hb => ?_⟩
  have hlt : b < w.heap.size := by
    rcases Nat.lt_or_ge b w.heap.size with h | h
    · exact h
    · simp [Array.getElem?_eq_none h] at hb
  exact ⟨HL.one_none (by omega), Below.heap_alloc _ _ _ hlt⟩
/-- len(m). -/
theorem q_lenM {x : Operand} {t kt et : TypeId} {b : Nat} {kk : IntKind} {l : List (Int × Value)} {Δ : List Assn} (ht : P.underlying t = some (.map kt et)) (hx : ev ρ x = some (.map (some b))) [h : HasM Γ b kk l Δ] : Qv P n ρ Γ ⟨ds, .call { callee := .builtin .len, args := #[x], argTypes := #[t] }, ty, pos, af, gd⟩ (.int .i64 l.length) := fun a w ha hs => by
  obtain ⟨es, clock, hb, r⟩ := (hs.ent h.ent).isMap
  have hl : es.size = l.length := by have := congrArg List.length r.ent; simpa using this
  simp [execOp, ha.ev hx, resolve, invoke, builtin, Builtin.len_, run_underlying ht, goInt, MapKept.run_getObj_map (P := P) hb, hl]
/-- v, ok := m[k]. -/
theorem q_lookupOk {t kt et : TypeId} {q : IntKind} {x y : Operand} {b : Nat} {kk : IntKind} {z : Int} {l : List (Int × Value)} {zv : Value} {Δ : List Assn} (v : Value) (ok : Bool) (ht : P.underlying t = some (.map kt et)) (hk : P.underlying kt = some (.int q)) (hzv : (P.info? et).bind (·.zero) = some zv)
    (hx : ev ρ x = some (.map (some b))) (hy : ev ρ y = some (.int kk z)) [h : HasM Γ b kk l Δ] (hq : q = kk) (hv : (v, ok) = match alGet z l with | some v => (v, true) | none => (zv, false)) : Qv P n ρ Γ ⟨ds, .lookup t x y true, ty, pos, af, gd⟩ (.tuple #[v, .bool ok]) := fun a w ha hs => by
  subst hq
  obtain ⟨es, clock, hb, r⟩ := (hs.ent h.ent).isMap
  have hf := run_findKey (P := P) (w := w) hk (MapRep.find (q := q) (kk := q) z r.ent 0)
  have hg := alFind_get z l 0
  have hz : (zeroValue et).run P w = .ok zv w := by
    cases hi : P.info? et with
    | none => simp [hi] at hzv
    | some i =>
      cases hz' : i.zero with
      | none => simp [hi, hz'] at hzv
      | some z0 =>
        simp only [hi, hz', Option.bind_some, Option.some.injEq] at hzv
        simp [zeroValue, typeInfo, hi, hz', hzv]
  have hc : ∀ e, (Instr.checkKey e 10000 kt (.int q z)).run P w = .ok () w := fun e => run_checkKey (P := P) (w := w) (k := .int q z) hk rfl e 9999
  cases hfi : alFind z l 0 with
  | none =>
    rw [hfi] at hg hf
    rw [← hg] at hv
    simp only [Option.map_none, Prod.mk.injEq] at hv
    simp [execOp, ha.ev hx, ha.ev hy, Instr.lookup, run_underlying ht, MapKept.run_getObj_map (P := P) hb, hc, hf, hz, hv, Result.andThen]
  | some p =>
    rw [hfi] at hg hf
    rw [← hg] at hv
    simp only [Option.map_some, Prod.mk.injEq] at hv
    simp [execOp, ha.ev hx, ha.ev hy, Instr.lookup, run_underlying ht, MapKept.run_getObj_map (P := P) hb, hc, hf, hv, Result.andThen]
/-- m[k]. -/
theorem q_lookup1 {t kt et : TypeId} {q : IntKind} {x y : Operand} {b : Nat} {kk : IntKind} {z : Int} {l : List (Int × Value)} {zv : Value} {Δ : List Assn} (v : Value) (ht : P.underlying t = some (.map kt et)) (hk : P.underlying kt = some (.int q)) (hzv : (P.info? et).bind (·.zero) = some zv)
    (hx : ev ρ x = some (.map (some b))) (hy : ev ρ y = some (.int kk z)) [h : HasM Γ b kk l Δ] (hq : q = kk) (hv : v = (alGet z l).getD zv) : Qv P n ρ Γ ⟨ds, .lookup t x y false, ty, pos, af, gd⟩ v := fun a w ha hs => by
  subst hq
  obtain ⟨es, clock, hb, r⟩ := (hs.ent h.ent).isMap
  have hf := run_findKey (P := P) (w := w) hk (MapRep.find (q := q) (kk := q) z r.ent 0)
  have hg := alFind_get z l 0
  have hz : (zeroValue et).run P w = .ok zv w := by
    cases hi : P.info? et with
    | none => simp [hi] at hzv
    | some i =>
      cases hz' : i.zero with
      | none => simp [hi, hz'] at hzv
      | some z0 =>
        simp only [hi, hz', Option.bind_some, Option.some.injEq] at hzv
        simp [zeroValue, typeInfo, hi, hz', hzv]
  have hc : ∀ e, (Instr.checkKey e 10000 kt (.int q z)).run P w = .ok () w := fun e => run_checkKey (P := P) (w := w) (k := .int q z) hk rfl e 9999
  cases hfi : alFind z l 0 with
  | none =>
    rw [hfi] at hg hf
    rw [← hg] at hv
    simp only [Option.map_none, Option.getD_none] at hv
    simp [execOp, ha.ev hx, ha.ev hy, Instr.lookup, run_underlying ht, MapKept.run_getObj_map (P := P) hb, hc, hf, hz, hv, Result.andThen]
  | some p =>
    rw [hfi] at hg hf
    rw [← hg] at hv
    simp only [Option.map_some, Option.getD_some] at hv
    simp [execOp, ha.ev hx, ha.ev hy, Instr.lookup, run_underlying ht, MapKept.run_getObj_map (P := P) hb, hc, hf, hv, Result.andThen]
/-- m[k] = v. -/
theorem S.mapUpdate {t kt et : TypeId} {q : IntKind} {x y v : Operand} {b : Nat} {kk : IntKind} {z : Int} {vv : Value} {l : List (Int × Value)} {Δ : List Assn} (ht : P.underlying t = some (.map kt et)) (hk : P.underlying kt = some (.int q))
    (hx : ev ρ x = some (.map (some b))) (hy : ev ρ y = some (.int kk z)) (hv : ev ρ v = some vv) [h : HasM Γ b kk l Δ] (hq : q = kk) (kK : S n w0 ρ (mapL b kk (alPut z vv l) :: Δ) K) : S n w0 ρ Γ (Ow P Q ⟨none, .mapUpdate t x y v, ty, pos, af, gd⟩ K) := by
  intro a w ha hs hxt
  subst hq
  have hs1 := hs.ent h.ent
  obtain ⟨es, clock, hb, r⟩ := hs1.isMap
  have hf := run_findKey (P := P) (w := w) hk (MapRep.find (q := q) (kk := q) z r.ent 0)
  have hc : ∀ e, (Instr.checkKey e 10000 kt (.int q z)).run P w = .ok () w := fun e => run_checkKey (P := P) (w := w) (k := .int q z) hk rfl e 9999
  have hA : ∀ x, mapL b q l x → ∃ o', x b = some o' := fun x ⟨es, c, e, _⟩ => ⟨_, e⟩
  cases hfi : alFind z l 0 with
  | none =>
    rw [hfi] at hf
    obtain ⟨p1, _, p3⟩ := alFind_none hfi
    have hr : (execOp a.eval ⟨none, .mapUpdate t x y v, ty, pos, af, gd⟩).run P w = .ok .skip ({ w with heap := w.heap.setIfInBounds b (.map (es.push ⟨.int q z, vv, clock⟩) (clock + 1)) } : World) := by
      simp [execOp, ha.ev hx, ha.ev hy, ha.ev hv, Instr.mapUpdate, run_underlying ht, MapKept.run_getObj_map (P := P) hb, hc, hf, MapKept.run_setObj_map (P := P) _ hb, Result.andThen]
    unfold Ow Oper.wp
    rw [hr, Oper.upon_skip]
    refine kK _ _ (ha.putNone _) (hs1.setObj _ hA ⟨_, _, HL.one_self _ _, ?_⟩) (hxt.setObj _ _)
    rw [p1]
    have := r.push p3 vv
    simpa using this
  | some p =>
    obtain ⟨j, v0⟩ := p
    rw [hfi] at hf
    obtain ⟨k0, p1, p2, p3, _⟩ := alFind_some hfi
    obtain ⟨e0, he0, hk0, _⟩ := r.at p2
    have hj : j = k0 := by omega
    subst hj
    have he1 : es[j]? = some e0 := by simpa using he0
    have hst := run_keyThatStays (P := P) (w := w) (d := .int q) (k := .int q z) rfl
    have hr : (execOp a.eval ⟨none, .mapUpdate t x y v, ty, pos, af, gd⟩).run P w = .ok .skip ({ w with heap := w.heap.setIfInBounds b (.map (es.modify j fun e => { e with key := .int q z, val := vv }) clock) } : World) := by
      simp [execOp, ha.ev hx, ha.ev hy, ha.ev hv, Instr.mapUpdate, run_underlying ht, MapKept.run_getObj_map (P := P) hb, hc, hf, MapKept.run_setObj_map (P := P) _ hb, Result.andThen, he1, hk0, hst]
    unfold Ow Oper.wp
    rw [hr, Oper.upon_skip]
    refine kK _ _ (ha.putNone _) (hs1.setObj _ hA ⟨_, _, HL.one_self _ _, ?_⟩) (hxt.setObj _ _)
    rw [p3, Array.toList_modify]
    exact r.set p2 vv _ fun e _ => ⟨rfl, rfl, rfl⟩
/-- delete(m, k). -/
theorem S.mapDelete {t kt et yt : TypeId} {q : IntKind} {x y : Operand} {b : Nat} {kk : IntKind} {z : Int} {l : List (Int × Value)} {Δ : List Assn} (ht : P.underlying t = some (.map kt et)) (hk : P.underlying kt = some (.int q))
    (hx : ev ρ x = some (.map (some b))) (hy : ev ρ y = some (.int kk z)) [h : HasM Γ b kk l Δ] (hq : q = kk) (kK : S n w0 ρ (mapL b kk (alDel z l) :: Δ) K) : S n w0 ρ Γ (Ow P Q ⟨none, .call { callee := .builtin .delete, args := #[x, y], argTypes := #[t, yt] }, ty, pos, af, gd⟩ K) := by
  intro a w ha hs hxt
  subst hq
  have hs1 := hs.ent h.ent
  obtain ⟨es, clock, hb, r⟩ := hs1.isMap
  have hf := run_findKey (P := P) (w := w) hk (MapRep.find (q := q) (kk := q) z r.ent 0)
  have hc : ∀ e, (Instr.checkKey e 10000 kt (.int q z)).run P w = .ok () w := fun e => run_checkKey (P := P) (w := w) (k := .int q z) hk rfl e 9999
  have hA : ∀ x, mapL b q l x → ∃ o', x b = some o' := fun x ⟨es, c, e, _⟩ => ⟨_, e⟩
  cases hfi : alFind z l 0 with
  | none =>
    rw [hfi] at hf
    obtain ⟨_, p2, _⟩ := alFind_none hfi
    have hr : (execOp a.eval ⟨none, .call { callee := .builtin .delete, args := #[x, y], argTypes := #[t, yt] }, ty, pos, af, gd⟩).run P w = .ok (.value (.tuple #[])) ({ w with heap := w.heap.setIfInBounds b (.map es clock) } : World) := by
      simp [execOp, ha.ev hx, ha.ev hy, resolve, invoke, builtin, Builtin.delete_, run_underlying ht, MapKept.run_getObj_map (P := P) hb, hc, hf, MapKept.run_setObj_map (P := P) _ hb, Result.andThen]
    unfold Ow Oper.wp
    rw [hr, Oper.upon_value]
    refine kK _ _ (ha.putNone _) (hs1.setObj _ hA ⟨_, _, HL.one_self _ _, ?_⟩) (hxt.setObj _ _)
    rw [p2]
    exact r
  | some p =>
    obtain ⟨j, v0⟩ := p
    rw [hfi] at hf
    obtain ⟨k0, p1, p2, _, p4⟩ := alFind_some hfi
    have hj : j = k0 := by omega
    subst hj
    have hr : (execOp a.eval ⟨none, .call { callee := .builtin .delete, args := #[x, y], argTypes := #[t, yt] }, ty, pos, af, gd⟩).run P w = .ok (.value (.tuple #[])) ({ w with heap := w.heap.setIfInBounds b (.map (es.eraseIdxIfInBounds j) clock) } : World) := by
      simp [execOp, ha.ev hx, ha.ev hy, resolve, invoke, builtin, Builtin.delete_, run_underlying ht, MapKept.run_getObj_map (P := P) hb, hc, hf, MapKept.run_setObj_map (P := P) _ hb, Result.andThen]
    unfold Ow Oper.wp
    rw [hr, Oper.upon_value]
    refine kK _ _ (ha.putNone _) (hs1.setObj _ hA ⟨_, _, HL.one_self _ _, ?_⟩) (hxt.setObj _ _)
    rw [p4, Array.toList_eraseIdxIfInBounds]
    exact r.del j
/-- The place of an entry that is there. -/
theorem S.mapEntry {t kt et : TypeId} {q : IntKind} {x y : Operand} {b : Nat} {kk : IntKind} {z : Int} {v : Value} {l : List (Int × Value)} {Δ : List Assn} (ht : P.underlying t = some (.map kt et)) (hk : P.underlying kt = some (.int q))
    (hx : ev ρ x = some (.map (some b))) (hy : ev ρ y = some (.int kk z)) [h : HasM Γ b kk l Δ] (hq : q = kk) (hv : alGet z l = some v) (hn : Nat.blt d n = true)
    (kK : ∀ s : Nat, S n w0 ((d, .tuple #[v, .int .i64 s]) :: ρ) (mapB b kk l z s :: Δ) K) : S n w0 ρ Γ (Ow P Q ⟨some d, .mapEntry t x y, ty, pos, af, gd⟩ K) := by
  intro a w ha hs hxt
  subst hq
  have hs1 := hs.ent h.ent
  obtain ⟨es, clock, hb, r⟩ := hs1.isMap
  have hf := run_findKey (P := P) (w := w) hk (MapRep.find (q := q) (kk := q) z r.ent 0)
  have hc : ∀ e, (Instr.checkKey e 10000 kt (.int q z)).run P w = .ok () w := fun e => run_checkKey (P := P) (w := w) (k := .int q z) hk rfl e 9999
  have hA : ∀ x, mapL b q l x → ∃ o', x b = some o' := fun x ⟨es, c, e, _⟩ => ⟨_, e⟩
  have hg := alFind_get z l 0
  cases hfi : alFind z l 0 with
  | none => rw [hfi, hv] at hg; cases hg
  | some p =>
    obtain ⟨j, v0⟩ := p
    rw [hfi, hv] at hg
    simp only [Option.map_some, Option.some.injEq] at hg
    subst hg
    rw [hfi] at hf
    obtain ⟨k0, p1, p2, p3, _⟩ := alFind_some hfi
    obtain ⟨e0, he0, hk0, hv0⟩ := r.at p2
    have hj : j = k0 := by omega
    subst hj
    have he1 : es[j]? = some e0 := by simpa using he0
    have hst := run_keyThatStays (P := P) (w := w) (d := .int q) (k := .int q z) rfl
    have hr : (execOp a.eval ⟨some d, .mapEntry t x y, ty, pos, af, gd⟩).run P w = .ok (.value (.tuple #[v0, .int .i64 e0.born])) ({ w with heap := w.heap.setIfInBounds b (.map (es.modify j fun e => { e with key := .int q z }) clock) } : World) := by
      simp [execOp, ha.ev hx, ha.ev hy, Instr.mapEntry, run_underlying ht, MapKept.run_getObj_map (P := P) hb, hc, hf, MapKept.run_setObj_map (P := P) _ hb, Result.andThen, he1, hk0, hst, goInt]
    unfold Ow Oper.wp
    rw [hr, Oper.upon_value]
    refine kK _ _ _ (ha.put hn _) (hs1.setObj _ hA ⟨_, _, HL.one_self _ _, ?_, j, { e0 with key := .int q z }, ?_, rfl, rfl⟩) (hxt.setObj _ _)
    · have hl : l.set j (z, v0) = l := by
        refine List.ext_getElem? fun i => ?_
        by_cases hi : j = i
        · subst hi; rw [List.getElem?_set_self (List.getElem?_eq_some_iff.1 p2).1, p2]
        · rw [List.getElem?_set_ne hi]
      rw [Array.toList_modify]
      have h2 := r.set p2 v0 (fun e => { e with key := .int q z }) 
      rw [hl] at h2
      refine ⟨?_, r.nd, ?_, ?_⟩
      · refine List.ext_getElem? fun i => ?_
        have e1 := congrArg (fun l => l[i]?) r.ent
        simp only [List.getElem?_map, List.getElem?_modify] at e1 ⊢
        by_cases hi : j = i
        · subst hi
          rw [he0] at e1 ⊢
          simp only [Option.map_some, if_true] at e1 ⊢
          rw [← e1, hk0]
          rfl
        · simpa [hi] using e1
      · rw [← List.pairwise_map (f := fun e : MapEntry => e.born) (R := (· < ·))]
        have hb : (es.toList.modify j fun e => { e with key := .int q z }).map (·.born) = es.toList.map (·.born) := by
          refine List.ext_getElem? fun i => ?_
          simp only [List.getElem?_map, List.getElem?_modify]
          by_cases hi : j = i
          · subst hi; simp [he0]
          · simp [hi]
        rw [hb, List.pairwise_map]
        exact r.born
      · intro x hx
        obtain ⟨i, hi⟩ := List.getElem?_of_mem hx
        rw [List.getElem?_modify] at hi
        by_cases hji : j = i
        · subst hji
          rw [he0] at hi
          simp at hi
          subst hi
          exact r.lt e0 (List.mem_of_getElem? he0)
        · simp only [if_neg hji, Option.map_eq_map, Option.map_id'] at hi
          exact r.lt x (List.mem_of_getElem? (by simpa using hi))
    · rw [Array.toList_modify, List.getElem?_modify, he0]
      simp
/-- .. is written. -/
theorem S.entryStore {t : TypeId} {x y v : Operand} {b : Nat} {kk : IntKind} {z : Int} {s : Nat} {vv : Value} {l : List (Int × Value)} {Δ : List Assn}
    (hx : ev ρ x = some (.map (some b))) [h : HasMB Γ b kk l z s Δ] (hy : ev ρ y = some (.int .i64 s)) (hv : ev ρ v = some vv) (kK : S n w0 ρ (mapL b kk (alPut z vv l) :: Δ) K) : S n w0 ρ Γ (Ow P Q ⟨none, .entryStore t x y v, ty, pos, af, gd⟩ K) := by
  intro a w ha hs hxt
  have hs1 := hs.ent h.ent
  obtain ⟨x0, le0, es, clock, p0, r, i, e0, he0, hk0, hb0⟩ := hs1.head
  have hb : w.heap[b]? = some (.map es clock) := le0 b _ p0
  have hA : ∀ x, mapB b kk l z s x → ∃ o', x b = some o' := fun x ⟨es, c, e, _⟩ => ⟨_, e⟩
  have he1 : es[i]? = some e0 := by simpa using he0
  have hil : i < es.toList.length := (List.getElem?_eq_some_iff.1 he0).1
  -- the entry's place
  have hfx : es.findIdx? (fun e => (e.born : Int) == (s : Int)) = some i := by
    rw [Array.findIdx?_eq_some_iff_getElem]
    have hei : es.toList[i] = e0 := by have := List.getElem?_eq_getElem hil; rw [this] at he0; exact Option.some.inj he0
    have hei2 : es[i]'(by simpa using hil) = e0 := by simpa using hei
    refine ⟨by simpa using hil, by rw [hei2, hb0]; simp, fun j hj => ?_⟩
    have := List.pairwise_iff_getElem.1 r.born j i (by omega) hil hj
    rw [hei, hb0, Array.getElem_toList] at this
    simp only [Bool.not_eq_true, beq_eq_false_iff_ne, ne_eq]
    omega
  -- its number in l
  have e1 := congrArg (fun l => l[i]?) r.ent
  simp only [List.getElem?_map, he0, Option.map_some] at e1
  cases hl : l[i]? with
  | none => rw [hl] at e1; cases e1
  | some p =>
    rw [hl] at e1
    simp only [Option.map_some, Option.some.injEq, Prod.mk.injEq] at e1
    rw [hk0] at e1
    obtain ⟨e2, e3⟩ := e1
    simp only [Value.int.injEq, true_and] at e2
    obtain ⟨z', v0⟩ := p
    simp only at e2 e3
    subst e2
    have hput : alPut z vv l = l.set i (z, vv) := by
      cases hfi : alFind z l 0 with
      | none => exact absurd (List.mem_map.2 ⟨_, List.mem_of_getElem? hl, rfl⟩) (alFind_none hfi).2.2
      | some p =>
        obtain ⟨j, v1⟩ := p
        obtain ⟨k0, p1, p2, p3, _⟩ := alFind_some hfi
        have hik : i = k0 := by
          have hnd := r.nd
          have a1 : (l.map (·.1))[i]? = some z := by rw [List.getElem?_map, hl]; rfl
          have a2 : (l.map (·.1))[k0]? = some z := by rw [List.getElem?_map, p2]; rfl
          exact (List.getElem?_inj (by have := (List.getElem?_eq_some_iff.1 a1).1; exact this) hnd).1 (a1.trans a2.symm)
        rw [p3, hik]
    have hr : (execOp a.eval ⟨none, .entryStore t x y v, ty, pos, af, gd⟩).run P w = .ok .skip ({ w with heap := w.heap.setIfInBounds b (.map (es.modify i fun e => { e with val := vv }) clock) } : World) := by
      simp [execOp, ha.ev hx, ha.ev hy, ha.ev hv, Instr.entryStore, MapKept.run_getObj_map (P := P) hb, asInt, asIntOf, hfx, MapKept.run_setObj_map (P := P) _ hb, Result.andThen]
    unfold Ow Oper.wp
    rw [hr, Oper.upon_skip]
    refine kK _ _ (ha.putNone _) (hs1.setObj _ hA ⟨_, _, HL.one_self _ _, ?_⟩) (hxt.setObj _ _)
    rw [hput, Array.toList_modify]
    exact r.set hl vv _ fun e he => ⟨he, rfl, rfl⟩
/-- A record is stored into an owned slice. -/
theorem S.storeOwS {t b o k : Nat} {x y : Operand} {e : TypeId} {sz : Nat} {xs xs' : List Value} {vs : Array Value} {Δ : List Assn} (s : SV) {off : Nat} (j : Nat) (ht : aggT P t = some k) (hx : ev ρ x = some (.pointer (some ⟨b, o, none⟩))) (hy : ev ρ y = some (.agg vs)) (hk : vs.size = k) (h1 : allOne vs.toList = true) [h : HasOw Γ s e sz xs Δ] (hp : s.a = some ⟨b, off, none⟩) (ho : o = off + j) (hj : j + vs.size ≤ xs.length) (hxs : xs.take j ++ vs.toList ++ xs.drop (j + vs.size) = xs')
    (kk : S n w0 ρ (own s e sz xs' :: Δ) K) : S n w0 ρ Γ (Ow P Q ⟨none, .store t x y, ty, pos, af, gd⟩ K) := by
  intro a w ha hs hxt
  subst ho hxs
  have hO := h.own hs
  obtain ⟨sa, sn, sc⟩ := s
  simp only at hp hO
  subst hp
  have hlen := hO.1
  rcases hO.2 with ⟨h0, _⟩ | ⟨b', off', c', cur, q1, q2, hB, q4, q5, q6, q7⟩
  · cases h0
  simp only [SV.v, Value.slice.injEq, Option.some.injEq, Addr.mk.injEq, and_true, true_and] at q1
  obtain ⟨⟨rfl, rfl⟩, rfl⟩ := q1
  have hcm : sn * sz ≤ sc * sz := Nat.mul_le_mul_right _ q4
  have hst := run_storeCells_at P b (off + j) e vs.toList 0 cur w hB (by simp; omega) (fun v hv => List.all_eq_true.1 h1 v hv)
  have hr : (execOp a.eval ⟨none, .store t x y, ty, pos, af, gd⟩).run P w = .ok .skip (w.setRow b (cur.toList.take (off + j) ++ vs.toList ++ cur.toList.drop (off + j + vs.toList.length)).toArray) := by
    simp only [Nat.add_zero] at hst
    simp [execOp, ha.ev hx, ha.ev hy, Instr.storeAt, Instr.sureAddr, storeVar, (run_isAgg_agg ht w).2, Value.cells, hk] at hst ⊢
    rw [hst]
    rfl
  unfold Ow Oper.wp
  rw [hr, Oper.upon_skip]
  refine kk _ _ (ha.putNone _) ?_ (hxt.trans ⟨rfl, rfl, rfl, by simp [World.setRow], Nat.le_refl _⟩)
  have hC : off + sn * sz ≤ cur.toList.length := by simp only [Array.length_toList]; omega
  refine (hs.ent h.ent).ownUpd (b := b) ⟨?_, .inr ⟨b, off, sc, _, rfl, rfl, setRow_heap w b cur _ e _ hB, q4, q5, ?_, ?_⟩⟩ rfl ⟨rfl, rfl, rfl, by simp [World.setRow], fun k _ hk => setRow_other w b k _ hk, Nat.le_refl _⟩
  · simp only [List.length_append, List.length_take, List.length_drop, Array.length_toList]
    omega
  · simp only [List.size_toArray, List.length_append, List.length_take, List.length_drop, Array.length_toList]
    omega
  · simp only
    have hvl : vs.toList.length = vs.size := Array.length_toList
    generalize vs.toList = V at *
    generalize cur.toList = C at *
    rw [hvl, List.append_assoc, List.drop_append_of_le_length (by rw [List.length_take]; omega)]
    have e1 : (C.take (off + j)).drop off = (C.drop off).take j := by rw [List.drop_take]; congr 1; omega
    have e2 : xs.take j = (C.drop off).take j := by rw [← q7, List.take_take, Nat.min_eq_left (by omega)]
    have e3 : xs.drop (j + vs.size) = (C.drop (off + j + vs.size)).take (sn * sz - (j + vs.size)) := by rw [← q7, List.drop_take, List.drop_drop]; congr 2; omega
    rw [e1, e2, e3]
    have l1 : ((C.drop off).take j).length = j := by rw [List.length_take, List.length_drop]; omega
    rw [List.take_append, l1, List.take_of_length_le (l := (C.drop off).take j) (by omega), List.take_append, hvl, List.take_of_length_le (l := V) (by omega), List.append_assoc]
    congr 3
    omega
/-- .. where records stand side by side. -/
theorem flat_put {α : Type} {enc : α → List Value} {sz : Nat} (he : ∀ x, (enc x).length = sz) {os : List α} {i : Nat} (hi : i < os.length) (y : α) : (os.flatMap enc).take (i * sz) ++ enc y ++ (os.flatMap enc).drop (i * sz + sz) = (os.set i y).flatMap enc := by
  rw [show i * sz + sz = (i + 1) * sz by rw [Nat.succ_mul], flat_drop he, List.set_eq_take_append_cons_drop, if_pos hi, List.flatMap_append, List.flatMap_cons, List.append_assoc]
  congr 1
  have h1 := flat_length he (os.take i)
  rw [List.length_take, Nat.min_eq_left (by omega)] at h1
  conv => lhs; rw [← List.take_append_drop i os, List.flatMap_append]
  rw [← h1, List.take_left]
/-! Interfaces. -/
theorem q_makeInterface {t : TypeId} {x : Operand} {v : Value} (ht : (match P.underlying t with | some (.interface _) => false | some _ => true | none => false) = true) (hx : ev ρ x = some v) : Qv P n ρ Γ ⟨ds, .makeInterface t x, ty, pos, af, gd⟩ (.iface t v) := fun a w ha _ => by
  cases hu : P.underlying t with
  | none => rw [hu] at ht; cases ht
  | some dd =>
    cases dd <;> first | (rw [hu] at ht; cases ht; done) | simp [execOp, ha.ev hx, Instr.makeInterface, run_underlying hu, Result.andThen]
/-- v, ok := x.(T), where x is of type T. -/
theorem q_assertOk {t s : TypeId} {x : Operand} {v : Value} (ht : (match P.underlying t with | some (.interface _) => false | some _ => true | none => false) = true) (hx : ev ρ x = some (.iface t v)) : Qv P n ρ Γ ⟨ds, .typeAssert x s t true, ty, pos, af, gd⟩ (.tuple #[v, .bool true]) := fun a w ha _ => by
  cases hu : P.underlying t with
  | none => rw [hu] at ht; cases ht
  | some dd =>
    cases dd <;> first | (rw [hu] at ht; cases ht; done) | simp [execOp, ha.ev hx, Instr.typeAssert, run_underlying hu, Result.andThen]
/-- The method of a pointer's type. -/
def methT (P : Program) (t : TypeId) (name : String) : Option FuncId := match P.info? t with
  | some i => match i.methods.find? (·.name == name) with
    | some m => match m.path.toList, m.func, P.underlying t with
      | [], some (f, true), some (.pointer _) => some f
      | _, _, _ => none
    | none => none
  | none => none
theorem run_invoke {t : TypeId} {v : Value} {name : String} {f : FuncId} {r : Operand} {xs : List Operand} {ats : Array TypeId} {vs : List Value} {a : Act} (hm : methT P t name = some f) (he : enterT P f = true) (hr : a.eval r = .iface t v) (hargs : xs.map a.eval = vs) (w : World) :
    (execOp a.eval ⟨ds, .call { callee := .invoke r name, args := xs.toArray, argTypes := ats }, ty, pos, af, gd⟩).run P w = .ok (.enter f (v :: vs).toArray) w := by
  unfold methT at hm
  split at hm
  · rename_i i hi
    split at hm
    · rename_i m hfm
      split at hm
      · rename_i f' dd h1 h2 h3
        cases hm
        unfold enterT at he
        split at he
        · rename_i fn hfn
          simp only [Bool.and_eq_true, bne_iff_ne, ne_eq] at he
          obtain ⟨g1, g2⟩ := he
          have g2' : ¬ fn.body = none := by cases hb : fn.body <;> simp [hb] at g2 ⊢
          obtain ⟨k, hk⟩ : ∃ k, P.types.size + Made.depth = k + 1 := ⟨P.types.size + 99, by unfold Made.depth; omega⟩
          have hme : (method (k + 1) t v name).run P w = .ok (f, v) w := by
            unfold method
            simp [typeInfo, hi, hfm, h1, follow, h2, receiverAt, run_underlying h3, Place.get, Result.andThen]
          have hxs : (xs.toArray.map a.eval) = vs.toArray := by rw [← hargs]; simp
          have hcm : (callMethod (.iface t v) name vs.toArray).run P w = .ok (.enter f (v :: vs).toArray) w := by
            unfold callMethod
            simp [hk, hme, callFunc, hfn, g1, g2', Result.andThen]
          have hex : (#[(Value.iface t v)] ++ vs.toArray).extract 1 (#[(Value.iface t v)] ++ vs.toArray).size = vs.toArray := by simp
          simp only [execOp, resolve, hr, hxs, invoke]
          simpa [Result.andThen] using hcm
        · cases he
      · cases hm
    · cases hm
  · cases hm
theorem S.callI {f : FuncId} {t : TypeId} {v : Value} {name : String} {r : Operand} {xs : List Operand} {ats : Array TypeId} {vs : List Value} {pre Δ : List Assn} {post : List Assn → Value → List Assn → Prop} (hm : methT P t name = some f) (he : enterT P f = true) (hr : ev ρ r = some (.iface t v)) (hargs : EvL ρ xs vs)
    (hs : Spec P f (v :: vs) pre post md) [hp : Picks pre Γ Δ] (hn : Nat.blt d n = true)
    (k : ∀ v Θ, post Δ v Θ → S n w0 ((d, v) :: ρ) Θ K) : S n w0 ρ Γ (Ow P Q ⟨some d, .call { callee := .invoke r name, args := xs.toArray, argTypes := ats }, ty, pos, af, gd⟩ K) := by
  intro a w ha hsat hx
  have hr := run_invoke (P := P) (ty := ty) (pos := pos) (af := af) (gd := gd) (ds := some d) (ats := ats) (vs := vs) hm he (ha.ev hr) (hargs.map ha) w
  unfold Ow Oper.wp
  rw [hr, Oper.upon_enter]
  refine (hs Δ w (hsat.ent hp.ent)).mono ?_
  rintro e w' ⟨v, Θ, rfl, hpost, hsat', hx'⟩
  exact k v Θ hpost _ _ (ha.put hn v) hsat' (hx.transM hx')
end
/-! Guards that themselves weren't wanted. -/
section
variable {n : Nat} {md : Bool} {w0 : WM md} {ρ : Env} {Γ : List Assn} {P : Program} {Q : Exit → Act → World → Prop} {ops : Array Oper} {d : Nat} {Hs : List Assn} {late : List Nat} {fuel : Nat} {listed : Array Bool}
theorem yielded_undef {a : Act} (ha : EnvOk n ρ a) {g t : Nat} (hd : (ops[g]?).bind (·.dst) = some t) (hb : Env.get ρ t = some undef) : yielded ops a.tmps g = none := by
  have h := ha.get t _ hb
  unfold yielded
  rw [hd]
  cases ht : a.tmps[t]? with
  | none => simp [ht]
  | some v =>
    have : a.tmps.getD t undef = v := by simp [Array.getD_eq_getD_getElem?, ht]
    rw [this] at h
    subst h
    simp [ht, undef]
theorem S.g_noU {o : Oper} {rest : List Oper} {g t : Nat} {want : Bool} (hg : o.guard = some (g, want)) (hd : (ops[g]?).bind (·.dst) = some t) (hb : Env.get ρ t = some undef) (hds : o.dst = some d) (hn : Nat.blt d n = true)
    (h : S n w0 ((d, undef) :: ρ) Γ (wpG P ops Q rest)) : S n w0 ρ Γ (wpG P ops Q (o :: rest)) := by
  intro a w ha hs hx
  unfold wpG
  rw [if_neg (by simp [Region.wanted, hg, yielded_undef ha hd hb])]
  rw [hds]
  exact h _ _ (ha.put hn _) hs hx
theorem S.dr_takeNU {o : Oper} {g t : Nat} {want : Bool} (i : Nat) (D : List Nat) (hi : ops[i]? = some o) (hok : takeOk ops listed i late D = true) (hg : o.guard = some (g, want)) (hgd : (ops[g]?).bind (·.dst) = some t) (hb : Env.get ρ t = some undef) (hd : o.dst = some d) (hn : Nat.blt d n = true) (hH : Ent Γ Hs)
    (k : S n w0 ((d, undef) :: ρ) Γ (Dr P ops Q Hs late fuel (listed.setIfInBounds i true))) : S n w0 ρ Γ (Dr P ops Q Hs late (fuel + 1) listed) := by
  intro a w ha hs hx
  unfold takeOk at hok
  simp only [Bool.and_eq_true, List.all_eq_true] at hok
  obtain ⟨⟨⟨⟨h1, h2⟩, h3⟩, h4⟩, h5⟩ := hok
  have hY : YieldsIf P ops (fun w => Sat w Hs) o undef a := .inr ⟨by simp [Region.wanted, hg, yielded_undef ha hgd hb], rfl⟩
  unfold Dr
  refine wpT_first (D := D) hi (Region.noSelect_spec h1) (fun _ _ _ h => h) (fun j hj => by simpa using h4 j (by simpa using hj)) (fun j hj o ho => ?_) fuel listed a w (Region.free_spec hi h2) (fun j hj => ?_) (by simpa using h3) hY (hs.ent hH) ?_
  · have := h5 j hj
    simp only [ho] at this
    obtain ⟨e, he, hb⟩ := Array.any_eq_true'.1 this.2
    simp only [Bool.and_eq_true, Bool.or_eq_true, beq_iff_eq, List.contains_iff_mem] at hb
    exact ⟨e, he, hb.1, hb.2⟩
  · have := h5 j hj
    simp only [bne_iff_ne, ne_eq, Bool.not_eq_true'] at this
    exact ⟨this.1.1, this.1.2⟩
  · rw [hd]
    exact k _ _ (ha.put hn _) hs hx
end
end Go.Proofs.YtegjmmocnffpiaaDoor
/- The beginning and the rest of what is owned, to be read. Of no program. -/
namespace Go.Proofs.YtegjmmocnffpiaaDoor
open Go.RowKit
/-- The first i of what is owned, to be read. -/
theorem own_takeG {α : Type} {enc : α → List Value} {sz : Nat} (he : ∀ x, (enc x).length = sz) (h0 : 0 < sz) {w : World} {s : SV} {os : List α} (h : SlAt w s.v s.n sz (os.flatMap enc)) {i : Nat} (hi : i ≤ s.n) : SlAt w (.slice s.a i s.c) i sz ((os.take i).flatMap enc) := by
  obtain ⟨hl, ao, c, h1, h2, h3, h4, h5⟩ := h
  simp only [SV.v, Value.slice.injEq] at h1
  obtain ⟨rfl, _, rfl⟩ := h1
  rw [flat_length he] at hl
  have hl2 : os.length = s.n := Nat.eq_of_mul_eq_mul_right h0 hl
  refine ⟨by rw [flat_length he, List.length_take]; congr 1; omega, s.a, s.c, rfl, by omega, h3, fun e => ?_, fun a ha h0 => ?_⟩
  · have := h4 e; omega
  · obtain ⟨g1, g2, g3⟩ := h5 a ha (by omega)
    refine ⟨g1, g2, fun j u hu => g3 j u ?_⟩
    rw [← List.take_append_drop i os, List.flatMap_append, List.getElem?_append_left (List.getElem?_eq_some_iff.1 hu).1]
    exact hu
/-- What is behind the first i. -/
theorem own_dropG {α : Type} {enc : α → List Value} {sz : Nat} (he : ∀ x, (enc x).length = sz) (h0 : 0 < sz) {w : World} {s : SV} {os : List α} (h : SlAt w s.v s.n sz (os.flatMap enc)) {i : Nat} (hi : i ≤ s.n) : SlAt w (.slice (if s.c = i then s.a else s.a.map (·.add (i * sz))) (s.n - i) (s.c - i)) (s.n - i) sz ((os.drop i).flatMap enc) := by
  obtain ⟨hl, ao, c, h1, h2, h3, h4, h5⟩ := h
  simp only [SV.v, Value.slice.injEq] at h1
  obtain ⟨rfl, _, rfl⟩ := h1
  rw [flat_length he] at hl
  have hl2 : os.length = s.n := Nat.eq_of_mul_eq_mul_right h0 hl
  refine ⟨by rw [flat_length he, List.length_drop]; congr 1; omega, _, _, rfl, by omega, by omega, fun e => ?_, fun a ha h0 => ?_⟩
  · split at e
    · have := h4 e; omega
    · rw [Option.map_eq_none_iff] at e; have := h4 e; omega
  · rw [if_neg (by omega)] at ha
    obtain ⟨a0, ha0, rfl⟩ := Option.map_eq_some_iff.1 ha
    obtain ⟨g1, g2, g3⟩ := h5 a0 ha0 (by omega)
    have e0 : a0 = ⟨a0.block, a0.off, none⟩ := by rw [← g1]
    rw [e0, Addr.add_lit]
    refine ⟨rfl, g2, fun j u hu => ?_⟩
    rw [← flat_drop he, List.getElem?_drop] at hu
    rw [Nat.add_assoc]
    exact g3 _ u hu
end Go.Proofs.YtegjmmocnffpiaaDoor
/- Slices that are only read, whatever holds them: an assertion R that gives their cells. -/
namespace Go.Proofs.YtegjmmocnffpiaaDoor
open Go.RowKit
section
variable {P : Program} {n : Nat} {md : Bool} {w0 : WM md} {ρ : Env} {Γ : List Assn} {φ : Act → World → Prop} {ty : TypeId} {pos : String} {af : Array Edge} {gd : Option (Nat × Bool)} {ds : Option Tmp}
/-- R gives the slice s of m cells (sz each). -/
def RdS (R : Assn) (s : SV) (m sz : Nat) (xs : List Value) : Prop := ∀ Γ w, Sat w (R :: Γ) → SlAt w s.v m sz xs
theorem RdS.own {s : SV} {e : TypeId} {sz : Nat} {xs : List Value} : RdS (own s e sz xs) s s.n sz xs := fun _ _ hs => (HasOw.head).slAt hs
theorem RdS.old {W : World} {s : SV} {m sz : Nat} {xs : List Value} (h : SlAt W s.v m sz xs) : RdS (old W) s m sz xs := fun _ _ hs => (HasOld.head).slAt hs h
theorem RdS.at_ {R : Assn} {s : SV} {m sz : Nat} {xs : List Value} (h : RdS R s m sz xs) {Δ : List Assn} [p : Pick R Γ Δ] {w : World} (hs : Sat w Γ) : SlAt w s.v m sz xs := h _ _ (hs.ent p.ent)
theorem RdS.alls {α : Type} {F : α → Assn} {os : List α} {i : Nat} {x : α} (hx : os[i]? = some x) {s : SV} {m sz : Nat} {xs : List Value} (h : RdS (F x) s m sz xs) : RdS (alls os F) s m sz xs := fun Γ _ hs => h _ _ (hs.ent (Ent.allsAt F hx Γ))
theorem RdS.take {α : Type} {enc : α → List Value} {sz : Nat} (he : ∀ x, (enc x).length = sz) (h0 : 0 < sz) {R : Assn} {s : SV} {os : List α} (h : RdS R s s.n sz (os.flatMap enc)) {i : Nat} (hi : i ≤ s.n) : RdS R ⟨s.a, i, s.c⟩ i sz ((os.take i).flatMap enc) := fun Γ w hs => own_takeG he h0 (h Γ w hs) hi
theorem S.rSome {R : Assn} {s : SV} {m sz : Nat} {xs : List Value} (h : RdS R s m sz xs) {Δ : List Assn} [p : Pick R Γ Δ] (hm : 0 < m) (k : ∀ b off, s.a = some ⟨b, off, none⟩ → S n w0 ρ Γ φ) : S n w0 ρ Γ φ := by
  intro a w ha hs hx
  obtain ⟨b, off, hb, _⟩ := slAt_some (h.at_ hs) hm
  exact k b off hb a w ha hs hx
theorem S.rCap {R : Assn} {s : SV} {m sz : Nat} {xs : List Value} (h : RdS R s m sz xs) {Δ : List Assn} [p : Pick R Γ Δ] (k : s.n = m → s.n ≤ s.c → s.c ≤ 9223372036854775807 → S n w0 ρ Γ φ) : S n w0 ρ Γ φ := by
  intro a w ha hs hx
  obtain ⟨h1, h2, h3⟩ := slAt_cap (h.at_ hs)
  unfold maxLen at h3
  exact k h1 h2 (by omega) a w ha hs hx
theorem q_loadR {t b o : Nat} {x : Operand} {R : Assn} {s : SV} {m sz off : Nat} {xs : List Value} {v : Value} (h : RdS R s m sz xs) {Δ : List Assn} [p : Pick R Γ Δ] (j : Nat) (ht : atomT P t = true) (hx : ev ρ x = some (.pointer (some ⟨b, o, none⟩))) (hp : s.a = some ⟨b, off, none⟩) (hm : 0 < m) (ho : o = off + j) (hv : xs[j]? = some v) :
    Qv P n ρ Γ ⟨ds, .load t x, ty, pos, af, gd⟩ v := by
  intro a w ha hs
  obtain ⟨b', off', hb, hcell⟩ := slAt_some (h.at_ hs) hm
  rw [hp] at hb
  cases hb
  have hc := hcell _ _ hv
  have hl : (loadVar t ⟨b, o, none⟩).run P w = .ok v w := by
    unfold loadVar
    rw [Sem.run_bind, (run_isAgg_atom ht w).1, ho]
    exact run_load_at hc
  simp only [execOp, ha.ev hx, Instr.loadAt, Instr.sureAddr, Sem.run_bind, Sem.run_pure, Result.andThen_ok, hl]
theorem q_loadRS {t k b o : Nat} {x : Operand} {R : Assn} {s : SV} {m sz off : Nat} {xs : List Value} (h : RdS R s m sz xs) {Δ : List Assn} [p : Pick R Γ Δ] (j : Nat) (vs : List Value) (ht : aggT P t = some k) (hx : ev ρ x = some (.pointer (some ⟨b, o, none⟩))) (hp : s.a = some ⟨b, off, none⟩) (hm : 0 < m) (ho : o = off + j) (hk : vs.length = k) (hv : ∀ i u, vs[i]? = some u → xs[j + i]? = some u) :
    Qv P n ρ Γ ⟨ds, .load t x, ty, pos, af, gd⟩ (.agg vs.toArray) := by
  intro a w ha hs
  obtain ⟨b', off', hb, hcell⟩ := slAt_some (h.at_ hs) hm
  rw [hp] at hb
  cases hb
  have hc : ∀ j u, vs[j]? = some u → w.cell? ((⟨b, o, none⟩ : Addr).add j) = some u := fun i u hu => by
    rw [Addr.add_lit, ho, Nat.add_assoc]
    exact hcell _ _ (hv i u hu)
  have hl0 := run_loadCells_list (P := P) (w := w) ⟨b, o, none⟩ vs hc
  rw [hk] at hl0
  have hl : (loadVar t ⟨b, o, none⟩).run P w = .ok (.agg vs.toArray) w := by simp [loadVar, (run_isAgg_agg ht w).1, (run_isAgg_agg ht w).2, hl0]
  simp only [execOp, ha.ev hx, Instr.loadAt, Instr.sureAddr, Sem.run_bind, Sem.run_pure, Result.andThen_ok, hl]
end
theorem Ent.ownTake (s : SV) (e sz : Nat) (xs : List Value) {k : Nat} (hk : k ≤ s.n) (Γ : List Assn) : Ent (own s e sz xs :: Γ) (own ⟨s.a, k, s.c⟩ e sz (xs.take (k * sz)) :: Γ) := Ent.mono1 Γ fun h p => by
  have hm : k * sz ≤ s.n * sz := Nat.mul_le_mul_right _ hk
  refine ⟨by rw [List.length_take, p.1]; exact Nat.min_eq_left hm, ?_⟩
  rcases p.2 with ⟨h1, h2, h3⟩ | ⟨b, off, cur, h1, h2, h3, h4, h5, h6⟩
  · exact .inl ⟨h1, by simp only; omega, h3⟩
  · exact .inr ⟨b, off, cur, h1, h2, by simp only; omega, h4, h5, by rw [← h6, List.take_take, Nat.min_eq_left hm]⟩
theorem S.ownNone {n : Nat} {md : Bool} {w0 : WM md} {ρ : Env} {Γ : List Assn} {φ : Act → World → Prop} (s : SV) {e : TypeId} {sz : Nat} {xs : List Value} {Δ : List Assn} [h : HasOw Γ s e sz xs Δ] (k : (s.a.isNone = true → s.n = 0) → S n w0 ρ Γ φ) : S n w0 ρ Γ φ := by
  intro a w ha hs hx
  obtain ⟨x, _, p⟩ := (hs.ent h.ent).head
  refine k (fun hn => ?_) a w ha hs hx
  rcases p.2 with ⟨_, h2, _⟩ | ⟨_, _, _, h1, _⟩
  · exact h2
  · rw [h1] at hn; cases hn
/-- One assertion for several. -/
theorem Ent.pack (Θ Γ : List Assn) : Ent (Θ ++ Γ) (stars Θ :: Γ) := fun _ hs => stars_append.1 hs
theorem Ent.unpack (Θ Γ : List Assn) : Ent (stars Θ :: Γ) (Θ ++ Γ) := fun _ hs => stars_append.2 hs
/-- Numbers. -/
abbrev ints (l : List Int) : List Value := l.map (Value.int .i64)
theorem ints_flat (l : List Int) : ints l = l.flatMap fun x => [Value.int .i64 x] := by
  induction l with
  | nil => rfl
  | cons x l ih => simp only [ints, List.map_cons, List.flatMap_cons] at *; rw [ih]; rfl
theorem ints_one (l : List Int) : allOne (ints l) = true := List.all_eq_true.2 fun u hu => by
  obtain ⟨x, _, h⟩ := List.mem_map.1 hu
  subst h
  rfl
theorem ints_get {l : List Int} {i : Nat} {x : Int} (h : l[i]? = some x) : (ints l)[i]? = some (.int .i64 x) := by rw [List.getElem?_map, h]; rfl
end Go.Proofs.YtegjmmocnffpiaaDoor
/- A nil matrix: what each function says of it. -/
namespace Go.Proofs.YtegjmmocnffpiaaDoor
open Go.RowKit
set_option maxRecDepth 20000
theorem nodeNil_S (z : Int) : Spec Tryd.prog 64 [.pointer none, .int .i64 z] [] fun Γ v Θ => v = .bool false ∧ Θ = Γ := by
  refine Spec.of_body Tryd.func64 rfl Tryd.ntmps64 rfl ?_
  intro w0 Γ
  show S _ w0 [(0, .pointer none), (1, .int .i64 z)] Γ _
  refine S.seq fun K1 hK1 => ?_
  refine S.region rfl ?_
  refine S.op (S.q (q_assign rfl) rfl rfl ?_)
  first | with_reducible refine S.nilK ?_ | refine S.nil ?_
  refine hK1 _ _ ?_
  refine S.seq fun K2 hK2 => ?_
  refine S.regionG ?_
  refine S.g_op rfl (S.q (q_move rfl) rfl rfl ?_)
  refine S.g_op rfl (S.q (q_neN Tryd.underlying25 rfl rfl) rfl rfl ?_)
  refine S.g_op rfl (S.q (q_move rfl) rfl rfl ?_)
  refine S.g_no rfl rfl rfl (rfl) rfl rfl ?_
  refine S.g_no rfl rfl rfl (rfl) rfl rfl ?_
  refine S.g_op rfl (S.q (q_pickF rfl (rfl) rfl) rfl rfl ?_)
  refine S.g_op rfl (S.q (q_move rfl) rfl rfl ?_)
  refine S.g_no rfl rfl rfl (rfl) rfl rfl ?_
  refine S.g_no rfl rfl rfl (rfl) rfl rfl ?_
  refine S.g_no rfl rfl rfl (rfl) rfl rfl ?_
  refine S.g_no rfl rfl rfl (rfl) rfl rfl ?_
  refine S.g_no rfl rfl rfl (rfl) rfl rfl ?_
  refine S.g_no rfl rfl rfl (rfl) rfl rfl ?_
  refine S.g_op rfl (S.q (q_pickF rfl (rfl) rfl) rfl rfl ?_)
  refine S.g_op rfl (S.q (q_assign rfl) rfl rfl ?_)
  first | with_reducible refine S.g_nilK ?_ | refine S.g_nil ?_
  refine hK2 _ _ ?_
  refine S.ret ?_
  with_reducible repeat (first | refine S.then_n ?_ | refine S.then_x ?_ | refine S.then_r ?_ | refine S.inBlock_n ?_ | refine S.inBlock_r ?_ | refine S.inBlock_x rfl ?_ | refine S.noGoto_r ?_ | refine S.noGoto_n ?_ | refine S.noGoto_x ?_)
  exact S.fin (rs := [_]) (vs := [_]) Tryd.results64 (⟨rfl, trivial⟩)  (⟨rfl, rfl⟩) Sub.ent
theorem rowNil_S (z : Int) : Spec Tryd.prog 63 [.pointer none, .int .i64 z] [] fun Γ v Θ => v = .bool false ∧ Θ = Γ := by
  refine Spec.of_body Tryd.func63 rfl Tryd.ntmps63 rfl ?_
  intro w0 Γ
  show S _ w0 [(0, .pointer none), (1, .int .i64 z)] Γ _
  refine S.seq fun K1 hK1 => ?_
  refine S.region rfl ?_
  refine S.op (S.q (q_assign rfl) rfl rfl ?_)
  first | with_reducible refine S.nilK ?_ | refine S.nil ?_
  refine hK1 _ _ ?_
  refine S.seq fun K2 hK2 => ?_
  refine S.regionG ?_
  refine S.g_op rfl (S.q (q_move rfl) rfl rfl ?_)
  refine S.g_op rfl (S.q (q_neN Tryd.underlying25 rfl rfl) rfl rfl ?_)
  refine S.g_op rfl (S.q (q_move rfl) rfl rfl ?_)
  refine S.g_no rfl rfl rfl (rfl) rfl rfl ?_
  refine S.g_no rfl rfl rfl (rfl) rfl rfl ?_
  refine S.g_op rfl (S.q (q_pickF rfl (rfl) rfl) rfl rfl ?_)
  refine S.g_op rfl (S.q (q_move rfl) rfl rfl ?_)
  refine S.g_no rfl rfl rfl (rfl) rfl rfl ?_
  refine S.g_no rfl rfl rfl (rfl) rfl rfl ?_
  refine S.g_no rfl rfl rfl (rfl) rfl rfl ?_
  refine S.g_no rfl rfl rfl (rfl) rfl rfl ?_
  refine S.g_no rfl rfl rfl (rfl) rfl rfl ?_
  refine S.g_no rfl rfl rfl (rfl) rfl rfl ?_
  refine S.g_op rfl (S.q (q_pickF rfl (rfl) rfl) rfl rfl ?_)
  refine S.g_op rfl (S.q (q_assign rfl) rfl rfl ?_)
  first | with_reducible refine S.g_nilK ?_ | refine S.g_nil ?_
  refine hK2 _ _ ?_
  refine S.ret ?_
  with_reducible repeat (first | refine S.then_n ?_ | refine S.then_x ?_ | refine S.then_r ?_ | refine S.inBlock_n ?_ | refine S.inBlock_r ?_ | refine S.inBlock_x rfl ?_ | refine S.noGoto_r ?_ | refine S.noGoto_n ?_ | refine S.noGoto_x ?_)
  exact S.fin (rs := [_]) (vs := [_]) Tryd.results63 (⟨rfl, trivial⟩)  (⟨rfl, rfl⟩) Sub.ent
theorem NCopy_S  : Spec Tryd.prog 25 [.pointer none] [] fun Γ v Θ => v = .pointer none ∧ Θ = Γ := by
  refine Spec.of_body Tryd.func25 rfl Tryd.ntmps25 rfl ?_
  intro w0 Γ
  show S _ w0 [(0, .pointer none)] Γ _
  refine S.seq fun K1 hK1 => ?_
  refine S.region rfl ?_
  refine S.op (S.q (q_assign rfl) rfl rfl ?_)
  first | with_reducible refine S.nilK ?_ | refine S.nil ?_
  refine hK1 _ _ ?_
  refine S.seq fun K2 hK2 => ?_
  refine S.seq fun K3 hK3 => ?_
  refine S.region rfl ?_
  refine S.op (S.q (q_move rfl) rfl rfl ?_)
  refine S.op (S.q (q_eqN Tryd.underlying25 rfl rfl) rfl rfl ?_)
  first | with_reducible refine S.nilK ?_ | refine S.nil ?_
  refine hK3 _ _ ?_
  refine S.condT rfl ?_
  refine S.seq fun K4 hK4 => ?_
  refine S.region rfl ?_
  refine S.op (S.q (q_assign rfl) rfl rfl ?_)
  first | with_reducible refine S.nilK ?_ | refine S.nil ?_
  refine hK4 _ _ ?_
  refine S.ret ?_
  with_reducible repeat (first | refine S.then_n ?_ | refine S.then_x ?_ | refine S.then_r ?_ | refine S.inBlock_n ?_ | refine S.inBlock_r ?_ | refine S.inBlock_x rfl ?_ | refine S.noGoto_r ?_ | refine S.noGoto_n ?_ | refine S.noGoto_x ?_)
  exact S.fin (rs := [_]) (vs := [_]) Tryd.results25 (⟨rfl, trivial⟩)  (⟨rfl, rfl⟩) Sub.ent
theorem NSize_S  : Spec Tryd.prog 37 [.pointer none] [] fun Γ v Θ => v = .tuple #[.int .i64 0, .int .i64 0] ∧ Θ = Γ := by
  refine Spec.of_body Tryd.func37 rfl Tryd.ntmps37 rfl ?_
  intro w0 Γ
  show S _ w0 [(0, .pointer none)] Γ _
  refine S.seq fun K1 hK1 => ?_
  refine S.region rfl ?_
  refine S.op (S.q (q_assign rfl) rfl rfl ?_)
  refine S.op (S.q (q_assign rfl) rfl rfl ?_)
  first | with_reducible refine S.nilK ?_ | refine S.nil ?_
  refine hK1 _ _ ?_
  refine S.seq fun K2 hK2 => ?_
  refine S.seq fun K3 hK3 => ?_
  refine S.region rfl ?_
  refine S.op (S.q (q_move rfl) rfl rfl ?_)
  refine S.op (S.q (q_eqN Tryd.underlying25 rfl rfl) rfl rfl ?_)
  first | with_reducible refine S.nilK ?_ | refine S.nil ?_
  refine hK3 _ _ ?_
  refine S.condT rfl ?_
  refine S.seq fun K4 hK4 => ?_
  refine S.region rfl ?_
  refine S.op (S.q (q_assign rfl) rfl rfl ?_)
  refine S.op (S.q (q_assign rfl) rfl rfl ?_)
  first | with_reducible refine S.nilK ?_ | refine S.nil ?_
  refine hK4 _ _ ?_
  refine S.ret ?_
  with_reducible repeat (first | refine S.then_n ?_ | refine S.then_x ?_ | refine S.then_r ?_ | refine S.inBlock_n ?_ | refine S.inBlock_r ?_ | refine S.inBlock_x rfl ?_ | refine S.noGoto_r ?_ | refine S.noGoto_n ?_ | refine S.noGoto_x ?_)
  exact S.fin (rs := [_, _]) (vs := [_, _]) Tryd.results37 (⟨rfl, rfl, trivial⟩)  (⟨rfl, rfl⟩) Sub.ent
theorem NPlace_S (j k : Int) : Spec Tryd.prog 27 [.pointer none, .int .u32 j, .int .i64 k] [] fun Γ v Θ => v = .tuple #[.int .i64 0, SV.nil.v, .int .i64 6] ∧ Θ = Γ := by
  refine Spec.of_body Tryd.func27 rfl Tryd.ntmps27 rfl ?_
  intro w0 Γ
  show S _ w0 [(0, .pointer none), (1, .int .u32 j), (2, .int .i64 k)] Γ _
  refine S.seq fun K1 hK1 => ?_
  refine S.region rfl ?_
  refine S.op (S.q (q_assign rfl) rfl rfl ?_)
  refine S.op (S.q (q_assign rfl) rfl rfl ?_)
  refine S.op (S.q (q_assign rfl) rfl rfl ?_)
  first | with_reducible refine S.nilK ?_ | refine S.nil ?_
  refine hK1 _ _ ?_
  refine S.seq fun K2 hK2 => ?_
  refine S.block ?_
  refine S.seq fun K3 hK3 => ?_
  refine S.region rfl ?_
  refine S.op (S.q (q_move rfl) rfl rfl ?_)
  refine S.op (S.q (q_eqN Tryd.underlying25 rfl rfl) rfl rfl ?_)
  refine S.op (S.q (q_assign rfl) rfl rfl ?_)
  first | with_reducible refine S.nilK ?_ | refine S.nil ?_
  refine hK3 _ _ ?_
  refine S.condT rfl ?_
  refine S.seq fun K4 hK4 => ?_
  refine S.region rfl ?_
  refine S.op (S.q (q_assign rfl) rfl rfl ?_)
  refine S.op (S.q (q_assign rfl) rfl rfl ?_)
  refine S.op (S.q (q_assign rfl) rfl rfl ?_)
  first | with_reducible refine S.nilK ?_ | refine S.nil ?_
  refine hK4 _ _ ?_
  refine S.ret ?_
  with_reducible repeat (first | refine S.then_n ?_ | refine S.then_x ?_ | refine S.then_r ?_ | refine S.inBlock_n ?_ | refine S.inBlock_r ?_ | refine S.inBlock_x rfl ?_ | refine S.noGoto_r ?_ | refine S.noGoto_n ?_ | refine S.noGoto_x ?_)
  exact S.fin (rs := [_, _, _]) (vs := [_, _, _]) Tryd.results27 (⟨rfl, rfl, rfl, trivial⟩)  (⟨rfl, rfl⟩) Sub.ent
theorem NPut_S (j z : Int) (s : SV) : Spec Tryd.prog 30 [.pointer none, .int .u32 j, .int .i64 z, s.v] [] fun Γ v Θ => v = .int .i64 6 ∧ Θ = Γ := by
  refine Spec.of_body Tryd.func30 rfl Tryd.ntmps30 rfl ?_
  intro w0 Γ
  show S _ w0 [(0, .pointer none), (1, .int .u32 j), (2, .int .i64 z), (3, s.v)] Γ _
  refine S.seq fun K1 hK1 => ?_
  refine S.region rfl ?_
  refine S.op (S.q (q_assign rfl) rfl rfl ?_)
  first | with_reducible refine S.nilK ?_ | refine S.nil ?_
  refine hK1 _ _ ?_
  refine S.seq fun K2 hK2 => ?_
  refine S.seq fun K3 hK3 => ?_
  refine S.region rfl ?_
  refine S.op (S.q (q_move rfl) rfl rfl ?_)
  refine S.op (S.q (q_eqN Tryd.underlying25 rfl rfl) rfl rfl ?_)
  first | with_reducible refine S.nilK ?_ | refine S.nil ?_
  refine hK3 _ _ ?_
  refine S.condT rfl ?_
  refine S.seq fun K4 hK4 => ?_
  refine S.region rfl ?_
  refine S.op (S.q (q_assign rfl) rfl rfl ?_)
  first | with_reducible refine S.nilK ?_ | refine S.nil ?_
  refine hK4 _ _ ?_
  refine S.ret ?_
  with_reducible repeat (first | refine S.then_n ?_ | refine S.then_x ?_ | refine S.then_r ?_ | refine S.inBlock_n ?_ | refine S.inBlock_r ?_ | refine S.inBlock_x rfl ?_ | refine S.noGoto_r ?_ | refine S.noGoto_n ?_ | refine S.noGoto_x ?_)
  exact S.fin (rs := [_]) (vs := [_]) Tryd.results30 (⟨rfl, trivial⟩)  (⟨rfl, rfl⟩) Sub.ent
theorem NRemove_S (j : Int) : Spec Tryd.prog 32 [.pointer none, .int .u32 j] [] fun Γ v Θ => v = .int .i64 6 ∧ Θ = Γ := by
  refine Spec.of_body Tryd.func32 rfl Tryd.ntmps32 rfl ?_
  intro w0 Γ
  show S _ w0 [(0, .pointer none), (1, .int .u32 j)] Γ _
  refine S.seq fun K1 hK1 => ?_
  refine S.region rfl ?_
  refine S.op (S.q (q_assign rfl) rfl rfl ?_)
  first | with_reducible refine S.nilK ?_ | refine S.nil ?_
  refine hK1 _ _ ?_
  refine S.seq fun K2 hK2 => ?_
  refine S.seq fun K3 hK3 => ?_
  refine S.regionG ?_
  refine S.g_op rfl (S.q (q_move rfl) rfl rfl ?_)
  refine S.g_op rfl (S.q (q_eqN Tryd.underlying25 rfl rfl) rfl rfl ?_)
  refine S.g_op rfl (S.q (q_move rfl) rfl rfl ?_)
  refine S.g_no rfl rfl rfl (rfl) rfl rfl ?_
  refine S.g_no rfl rfl rfl (rfl) rfl rfl ?_
  refine S.g_no rfl rfl rfl (rfl) rfl rfl ?_
  refine S.g_no rfl rfl rfl (rfl) rfl rfl ?_
  refine S.g_op rfl (S.q (q_pickT rfl (rfl) rfl) rfl rfl ?_)
  first | with_reducible refine S.g_nilK ?_ | refine S.g_nil ?_
  refine hK3 _ _ ?_
  refine S.condT rfl ?_
  refine S.seq fun K4 hK4 => ?_
  refine S.region rfl ?_
  refine S.op (S.q (q_assign rfl) rfl rfl ?_)
  first | with_reducible refine S.nilK ?_ | refine S.nil ?_
  refine hK4 _ _ ?_
  refine S.ret ?_
  with_reducible repeat (first | refine S.then_n ?_ | refine S.then_x ?_ | refine S.then_r ?_ | refine S.inBlock_n ?_ | refine S.inBlock_r ?_ | refine S.inBlock_x rfl ?_ | refine S.noGoto_r ?_ | refine S.noGoto_n ?_ | refine S.noGoto_x ?_)
  exact S.fin (rs := [_]) (vs := [_]) Tryd.results32 (⟨rfl, trivial⟩)  (⟨rfl, rfl⟩) Sub.ent
theorem NUp_S (z : Int) (on : Bool) : Spec Tryd.prog 34 [.pointer none, .int .i64 z, .bool on] [] fun Γ v Θ => v = .int .i64 6 ∧ Θ = Γ := by
  refine Spec.of_body Tryd.func34 rfl Tryd.ntmps34 rfl ?_
  intro w0 Γ
  show S _ w0 [(0, .pointer none), (1, .int .i64 z), (2, .bool on)] Γ _
  refine S.seq fun K1 hK1 => ?_
  refine S.region rfl ?_
  refine S.op (S.q (q_assign rfl) rfl rfl ?_)
  first | with_reducible refine S.nilK ?_ | refine S.nil ?_
  refine hK1 _ _ ?_
  refine S.seq fun K2 hK2 => ?_
  refine S.block ?_
  refine S.seq fun K3 hK3 => ?_
  refine S.region rfl ?_
  refine S.op (S.q (q_move rfl) rfl rfl ?_)
  refine S.op (S.q (q_eqN Tryd.underlying25 rfl rfl) rfl rfl ?_)
  refine S.op (S.q (q_assign rfl) rfl rfl ?_)
  first | with_reducible refine S.nilK ?_ | refine S.nil ?_
  refine hK3 _ _ ?_
  refine S.condT rfl ?_
  refine S.seq fun K4 hK4 => ?_
  refine S.region rfl ?_
  refine S.op (S.q (q_assign rfl) rfl rfl ?_)
  first | with_reducible refine S.nilK ?_ | refine S.nil ?_
  refine hK4 _ _ ?_
  refine S.ret ?_
  with_reducible repeat (first | refine S.then_n ?_ | refine S.then_x ?_ | refine S.then_r ?_ | refine S.inBlock_n ?_ | refine S.inBlock_r ?_ | refine S.inBlock_x rfl ?_ | refine S.noGoto_r ?_ | refine S.noGoto_n ?_ | refine S.noGoto_x ?_)
  exact S.fin (rs := [_]) (vs := [_]) Tryd.results34 (⟨rfl, trivial⟩)  (⟨rfl, rfl⟩) Sub.ent
theorem NIsUp_S (z : Int) : Spec Tryd.prog 35 [.pointer none, .int .i64 z] [] fun Γ v Θ => v = .bool false ∧ Θ = Γ := by
  refine Spec.of_body Tryd.func35 rfl Tryd.ntmps35 rfl ?_
  intro w0 Γ
  show S _ w0 [(0, .pointer none), (1, .int .i64 z)] Γ _
  refine S.seq fun K1 hK1 => ?_
  refine S.region rfl ?_
  refine S.op (S.q (q_assign rfl) rfl rfl ?_)
  first | with_reducible refine S.nilK ?_ | refine S.nil ?_
  refine hK1 _ _ ?_
  refine S.seq fun K2 hK2 => ?_
  refine S.regionG ?_
  refine S.g_op rfl (S.q (q_move rfl) rfl rfl ?_)
  refine S.g_op rfl (S.q (q_move rfl) rfl rfl ?_)
  refine S.g_op rfl (S.call Tryd.en64 (vs := [_, _]) ⟨rfl, rfl, trivial⟩ (nodeNil_S z) rfl ?_)
  rintro v Θ ⟨rfl, hG⟩
  rw [hG]
  refine S.g_op rfl (S.q (q_move rfl) rfl rfl ?_)
  refine S.g_no rfl rfl rfl (rfl) rfl rfl ?_
  refine S.g_no rfl rfl rfl (rfl) rfl rfl ?_
  refine S.g_no rfl rfl rfl (rfl) rfl rfl ?_
  refine S.g_no rfl rfl rfl (rfl) rfl rfl ?_
  refine S.g_no rfl rfl rfl (rfl) rfl rfl ?_
  refine S.g_no rfl rfl rfl (rfl) rfl rfl ?_
  refine S.g_op rfl (S.q (q_pickF rfl (rfl) rfl) rfl rfl ?_)
  refine S.g_op rfl (S.q (q_assign rfl) rfl rfl ?_)
  first | with_reducible refine S.g_nilK ?_ | refine S.g_nil ?_
  refine hK2 _ _ ?_
  refine S.ret ?_
  with_reducible repeat (first | refine S.then_n ?_ | refine S.then_x ?_ | refine S.then_r ?_ | refine S.inBlock_n ?_ | refine S.inBlock_r ?_ | refine S.inBlock_x rfl ?_ | refine S.noGoto_r ?_ | refine S.noGoto_n ?_ | refine S.noGoto_x ?_)
  exact S.fin (rs := [_]) (vs := [_]) Tryd.results35 (⟨rfl, trivial⟩)  (⟨rfl, rfl⟩) Sub.ent
theorem NNext_S (z : Int) : Spec Tryd.prog 54 [.pointer none, .int .i64 z] [] fun Γ v Θ => v = .tuple #[.int .i64 0, .bool false] ∧ Θ = Γ := by
  refine Spec.of_body Tryd.func54 rfl Tryd.ntmps54 rfl ?_
  intro w0 Γ
  show S _ w0 [(0, .pointer none), (1, .int .i64 z)] Γ _
  refine S.seq fun K1 hK1 => ?_
  refine S.region rfl ?_
  refine S.op (S.q (q_assign rfl) rfl rfl ?_)
  refine S.op (S.q (q_assign rfl) rfl rfl ?_)
  first | with_reducible refine S.nilK ?_ | refine S.nil ?_
  refine hK1 _ _ ?_
  refine S.seq fun K2 hK2 => ?_
  refine S.seq fun K3 hK3 => ?_
  refine S.region rfl ?_
  refine S.op (S.q (q_move rfl) rfl rfl ?_)
  refine S.op (S.q (q_eqN Tryd.underlying25 rfl rfl) rfl rfl ?_)
  first | with_reducible refine S.nilK ?_ | refine S.nil ?_
  refine hK3 _ _ ?_
  refine S.condT rfl ?_
  refine S.seq fun K4 hK4 => ?_
  refine S.region rfl ?_
  refine S.op (S.q (q_assign rfl) rfl rfl ?_)
  refine S.op (S.q (q_assign rfl) rfl rfl ?_)
  first | with_reducible refine S.nilK ?_ | refine S.nil ?_
  refine hK4 _ _ ?_
  refine S.ret ?_
  with_reducible repeat (first | refine S.then_n ?_ | refine S.then_x ?_ | refine S.then_r ?_ | refine S.inBlock_n ?_ | refine S.inBlock_r ?_ | refine S.inBlock_x rfl ?_ | refine S.noGoto_r ?_ | refine S.noGoto_n ?_ | refine S.noGoto_x ?_)
  exact S.fin (rs := [_, _]) (vs := [_, _]) Tryd.results54 (⟨rfl, rfl, trivial⟩)  (⟨rfl, rfl⟩) Sub.ent
theorem NJobs_S  : Spec Tryd.prog 66 [.pointer none] [] fun Γ v Θ => v = SV.nil.v ∧ Θ = Γ := by
  refine Spec.of_body Tryd.func66 rfl Tryd.ntmps66 rfl ?_
  intro w0 Γ
  show S _ w0 [(0, .pointer none)] Γ _
  refine S.seq fun K1 hK1 => ?_
  refine S.region rfl ?_
  refine S.op (S.q (q_assign rfl) rfl rfl ?_)
  first | with_reducible refine S.nilK ?_ | refine S.nil ?_
  refine hK1 _ _ ?_
  refine S.seq fun K2 hK2 => ?_
  refine S.seq fun K3 hK3 => ?_
  refine S.region rfl ?_
  refine S.op (S.q (q_move rfl) rfl rfl ?_)
  refine S.op (S.q (q_eqN Tryd.underlying25 rfl rfl) rfl rfl ?_)
  first | with_reducible refine S.nilK ?_ | refine S.nil ?_
  refine hK3 _ _ ?_
  refine S.condT rfl ?_
  refine S.seq fun K4 hK4 => ?_
  refine S.region rfl ?_
  refine S.op (S.q (q_assign rfl) rfl rfl ?_)
  first | with_reducible refine S.nilK ?_ | refine S.nil ?_
  refine hK4 _ _ ?_
  refine S.ret ?_
  with_reducible repeat (first | refine S.then_n ?_ | refine S.then_x ?_ | refine S.then_r ?_ | refine S.inBlock_n ?_ | refine S.inBlock_r ?_ | refine S.inBlock_x rfl ?_ | refine S.noGoto_r ?_ | refine S.noGoto_n ?_ | refine S.noGoto_x ?_)
  exact S.fin (rs := [_]) (vs := [_]) Tryd.results66 (⟨rfl, trivial⟩)  (⟨rfl, rfl⟩) Sub.ent
theorem NAt_S (z y : Int) : Spec Tryd.prog 47 [.pointer none, .int .i64 z, .int .i64 y] [] fun Γ v Θ => v = .int .u32 0 ∧ Θ = Γ := by
  refine Spec.of_body Tryd.func47 rfl Tryd.ntmps47 rfl ?_
  intro w0 Γ
  show S _ w0 [(0, .pointer none), (1, .int .i64 z), (2, .int .i64 y)] Γ _
  refine S.seq fun K1 hK1 => ?_
  refine S.region rfl ?_
  refine S.op (S.q (q_assign rfl) rfl rfl ?_)
  first | with_reducible refine S.nilK ?_ | refine S.nil ?_
  refine hK1 _ _ ?_
  refine S.seq fun K2 hK2 => ?_
  refine S.seq fun K3 hK3 => ?_
  refine S.regionG ?_
  refine S.g_op rfl (S.q (q_move rfl) rfl rfl ?_)
  refine S.g_op rfl (S.q (q_move rfl) rfl rfl ?_)
  refine S.g_op rfl (S.call Tryd.en63 (vs := [_, _]) ⟨rfl, rfl, trivial⟩ (rowNil_S z) rfl ?_)
  rintro v Θ ⟨rfl, hG⟩
  rw [hG]
  refine S.g_op rfl (S.q (q_move rfl) rfl rfl ?_)
  refine S.g_no rfl rfl rfl (rfl) rfl rfl ?_
  refine S.g_no rfl rfl rfl (rfl) rfl rfl ?_
  refine S.g_no rfl rfl rfl (rfl) rfl rfl ?_
  refine S.g_op rfl (S.q (q_pickF rfl (rfl) rfl) rfl rfl ?_)
  first | with_reducible refine S.g_nilK ?_ | refine S.g_nil ?_
  refine hK3 _ _ ?_
  refine S.condF rfl ?_
  refine S.skip ?_
  with_reducible repeat (first | refine S.then_n ?_ | refine S.then_x ?_ | refine S.then_r ?_ | refine S.inBlock_n ?_ | refine S.inBlock_r ?_ | refine S.inBlock_x rfl ?_ | refine S.noGoto_r ?_ | refine S.noGoto_n ?_ | refine S.noGoto_x ?_)
  refine hK2 _ _ ?_
  refine S.seq fun K4 hK4 => ?_
  refine S.region rfl ?_
  refine S.op (S.q (q_assign rfl) rfl rfl ?_)
  first | with_reducible refine S.nilK ?_ | refine S.nil ?_
  refine hK4 _ _ ?_
  refine S.ret ?_
  with_reducible repeat (first | refine S.then_n ?_ | refine S.then_x ?_ | refine S.then_r ?_ | refine S.inBlock_n ?_ | refine S.inBlock_r ?_ | refine S.inBlock_x rfl ?_ | refine S.noGoto_r ?_ | refine S.noGoto_n ?_ | refine S.noGoto_x ?_)
  exact S.fin (rs := [_]) (vs := [_]) Tryd.results47 (⟨rfl, trivial⟩)  (⟨rfl, rfl⟩) Sub.ent
theorem NRow_S (z : Int) : Spec Tryd.prog 52 [.pointer none, .int .i64 z] [] fun Γ v Θ => v = SV.nil.v ∧ Θ = Γ := by
  refine Spec.of_body Tryd.func52 rfl Tryd.ntmps52 rfl ?_
  intro w0 Γ
  show S _ w0 [(0, .pointer none), (1, .int .i64 z)] Γ _
  refine S.seq fun K1 hK1 => ?_
  refine S.region rfl ?_
  refine S.op (S.box (cs := [_]) rfl rfl rfl ?_)
  intro b2
  refine S.op (S.q (q_assign rfl) rfl rfl ?_)
  first | with_reducible refine S.nilK ?_ | refine S.nil ?_
  refine hK1 _ _ ?_
  refine S.seq fun K2 hK2 => ?_
  refine S.seq fun K3 hK3 => ?_
  refine S.region rfl ?_
  refine S.op (S.q (q_load Tryd.at25 rfl rfl) rfl rfl ?_)
  refine S.op (S.q (q_move rfl) rfl rfl ?_)
  refine S.op (S.call Tryd.en63 (vs := [_, _]) ⟨rfl, rfl, trivial⟩ (rowNil_S z) rfl ?_)
  rintro v Θ ⟨rfl, hG⟩
  rw [hG]
  refine S.op (S.q (q_not rfl) rfl rfl ?_)
  first | with_reducible refine S.nilK ?_ | refine S.nil ?_
  refine hK3 _ _ ?_
  refine S.condT rfl ?_
  refine S.seq fun K4 hK4 => ?_
  refine S.region rfl ?_
  refine S.op (S.q (q_assign rfl) rfl rfl ?_)
  first | with_reducible refine S.nilK ?_ | refine S.nil ?_
  refine hK4 _ _ ?_
  refine S.ret ?_
  with_reducible repeat (first | refine S.then_n ?_ | refine S.then_x ?_ | refine S.then_r ?_ | refine S.inBlock_n ?_ | refine S.inBlock_r ?_ | refine S.inBlock_x rfl ?_ | refine S.noGoto_r ?_ | refine S.noGoto_n ?_ | refine S.noGoto_x ?_)
  exact S.fin (rs := [_]) (vs := [_]) Tryd.results52 (⟨rfl, trivial⟩)  (⟨rfl, rfl⟩) Sub.ent
theorem NFill_S (z : Int) : Spec Tryd.prog 55 [.pointer none, .int .i64 z] [] fun Γ v Θ => v = SV.nil.v ∧ Θ = Γ := by
  refine Spec.of_body Tryd.func55 rfl Tryd.ntmps55 rfl ?_
  intro w0 Γ
  show S _ w0 [(0, .pointer none), (1, .int .i64 z)] Γ _
  refine S.seq fun K1 hK1 => ?_
  refine S.region rfl ?_
  refine S.op (S.q (q_assign rfl) rfl rfl ?_)
  first | with_reducible refine S.nilK ?_ | refine S.nil ?_
  refine hK1 _ _ ?_
  refine S.seq fun K2 hK2 => ?_
  refine S.seq fun K3 hK3 => ?_
  refine S.region rfl ?_
  refine S.op (S.q (q_move rfl) rfl rfl ?_)
  refine S.op (S.q (q_move rfl) rfl rfl ?_)
  refine S.op (S.call Tryd.en63 (vs := [_, _]) ⟨rfl, rfl, trivial⟩ (rowNil_S z) rfl ?_)
  rintro v Θ ⟨rfl, hG⟩
  rw [hG]
  refine S.op (S.q (q_not rfl) rfl rfl ?_)
  first | with_reducible refine S.nilK ?_ | refine S.nil ?_
  refine hK3 _ _ ?_
  refine S.condT rfl ?_
  refine S.seq fun K4 hK4 => ?_
  refine S.region rfl ?_
  refine S.op (S.q (q_assign rfl) rfl rfl ?_)
  first | with_reducible refine S.nilK ?_ | refine S.nil ?_
  refine hK4 _ _ ?_
  refine S.ret ?_
  with_reducible repeat (first | refine S.then_n ?_ | refine S.then_x ?_ | refine S.then_r ?_ | refine S.inBlock_n ?_ | refine S.inBlock_r ?_ | refine S.inBlock_x rfl ?_ | refine S.noGoto_r ?_ | refine S.noGoto_n ?_ | refine S.noGoto_x ?_)
  exact S.fin (rs := [_]) (vs := [_]) Tryd.results55 (⟨rfl, trivial⟩)  (⟨rfl, rfl⟩) Sub.ent
theorem NFree_S (z : Int) : Spec Tryd.prog 67 [.pointer none, .int .i64 z] [] fun Γ v Θ => v = .int .i64 0 ∧ Θ = Γ := by
  refine Spec.of_body Tryd.func67 rfl Tryd.ntmps67 rfl ?_
  intro w0 Γ
  show S _ w0 [(0, .pointer none), (1, .int .i64 z)] Γ _
  refine S.seq fun K1 hK1 => ?_
  refine S.region rfl ?_
  refine S.op (S.q (q_assign rfl) rfl rfl ?_)
  first | with_reducible refine S.nilK ?_ | refine S.nil ?_
  refine hK1 _ _ ?_
  refine S.seq fun K2 hK2 => ?_
  refine S.seq fun K3 hK3 => ?_
  refine S.region rfl ?_
  refine S.op (S.q (q_move rfl) rfl rfl ?_)
  refine S.op (S.q (q_move rfl) rfl rfl ?_)
  refine S.op (S.call Tryd.en63 (vs := [_, _]) ⟨rfl, rfl, trivial⟩ (rowNil_S z) rfl ?_)
  rintro v Θ ⟨rfl, hG⟩
  rw [hG]
  refine S.op (S.q (q_not rfl) rfl rfl ?_)
  first | with_reducible refine S.nilK ?_ | refine S.nil ?_
  refine hK3 _ _ ?_
  refine S.condT rfl ?_
  refine S.seq fun K4 hK4 => ?_
  refine S.region rfl ?_
  refine S.op (S.q (q_assign rfl) rfl rfl ?_)
  first | with_reducible refine S.nilK ?_ | refine S.nil ?_
  refine hK4 _ _ ?_
  refine S.ret ?_
  with_reducible repeat (first | refine S.then_n ?_ | refine S.then_x ?_ | refine S.then_r ?_ | refine S.inBlock_n ?_ | refine S.inBlock_r ?_ | refine S.inBlock_x rfl ?_ | refine S.noGoto_r ?_ | refine S.noGoto_n ?_ | refine S.noGoto_x ?_)
  exact S.fin (rs := [_]) (vs := [_]) Tryd.results67 (⟨rfl, trivial⟩)  (⟨rfl, rfl⟩) Sub.ent
theorem rCopyNil_S  : Spec Tryd.prog 26 [.pointer none] [] fun Γ v Θ => v = .pointer none ∧ Θ = Γ := by
  refine Spec.of_body Tryd.func26 rfl Tryd.ntmps26 rfl ?_
  intro w0 Γ
  show S _ w0 [(0, .pointer none)] Γ _
  refine S.seq fun K1 hK1 => ?_
  refine S.region rfl ?_
  refine S.op (S.q (q_assign rfl) rfl rfl ?_)
  first | with_reducible refine S.nilK ?_ | refine S.nil ?_
  refine hK1 _ _ ?_
  refine S.seq fun K2 hK2 => ?_
  refine S.seq fun K3 hK3 => ?_
  refine S.region rfl ?_
  refine S.op (S.q (q_move rfl) rfl rfl ?_)
  refine S.op (S.q (q_eqN Tryd.underlying26 rfl rfl) rfl rfl ?_)
  first | with_reducible refine S.nilK ?_ | refine S.nil ?_
  refine hK3 _ _ ?_
  refine S.condT rfl ?_
  refine S.seq fun K4 hK4 => ?_
  refine S.region rfl ?_
  refine S.op (S.q (q_assign rfl) rfl rfl ?_)
  first | with_reducible refine S.nilK ?_ | refine S.nil ?_
  refine hK4 _ _ ?_
  refine S.ret ?_
  with_reducible repeat (first | refine S.then_n ?_ | refine S.then_x ?_ | refine S.then_r ?_ | refine S.inBlock_n ?_ | refine S.inBlock_r ?_ | refine S.inBlock_x rfl ?_ | refine S.noGoto_r ?_ | refine S.noGoto_n ?_ | refine S.noGoto_x ?_)
  exact S.fin (rs := [_]) (vs := [_]) Tryd.results26 (⟨rfl, trivial⟩)  (⟨rfl, rfl⟩) Sub.ent
theorem rPlaceNil_S (j k : Int) : Spec Tryd.prog 28 [.pointer none, .int .u32 j, .int .i64 k] [] fun Γ v Θ => v = .tuple #[.int .i64 0, SV.nil.v, .int .i64 6] ∧ Θ = Γ := by
  refine Spec.of_body Tryd.func28 rfl Tryd.ntmps28 rfl ?_
  intro w0 Γ
  show S _ w0 [(0, .pointer none), (1, .int .u32 j), (2, .int .i64 k)] Γ _
  refine S.seq fun K1 hK1 => ?_
  refine S.region rfl ?_
  refine S.op (S.q (q_assign rfl) rfl rfl ?_)
  refine S.op (S.q (q_assign rfl) rfl rfl ?_)
  refine S.op (S.q (q_assign rfl) rfl rfl ?_)
  first | with_reducible refine S.nilK ?_ | refine S.nil ?_
  refine hK1 _ _ ?_
  refine S.seq fun K2 hK2 => ?_
  refine S.seq fun K3 hK3 => ?_
  refine S.region rfl ?_
  refine S.op (S.q (q_move rfl) rfl rfl ?_)
  refine S.op (S.q (q_eqN Tryd.underlying26 rfl rfl) rfl rfl ?_)
  first | with_reducible refine S.nilK ?_ | refine S.nil ?_
  refine hK3 _ _ ?_
  refine S.condT rfl ?_
  refine S.seq fun K4 hK4 => ?_
  refine S.region rfl ?_
  refine S.op (S.q (q_assign rfl) rfl rfl ?_)
  refine S.op (S.q (q_assign rfl) rfl rfl ?_)
  refine S.op (S.q (q_assign rfl) rfl rfl ?_)
  first | with_reducible refine S.nilK ?_ | refine S.nil ?_
  refine hK4 _ _ ?_
  refine S.ret ?_
  with_reducible repeat (first | refine S.then_n ?_ | refine S.then_x ?_ | refine S.then_r ?_ | refine S.inBlock_n ?_ | refine S.inBlock_r ?_ | refine S.inBlock_x rfl ?_ | refine S.noGoto_r ?_ | refine S.noGoto_n ?_ | refine S.noGoto_x ?_)
  exact S.fin (rs := [_, _, _]) (vs := [_, _, _]) Tryd.results28 (⟨rfl, rfl, rfl, trivial⟩)  (⟨rfl, rfl⟩) Sub.ent
theorem rPutNil_S (j z : Int) (s : SV) : Spec Tryd.prog 31 [.pointer none, .int .u32 j, .int .i64 z, s.v] [] fun Γ v Θ => v = .int .i64 6 ∧ Θ = Γ := by
  refine Spec.of_body Tryd.func31 rfl Tryd.ntmps31 rfl ?_
  intro w0 Γ
  show S _ w0 [(0, .pointer none), (1, .int .u32 j), (2, .int .i64 z), (3, s.v)] Γ _
  refine S.seq fun K1 hK1 => ?_
  refine S.region rfl ?_
  refine S.op (S.q (q_assign rfl) rfl rfl ?_)
  first | with_reducible refine S.nilK ?_ | refine S.nil ?_
  refine hK1 _ _ ?_
  refine S.seq fun K2 hK2 => ?_
  refine S.seq fun K3 hK3 => ?_
  refine S.region rfl ?_
  refine S.op (S.q (q_move rfl) rfl rfl ?_)
  refine S.op (S.q (q_eqN Tryd.underlying26 rfl rfl) rfl rfl ?_)
  first | with_reducible refine S.nilK ?_ | refine S.nil ?_
  refine hK3 _ _ ?_
  refine S.condT rfl ?_
  refine S.seq fun K4 hK4 => ?_
  refine S.region rfl ?_
  refine S.op (S.q (q_assign rfl) rfl rfl ?_)
  first | with_reducible refine S.nilK ?_ | refine S.nil ?_
  refine hK4 _ _ ?_
  refine S.ret ?_
  with_reducible repeat (first | refine S.then_n ?_ | refine S.then_x ?_ | refine S.then_r ?_ | refine S.inBlock_n ?_ | refine S.inBlock_r ?_ | refine S.inBlock_x rfl ?_ | refine S.noGoto_r ?_ | refine S.noGoto_n ?_ | refine S.noGoto_x ?_)
  exact S.fin (rs := [_]) (vs := [_]) Tryd.results31 (⟨rfl, trivial⟩)  (⟨rfl, rfl⟩) Sub.ent
theorem rOfNil_S (j : Int) : Spec Tryd.prog 46 [.pointer none, .int .u32 j] [] fun Γ v Θ => v = .tuple #[.int .i64 0, SV.nil.v, .bool false] ∧ Θ = Γ := by
  refine Spec.of_body Tryd.func46 rfl Tryd.ntmps46 rfl ?_
  intro w0 Γ
  show S _ w0 [(0, .pointer none), (1, .int .u32 j)] Γ _
  refine S.seq fun K1 hK1 => ?_
  refine S.region rfl ?_
  refine S.op (S.q (q_assign rfl) rfl rfl ?_)
  refine S.op (S.q (q_assign rfl) rfl rfl ?_)
  refine S.op (S.q (q_assign rfl) rfl rfl ?_)
  first | with_reducible refine S.nilK ?_ | refine S.nil ?_
  refine hK1 _ _ ?_
  refine S.seq fun K2 hK2 => ?_
  refine S.seq fun K3 hK3 => ?_
  refine S.regionG ?_
  refine S.g_op rfl (S.q (q_move rfl) rfl rfl ?_)
  refine S.g_op rfl (S.q (q_eqN Tryd.underlying26 rfl rfl) rfl rfl ?_)
  refine S.g_op rfl (S.q (q_move rfl) rfl rfl ?_)
  refine S.g_no rfl rfl rfl (rfl) rfl rfl ?_
  refine S.g_no rfl rfl rfl (rfl) rfl rfl ?_
  refine S.g_op rfl (S.q (q_pickT rfl (rfl) rfl) rfl rfl ?_)
  first | with_reducible refine S.g_nilK ?_ | refine S.g_nil ?_
  refine hK3 _ _ ?_
  refine S.condT rfl ?_
  refine S.seq fun K4 hK4 => ?_
  refine S.region rfl ?_
  refine S.op (S.q (q_assign rfl) rfl rfl ?_)
  refine S.op (S.q (q_assign rfl) rfl rfl ?_)
  refine S.op (S.q (q_assign rfl) rfl rfl ?_)
  first | with_reducible refine S.nilK ?_ | refine S.nil ?_
  refine hK4 _ _ ?_
  refine S.ret ?_
  with_reducible repeat (first | refine S.then_n ?_ | refine S.then_x ?_ | refine S.then_r ?_ | refine S.inBlock_n ?_ | refine S.inBlock_r ?_ | refine S.inBlock_x rfl ?_ | refine S.noGoto_r ?_ | refine S.noGoto_n ?_ | refine S.noGoto_x ?_)
  exact S.fin (rs := [_, _, _]) (vs := [_, _, _]) Tryd.results46 (⟨rfl, rfl, rfl, trivial⟩)  (⟨rfl, rfl⟩) Sub.ent
theorem rRemoveNil_S (j : Int) : Spec Tryd.prog 33 [.pointer none, .int .u32 j] [] fun Γ v Θ => v = .int .i64 6 ∧ Θ = Γ := by
  refine Spec.of_body Tryd.func33 rfl Tryd.ntmps33 rfl ?_
  intro w0 Γ
  show S _ w0 [(0, .pointer none), (1, .int .u32 j)] Γ _
  refine S.seq fun K1 hK1 => ?_
  refine S.region rfl ?_
  refine S.op (S.q (q_assign rfl) rfl rfl ?_)
  first | with_reducible refine S.nilK ?_ | refine S.nil ?_
  refine hK1 _ _ ?_
  refine S.seq fun K2 hK2 => ?_
  refine S.region rfl ?_
  refine S.op (S.q (q_move rfl) rfl rfl ?_)
  refine S.op (S.q (q_move rfl) rfl rfl ?_)
  refine S.op (S.call Tryd.en46 (vs := [_, _]) ⟨rfl, rfl, trivial⟩ (rOfNil_S j) rfl ?_)
  rintro v Θ ⟨rfl, hG⟩
  rw [hG]
  refine S.op (S.q (q_move rfl) rfl rfl ?_)
  refine S.op (S.q (q_extract rfl rfl) rfl rfl ?_)
  refine S.op (S.q (q_extract rfl rfl) rfl rfl ?_)
  refine S.op (S.q (q_extract rfl rfl) rfl rfl ?_)
  refine S.op (S.q (q_assign rfl) rfl rfl ?_)
  refine S.op (S.q (q_assign rfl) rfl rfl ?_)
  refine S.op (S.q (q_assign rfl) rfl rfl ?_)
  first | with_reducible refine S.nilK ?_ | refine S.nil ?_
  refine hK2 _ _ ?_
  refine S.seq fun K3 hK3 => ?_
  refine S.seq fun K4 hK4 => ?_
  refine S.region rfl ?_
  refine S.op (S.q (q_move rfl) rfl rfl ?_)
  refine S.op (S.q (q_not rfl) rfl rfl ?_)
  first | with_reducible refine S.nilK ?_ | refine S.nil ?_
  refine hK4 _ _ ?_
  refine S.condT rfl ?_
  refine S.seq fun K5 hK5 => ?_
  refine S.region rfl ?_
  refine S.op (S.q (q_assign rfl) rfl rfl ?_)
  first | with_reducible refine S.nilK ?_ | refine S.nil ?_
  refine hK5 _ _ ?_
  refine S.ret ?_
  with_reducible repeat (first | refine S.then_n ?_ | refine S.then_x ?_ | refine S.then_r ?_ | refine S.inBlock_n ?_ | refine S.inBlock_r ?_ | refine S.inBlock_x rfl ?_ | refine S.noGoto_r ?_ | refine S.noGoto_n ?_ | refine S.noGoto_x ?_)
  exact S.fin (rs := [_]) (vs := [_]) Tryd.results33 (⟨rfl, trivial⟩)  (⟨rfl, rfl⟩) Sub.ent
theorem NewBad_S (r n : Int) (h : ¬ (1 ≤ r ∧ r ≤ 8 ∧ 1 ≤ n ∧ n ≤ 16)) : Spec Tryd.prog 23 [.int .i64 r, .int .i64 n] [] fun Γ v Θ => v = .tuple #[.pointer none, .int .i64 1] ∧ Θ = Γ := by
  refine Spec.of_body Tryd.func23 rfl Tryd.ntmps23 rfl ?_
  intro w0 Γ
  show S _ w0 [(0, .int .i64 r), (1, .int .i64 n)] Γ _
  refine S.seq fun K1 hK1 => ?_
  refine S.region rfl ?_
  refine S.op (S.q (q_assign rfl) rfl rfl ?_)
  refine S.op (S.q (q_assign rfl) rfl rfl ?_)
  first | with_reducible refine S.nilK ?_ | refine S.nil ?_
  refine hK1 _ _ ?_
  refine S.seq fun K2 hK2 => ?_
  refine S.seq fun K3 hK3 => ?_
  refine S.cut (fun ρ' Γ' => ρ' = [(0, .int .i64 r), (1, .int .i64 n), (19, .bool true)] ∧ Γ' = Γ) ?_ ?_
  · refine S.regionG ?_
    refine S.g_op rfl (S.q (q_move rfl) rfl rfl ?_)
    refine S.g_op rfl (S.q (q_lt rfl rfl) rfl rfl ?_)
    refine S.g_op rfl (S.q (q_move rfl) rfl rfl ?_)
    by_cases hg1_2 : r < 1
    · refine S.g_no rfl rfl rfl (decide_eq_true hg1_2) rfl rfl ?_
      refine S.g_no rfl rfl rfl (decide_eq_true hg1_2) rfl rfl ?_
      refine S.g_op rfl (S.q (q_pickT rfl (decide_eq_true hg1_2) rfl) rfl rfl ?_)
      refine S.g_op rfl (S.q (q_move rfl) rfl rfl ?_)
      refine S.g_no rfl rfl rfl (rfl) rfl rfl ?_
      refine S.g_no rfl rfl rfl (rfl) rfl rfl ?_
      refine S.g_op rfl (S.q (q_pickT rfl (rfl) rfl) rfl rfl ?_)
      refine S.g_op rfl (S.q (q_move rfl) rfl rfl ?_)
      refine S.g_no rfl rfl rfl (rfl) rfl rfl ?_
      refine S.g_no rfl rfl rfl (rfl) rfl rfl ?_
      refine S.g_op rfl (S.q (q_pickT rfl (rfl) rfl) rfl rfl ?_)
      first | with_reducible refine S.g_nilK ?_ | refine S.g_nil ?_
      with_reducible repeat (first | refine S.then_n ?_ | refine S.then_x ?_ | refine S.then_r ?_ | refine S.inBlock_n ?_ | refine S.inBlock_r ?_ | refine S.inBlock_x rfl ?_ | refine S.noGoto_r ?_ | refine S.noGoto_n ?_ | refine S.noGoto_x ?_)
      first | exact S.meet ⟨rfl, rfl⟩ ⟨rfl, rfl, rfl, trivial⟩ Sub.ent | (rw [show decide ((16 : Int) < n) = true from decide_eq_true (by omega)]; exact S.meet ⟨rfl, rfl⟩ ⟨rfl, rfl, rfl, trivial⟩ Sub.ent)
    · refine S.g_yes rfl rfl rfl (decide_eq_false hg1_2) (S.q (q_move rfl) rfl rfl ?_)
      refine S.g_yes rfl rfl rfl (decide_eq_false hg1_2) (S.q (q_gt rfl rfl) rfl rfl ?_)
      refine S.g_op rfl (S.q (q_pickF rfl (decide_eq_false hg1_2) rfl) rfl rfl ?_)
      refine S.g_op rfl (S.q (q_move rfl) rfl rfl ?_)
      by_cases hg1_6 : (8 : Int) < r
      · refine S.g_no rfl rfl rfl (decide_eq_true hg1_6) rfl rfl ?_
        refine S.g_no rfl rfl rfl (decide_eq_true hg1_6) rfl rfl ?_
        refine S.g_op rfl (S.q (q_pickT rfl (decide_eq_true hg1_6) rfl) rfl rfl ?_)
        refine S.g_op rfl (S.q (q_move rfl) rfl rfl ?_)
        refine S.g_no rfl rfl rfl (rfl) rfl rfl ?_
        refine S.g_no rfl rfl rfl (rfl) rfl rfl ?_
        refine S.g_op rfl (S.q (q_pickT rfl (rfl) rfl) rfl rfl ?_)
        first | with_reducible refine S.g_nilK ?_ | refine S.g_nil ?_
        with_reducible repeat (first | refine S.then_n ?_ | refine S.then_x ?_ | refine S.then_r ?_ | refine S.inBlock_n ?_ | refine S.inBlock_r ?_ | refine S.inBlock_x rfl ?_ | refine S.noGoto_r ?_ | refine S.noGoto_n ?_ | refine S.noGoto_x ?_)
        first | exact S.meet ⟨rfl, rfl⟩ ⟨rfl, rfl, rfl, trivial⟩ Sub.ent | (rw [show decide ((16 : Int) < n) = true from decide_eq_true (by omega)]; exact S.meet ⟨rfl, rfl⟩ ⟨rfl, rfl, rfl, trivial⟩ Sub.ent)
      · refine S.g_yes rfl rfl rfl (decide_eq_false hg1_6) (S.q (q_move rfl) rfl rfl ?_)
        refine S.g_yes rfl rfl rfl (decide_eq_false hg1_6) (S.q (q_lt rfl rfl) rfl rfl ?_)
        refine S.g_op rfl (S.q (q_pickF rfl (decide_eq_false hg1_6) rfl) rfl rfl ?_)
        refine S.g_op rfl (S.q (q_move rfl) rfl rfl ?_)
        by_cases hg1_10 : n < 1
        · refine S.g_no rfl rfl rfl (decide_eq_true hg1_10) rfl rfl ?_
          refine S.g_no rfl rfl rfl (decide_eq_true hg1_10) rfl rfl ?_
          refine S.g_op rfl (S.q (q_pickT rfl (decide_eq_true hg1_10) rfl) rfl rfl ?_)
          first | with_reducible refine S.g_nilK ?_ | refine S.g_nil ?_
          with_reducible repeat (first | refine S.then_n ?_ | refine S.then_x ?_ | refine S.then_r ?_ | refine S.inBlock_n ?_ | refine S.inBlock_r ?_ | refine S.inBlock_x rfl ?_ | refine S.noGoto_r ?_ | refine S.noGoto_n ?_ | refine S.noGoto_x ?_)
          first | exact S.meet ⟨rfl, rfl⟩ ⟨rfl, rfl, rfl, trivial⟩ Sub.ent | (rw [show decide ((16 : Int) < n) = true from decide_eq_true (by omega)]; exact S.meet ⟨rfl, rfl⟩ ⟨rfl, rfl, rfl, trivial⟩ Sub.ent)
        · refine S.g_yes rfl rfl rfl (decide_eq_false hg1_10) (S.q (q_move rfl) rfl rfl ?_)
          refine S.g_yes rfl rfl rfl (decide_eq_false hg1_10) (S.q (q_gt rfl rfl) rfl rfl ?_)
          refine S.g_op rfl (S.q (q_pickF rfl (decide_eq_false hg1_10) rfl) rfl rfl ?_)
          first | with_reducible refine S.g_nilK ?_ | refine S.g_nil ?_
          with_reducible repeat (first | refine S.then_n ?_ | refine S.then_x ?_ | refine S.then_r ?_ | refine S.inBlock_n ?_ | refine S.inBlock_r ?_ | refine S.inBlock_x rfl ?_ | refine S.noGoto_r ?_ | refine S.noGoto_n ?_ | refine S.noGoto_x ?_)
          first | exact S.meet ⟨rfl, rfl⟩ ⟨rfl, rfl, rfl, trivial⟩ Sub.ent | (rw [show decide ((16 : Int) < n) = true from decide_eq_true (by omega)]; exact S.meet ⟨rfl, rfl⟩ ⟨rfl, rfl, rfl, trivial⟩ Sub.ent)
  · rintro ρ' Γ' ⟨rfl, hG⟩
    rw [hG]
    refine hK3 _ _ ?_
    refine S.condT rfl ?_
    refine S.seq fun K4 hK4 => ?_
    refine S.region rfl ?_
    refine S.op (S.q (q_assign rfl) rfl rfl ?_)
    refine S.op (S.q (q_assign rfl) rfl rfl ?_)
    first | with_reducible refine S.nilK ?_ | refine S.nil ?_
    refine hK4 _ _ ?_
    refine S.ret ?_
    with_reducible repeat (first | refine S.then_n ?_ | refine S.then_x ?_ | refine S.then_r ?_ | refine S.inBlock_n ?_ | refine S.inBlock_r ?_ | refine S.inBlock_x rfl ?_ | refine S.noGoto_r ?_ | refine S.noGoto_n ?_ | refine S.noGoto_x ?_)
    exact S.fin (rs := [_, _]) (vs := [_, _]) Tryd.results23 (⟨rfl, rfl, trivial⟩)  (⟨rfl, rfl⟩) Sub.ent
theorem rNewBad_S (r n : Int) (h : ¬ (1 ≤ r ∧ r ≤ 8 ∧ 1 ≤ n ∧ n ≤ 16)) : Spec Tryd.prog 24 [.int .i64 r, .int .i64 n] [] fun Γ v Θ => v = .tuple #[.pointer none, .int .i64 1] ∧ Θ = Γ := by
  refine Spec.of_body Tryd.func24 rfl Tryd.ntmps24 rfl ?_
  intro w0 Γ
  show S _ w0 [(0, .int .i64 r), (1, .int .i64 n)] Γ _
  refine S.seq fun K1 hK1 => ?_
  refine S.region rfl ?_
  refine S.op (S.q (q_assign rfl) rfl rfl ?_)
  refine S.op (S.q (q_assign rfl) rfl rfl ?_)
  first | with_reducible refine S.nilK ?_ | refine S.nil ?_
  refine hK1 _ _ ?_
  refine S.seq fun K2 hK2 => ?_
  refine S.seq fun K3 hK3 => ?_
  refine S.cut (fun ρ' Γ' => ρ' = [(0, .int .i64 r), (1, .int .i64 n), (20, .bool true)] ∧ Γ' = Γ) ?_ ?_
  · refine S.regionG ?_
    refine S.g_op rfl (S.q (q_move rfl) rfl rfl ?_)
    refine S.g_op rfl (S.q (q_lt rfl rfl) rfl rfl ?_)
    refine S.g_op rfl (S.q (q_move rfl) rfl rfl ?_)
    by_cases hg1_2 : r < 1
    · refine S.g_no rfl rfl rfl (decide_eq_true hg1_2) rfl rfl ?_
      refine S.g_no rfl rfl rfl (decide_eq_true hg1_2) rfl rfl ?_
      refine S.g_op rfl (S.q (q_pickT rfl (decide_eq_true hg1_2) rfl) rfl rfl ?_)
      refine S.g_op rfl (S.q (q_move rfl) rfl rfl ?_)
      refine S.g_no rfl rfl rfl (rfl) rfl rfl ?_
      refine S.g_no rfl rfl rfl (rfl) rfl rfl ?_
      refine S.g_op rfl (S.q (q_pickT rfl (rfl) rfl) rfl rfl ?_)
      refine S.g_op rfl (S.q (q_move rfl) rfl rfl ?_)
      refine S.g_no rfl rfl rfl (rfl) rfl rfl ?_
      refine S.g_no rfl rfl rfl (rfl) rfl rfl ?_
      refine S.g_op rfl (S.q (q_pickT rfl (rfl) rfl) rfl rfl ?_)
      first | with_reducible refine S.g_nilK ?_ | refine S.g_nil ?_
      with_reducible repeat (first | refine S.then_n ?_ | refine S.then_x ?_ | refine S.then_r ?_ | refine S.inBlock_n ?_ | refine S.inBlock_r ?_ | refine S.inBlock_x rfl ?_ | refine S.noGoto_r ?_ | refine S.noGoto_n ?_ | refine S.noGoto_x ?_)
      first | exact S.meet ⟨rfl, rfl⟩ ⟨rfl, rfl, rfl, trivial⟩ Sub.ent | (rw [show decide ((16 : Int) < n) = true from decide_eq_true (by omega)]; exact S.meet ⟨rfl, rfl⟩ ⟨rfl, rfl, rfl, trivial⟩ Sub.ent)
    · refine S.g_yes rfl rfl rfl (decide_eq_false hg1_2) (S.q (q_move rfl) rfl rfl ?_)
      refine S.g_yes rfl rfl rfl (decide_eq_false hg1_2) (S.q (q_gt rfl rfl) rfl rfl ?_)
      refine S.g_op rfl (S.q (q_pickF rfl (decide_eq_false hg1_2) rfl) rfl rfl ?_)
      refine S.g_op rfl (S.q (q_move rfl) rfl rfl ?_)
      by_cases hg1_6 : (8 : Int) < r
      · refine S.g_no rfl rfl rfl (decide_eq_true hg1_6) rfl rfl ?_
        refine S.g_no rfl rfl rfl (decide_eq_true hg1_6) rfl rfl ?_
        refine S.g_op rfl (S.q (q_pickT rfl (decide_eq_true hg1_6) rfl) rfl rfl ?_)
        refine S.g_op rfl (S.q (q_move rfl) rfl rfl ?_)
        refine S.g_no rfl rfl rfl (rfl) rfl rfl ?_
        refine S.g_no rfl rfl rfl (rfl) rfl rfl ?_
        refine S.g_op rfl (S.q (q_pickT rfl (rfl) rfl) rfl rfl ?_)
        first | with_reducible refine S.g_nilK ?_ | refine S.g_nil ?_
        with_reducible repeat (first | refine S.then_n ?_ | refine S.then_x ?_ | refine S.then_r ?_ | refine S.inBlock_n ?_ | refine S.inBlock_r ?_ | refine S.inBlock_x rfl ?_ | refine S.noGoto_r ?_ | refine S.noGoto_n ?_ | refine S.noGoto_x ?_)
        first | exact S.meet ⟨rfl, rfl⟩ ⟨rfl, rfl, rfl, trivial⟩ Sub.ent | (rw [show decide ((16 : Int) < n) = true from decide_eq_true (by omega)]; exact S.meet ⟨rfl, rfl⟩ ⟨rfl, rfl, rfl, trivial⟩ Sub.ent)
      · refine S.g_yes rfl rfl rfl (decide_eq_false hg1_6) (S.q (q_move rfl) rfl rfl ?_)
        refine S.g_yes rfl rfl rfl (decide_eq_false hg1_6) (S.q (q_lt rfl rfl) rfl rfl ?_)
        refine S.g_op rfl (S.q (q_pickF rfl (decide_eq_false hg1_6) rfl) rfl rfl ?_)
        refine S.g_op rfl (S.q (q_move rfl) rfl rfl ?_)
        by_cases hg1_10 : n < 1
        · refine S.g_no rfl rfl rfl (decide_eq_true hg1_10) rfl rfl ?_
          refine S.g_no rfl rfl rfl (decide_eq_true hg1_10) rfl rfl ?_
          refine S.g_op rfl (S.q (q_pickT rfl (decide_eq_true hg1_10) rfl) rfl rfl ?_)
          first | with_reducible refine S.g_nilK ?_ | refine S.g_nil ?_
          with_reducible repeat (first | refine S.then_n ?_ | refine S.then_x ?_ | refine S.then_r ?_ | refine S.inBlock_n ?_ | refine S.inBlock_r ?_ | refine S.inBlock_x rfl ?_ | refine S.noGoto_r ?_ | refine S.noGoto_n ?_ | refine S.noGoto_x ?_)
          first | exact S.meet ⟨rfl, rfl⟩ ⟨rfl, rfl, rfl, trivial⟩ Sub.ent | (rw [show decide ((16 : Int) < n) = true from decide_eq_true (by omega)]; exact S.meet ⟨rfl, rfl⟩ ⟨rfl, rfl, rfl, trivial⟩ Sub.ent)
        · refine S.g_yes rfl rfl rfl (decide_eq_false hg1_10) (S.q (q_move rfl) rfl rfl ?_)
          refine S.g_yes rfl rfl rfl (decide_eq_false hg1_10) (S.q (q_gt rfl rfl) rfl rfl ?_)
          refine S.g_op rfl (S.q (q_pickF rfl (decide_eq_false hg1_10) rfl) rfl rfl ?_)
          first | with_reducible refine S.g_nilK ?_ | refine S.g_nil ?_
          with_reducible repeat (first | refine S.then_n ?_ | refine S.then_x ?_ | refine S.then_r ?_ | refine S.inBlock_n ?_ | refine S.inBlock_r ?_ | refine S.inBlock_x rfl ?_ | refine S.noGoto_r ?_ | refine S.noGoto_n ?_ | refine S.noGoto_x ?_)
          first | exact S.meet ⟨rfl, rfl⟩ ⟨rfl, rfl, rfl, trivial⟩ Sub.ent | (rw [show decide ((16 : Int) < n) = true from decide_eq_true (by omega)]; exact S.meet ⟨rfl, rfl⟩ ⟨rfl, rfl, rfl, trivial⟩ Sub.ent)
  · rintro ρ' Γ' ⟨rfl, hG⟩
    rw [hG]
    refine hK3 _ _ ?_
    refine S.condT rfl ?_
    refine S.seq fun K4 hK4 => ?_
    refine S.region rfl ?_
    refine S.op (S.q (q_assign rfl) rfl rfl ?_)
    refine S.op (S.q (q_assign rfl) rfl rfl ?_)
    first | with_reducible refine S.nilK ?_ | refine S.nil ?_
    refine hK4 _ _ ?_
    refine S.ret ?_
    with_reducible repeat (first | refine S.then_n ?_ | refine S.then_x ?_ | refine S.then_r ?_ | refine S.inBlock_n ?_ | refine S.inBlock_r ?_ | refine S.inBlock_x rfl ?_ | refine S.noGoto_r ?_ | refine S.noGoto_n ?_ | refine S.noGoto_x ?_)
    exact S.fin (rs := [_, _]) (vs := [_, _]) Tryd.results24 (⟨rfl, rfl, trivial⟩)  (⟨rfl, rfl⟩) Sub.ent
end Go.Proofs.YtegjmmocnffpiaaDoor
/- Sets of sixteen bits: what is in them, in order. Of no program. -/
namespace Go.Proofs.YtegjmmocnffpiaaDoor
open Go.RowKit
abbrev Bs := BitVec 16
abbrev bsv (s : Bs) : Value := .int .u16 (s.toNat : Int)
/-- Two rising lists with the same members are one. -/
theorem rise_ext {l m : List Nat} (hl : l.Pairwise (· < ·)) (hm : m.Pairwise (· < ·)) (h : ∀ x, x ∈ l ↔ x ∈ m) : l = m := by
  refine List.Perm.eq_of_pairwise (le := (· < ·)) (fun a b _ _ h1 h2 => by omega) hl hm ?_
  refine (List.perm_ext_iff_of_nodup (hl.imp fun h => Nat.ne_of_lt h) (hm.imp fun h => Nat.ne_of_lt h)).2 h
def lst (s : Bs) : List Nat := (List.range 16).filter fun i => s.getLsbD i
theorem lst_rise (s : Bs) : (lst s).Pairwise (· < ·) := List.pairwise_lt_range.filter _
theorem mem_lst {s : Bs} {i : Nat} : i ∈ lst s ↔ s.getLsbD i = true := by
  simp only [lst, List.mem_filter, List.mem_range, and_iff_right_iff_imp]
  exact fun h => BitVec.lt_of_getLsbD h
theorem lst_lt {s : Bs} {i : Nat} (h : i ∈ lst s) : i < 16 := BitVec.lt_of_getLsbD (mem_lst.1 h)
theorem lst_ext {s t : Bs} (h : ∀ i, s.getLsbD i = true ↔ t.getLsbD i = true) : s = t := by
  refine BitVec.eq_of_getLsbD_eq fun i _ => ?_
  have := h i
  cases h1 : s.getLsbD i <;> cases h2 : t.getLsbD i <;> simp_all
theorem lst_inj {s t : Bs} (h : lst s = lst t) : s = t := lst_ext fun i => by rw [← mem_lst, ← mem_lst, h]
theorem lst_zero : lst 0#16 = [] := by decide
theorem lst_nil {s : Bs} : lst s = [] ↔ s = 0#16 := ⟨fun h => lst_inj (h.trans lst_zero.symm), fun h => by rw [h, lst_zero]⟩
theorem lst_len (s : Bs) : (lst s).length ≤ 16 := by
  have := List.length_filter_le (fun i => s.getLsbD i) (List.range 16)
  rw [List.length_range] at this
  exact this
/-- The least of a set; 16 of none. -/
def tz (s : Bs) : Nat := (lst s).head?.getD 16
theorem tz_zero : tz 0#16 = 16 := by rw [tz, lst_zero]; rfl
theorem tz_cons {s : Bs} {t : Nat} {l : List Nat} (h : lst s = t :: l) : tz s = t := by rw [tz, h]; rfl
theorem tz_le (s : Bs) : tz s ≤ 16 := by
  cases h : lst s with
  | nil => rw [tz, h]; exact Nat.le_refl _
  | cons t l => rw [tz_cons h]; exact Nat.le_of_lt (lst_lt (h ▸ List.mem_cons_self))
theorem tz_mem {s : Bs} (h : s ≠ 0#16) : tz s ∈ lst s := by
  cases e : lst s with
  | nil => exact absurd (lst_nil.1 e) h
  | cons t l => rw [tz_cons e]; exact List.mem_cons_self
theorem tz_least {s : Bs} {i : Nat} (h : i ∈ lst s) : tz s ≤ i := by
  cases e : lst s with
  | nil => rw [e] at h; cases h
  | cons t l =>
    rw [tz_cons e]
    rw [e] at h
    have hr := lst_rise s
    rw [e] at hr
    rcases List.mem_cons.1 h with rfl | h
    · exact Nat.le_refl _
    · exact Nat.le_of_lt ((List.pairwise_cons.1 hr).1 i h)
/-- Is there a lesser one? -/
theorem lesser_iff (s : Bs) (i : Nat) : (∃ j, j < i ∧ s.getLsbD j = true) ↔ s ≠ 0#16 ∧ tz s < i := by
  constructor
  · rintro ⟨j, hj, h⟩
    have := tz_least (mem_lst.2 h)
    refine ⟨fun e => ?_, by omega⟩
    rw [e] at h
    simp at h
  · rintro ⟨h, hi⟩
    exact ⟨tz s, hi, mem_lst.1 (tz_mem h)⟩
theorem low_bit (s : Bs) (h : s ≠ 0#16) : s &&& -s = BitVec.twoPow 16 (tz s) := by
  refine BitVec.eq_of_getLsbD_eq fun i hi => ?_
  have ht : tz s < 16 := lst_lt (tz_mem h)
  rw [BitVec.getLsbD_and, BitVec.getLsbD_neg, BitVec.getLsbD_twoPow]
  have hl := lesser_iff s i
  by_cases hb : s.getLsbD i = true
  · have h1 := tz_least (mem_lst.2 hb)
    by_cases e : tz s = i
    · have : ¬ (∃ j, j < i ∧ s.getLsbD j = true) := fun h' => by have := (hl.1 h').2; omega
      simp [hb, this, e, hi]
    · have : ∃ j, j < i ∧ s.getLsbD j = true := hl.2 ⟨h, by omega⟩
      simp [this, e, hi]
  · have e : tz s ≠ i := fun e => hb (e ▸ mem_lst.1 (tz_mem h))
    simp [hb, e]
/-- A set without its least. -/
def butLeast (s : Bs) : Bs := s &&& ~~~(s &&& -s)
theorem butLeast_bit (s : Bs) (h : s ≠ 0#16) (i : Nat) : (butLeast s).getLsbD i = (s.getLsbD i && decide (tz s ≠ i)) := by
  unfold butLeast
  rw [low_bit s h, BitVec.getLsbD_and, BitVec.getLsbD_not, BitVec.getLsbD_twoPow]
  have ht : tz s < 16 := lst_lt (tz_mem h)
  by_cases hi : i < 16
  · simp [hi, ht]
  · have : s.getLsbD i = false := BitVec.getLsbD_of_ge _ _ (by omega)
    simp [this]
theorem lst_butLeast {s : Bs} {t : Nat} {l : List Nat} (h : lst s = t :: l) : lst (butLeast s) = l := by
  have h0 : s ≠ 0#16 := fun e => by rw [e, lst_zero] at h; cases h
  have hr := lst_rise s
  rw [h] at hr
  refine rise_ext (lst_rise _) (List.pairwise_cons.1 hr).2 fun i => ?_
  rw [mem_lst, butLeast_bit s h0, tz_cons h]
  have : s.getLsbD i = true ↔ i = t ∨ i ∈ l := by rw [← mem_lst, h, List.mem_cons]
  have hlt : i ∈ l → t < i := fun hm => (List.pairwise_cons.1 hr).1 i hm
  simp only [Bool.and_eq_true, decide_eq_true_eq, this]
  constructor
  · rintro ⟨h1 | h1, h2⟩
    · omega
    · exact h1
  · intro h1
    exact ⟨.inr h1, by have := hlt h1; omega⟩
theorem and_pred (s : Bs) (h : s ≠ 0#16) : s &&& (s - 1#16) = butLeast s := by
  rw [← BitVec.not_neg]
  refine BitVec.eq_of_getLsbD_eq fun i hi => ?_
  rw [butLeast_bit s h, BitVec.getLsbD_and, BitVec.getLsbD_not, BitVec.getLsbD_neg]
  have hl := lesser_iff s i
  by_cases hb : s.getLsbD i = true
  · have h1 := tz_least (mem_lst.2 hb)
    by_cases e : tz s = i
    · have : ¬ (∃ j, j < i ∧ s.getLsbD j = true) := fun h' => by have := (hl.1 h').2; omega
      simp [this, e, hi]
    · have : ∃ j, j < i ∧ s.getLsbD j = true := hl.2 ⟨h, by omega⟩
      simp [this, e, hi]
  · simp [hb]
theorem butLeast_or (s : Bs) (h : s ≠ 0#16) : BitVec.twoPow 16 (tz s) ||| butLeast s = s := by
  refine BitVec.eq_of_getLsbD_eq fun i hi => ?_
  have ht : tz s < 16 := lst_lt (tz_mem h)
  rw [BitVec.getLsbD_or, butLeast_bit s h, BitVec.getLsbD_twoPow]
  by_cases e : tz s = i
  · have hb := mem_lst.1 (tz_mem h)
    rw [e] at hb
    simp [e, hb, hi]
  · simp [e]
/-- A list's set. -/
def ofL : List Nat → Bs
  | [] => 0#16
  | i :: l => BitVec.twoPow 16 i ||| ofL l
theorem ofL_bit (l : List Nat) (i : Nat) : (ofL l).getLsbD i = true ↔ i < 16 ∧ i ∈ l := by
  induction l with
  | nil => simp [ofL]
  | cons j l ih =>
    rw [ofL, BitVec.getLsbD_or, BitVec.getLsbD_twoPow, Bool.or_eq_true, ih, List.mem_cons, Bool.and_eq_true, decide_eq_true_eq, decide_eq_true_eq]
    constructor
    · rintro (⟨h1, h2⟩ | ⟨h1, h2⟩)
      · exact ⟨by omega, .inl h2.symm⟩
      · exact ⟨h1, .inr h2⟩
    · rintro ⟨h1, h2 | h2⟩
      · exact .inl ⟨by omega, h2.symm⟩
      · exact .inr ⟨h1, h2⟩
theorem lst_ofL {l : List Nat} (hr : l.Pairwise (· < ·)) (h : ∀ i ∈ l, i < 16) : lst (ofL l) = l :=
  rise_ext (lst_rise _) hr fun i => by rw [mem_lst, ofL_bit]; exact ⟨fun h => h.2, fun hm => ⟨h i hm, hm⟩⟩
theorem ofL_lst (s : Bs) : ofL (lst s) = s := lst_inj (lst_ofL (lst_rise s) fun _ h => lst_lt h)
theorem ofL_append (l m : List Nat) : ofL (l ++ m) = ofL l ||| ofL m := by
  induction l with
  | nil => simp [ofL]
  | cons i l ih => simp only [List.cons_append, ofL, ih, BitVec.or_assoc]
/-- The k least. -/
def leastK (s : Bs) (k : Nat) : Bs := ofL ((lst s).take k)
theorem lst_leastK (s : Bs) (k : Nat) : lst (leastK s k) = (lst s).take k :=
  lst_ofL (List.Pairwise.sublist (List.take_sublist _ _) (lst_rise s)) fun _ h => lst_lt (List.mem_of_mem_take h)
/-- All below n. -/
def mask (n : Nat) : Bs := ofL (List.range n)
theorem lst_mask {n : Nat} (h : n ≤ 16) : lst (mask n) = List.range n := lst_ofL List.pairwise_lt_range fun i hi => by have := List.mem_range.1 hi; omega
theorem mask_bit {n : Nat} (h : n ≤ 16) (i : Nat) : (mask n).getLsbD i = true ↔ i < n := by rw [← mem_lst, lst_mask h, List.mem_range]
/-! What the machine reckons. -/
theorem bs_lt (s : Bs) : s.toNat < 65536 := s.isLt
theorem bs_rng (s : Bs) : (0 : Int) ≤ s.toNat ∧ (s.toNat : Int) ≤ 65535 := by have := bs_lt s; omega
theorem ofInt_bs (s : Bs) : BitVec.ofInt 16 (s.toNat : Int) = s := by rw [BitVec.ofInt_natCast, BitVec.ofNat_toNat, BitVec.setWidth_eq]
theorem wrap_bs (s : Bs) : IntKind.u16.wrap (s.toNat : Int) = (s.toNat : Int) := wrap_in (inU16 (bs_rng s).1 (bs_rng s).2)
theorem bs_eq {s t : Bs} : ((s.toNat : Int) = (t.toNat : Int)) ↔ s = t := by
  rw [Int.ofNat_inj]; exact ⟨BitVec.eq_of_toNat_eq, fun h => by rw [h]⟩
theorem bs_zero {s : Bs} : ((s.toNat : Int) = 0) ↔ s = 0#16 := by
  rw [← bs_eq]; simp
end Go.Proofs.YtegjmmocnffpiaaDoor
/- The matrix as plain data: jobs by number, each in a row, at nodes. Of no program. -/
namespace Go.Proofs.YtegjmmocnffpiaaDoor
open Go.RowKit
structure Jb where
  id : Nat
  row : Nat
  ns : Bs
structure Mx where
  R : Nat
  N : Nat
  up : Bs
  js : List Jb
/-- The nodes that are taken in a row. -/
def tk (js : List Jb) (r : Nat) : Bs := (js.filter fun x => decide (x.row = r)).foldr (fun x s => x.ns ||| s) 0#16
theorem tk_bit (js : List Jb) (r i : Nat) : (tk js r).getLsbD i = true ↔ ∃ x ∈ js, x.row = r ∧ x.ns.getLsbD i = true := by
  unfold tk
  induction js with
  | nil => simp
  | cons x js ih =>
    by_cases h : x.row = r
    · rw [List.filter_cons_of_pos (by simpa using h), List.foldr_cons, BitVec.getLsbD_or, Bool.or_eq_true, ih]
      constructor
      · rintro (h1 | ⟨y, h1, h2, h3⟩)
        · exact ⟨x, List.mem_cons_self, h, h1⟩
        · exact ⟨y, List.mem_cons_of_mem _ h1, h2, h3⟩
      · rintro ⟨y, h1, h2, h3⟩
        rcases List.mem_cons.1 h1 with rfl | h1
        · exact .inl h3
        · exact .inr ⟨y, h1, h2, h3⟩
    · rw [List.filter_cons_of_neg (by simpa using h), ih]
      constructor
      · rintro ⟨y, h1, h2, h3⟩
        exact ⟨y, List.mem_cons_of_mem _ h1, h2, h3⟩
      · rintro ⟨y, h1, h2, h3⟩
        rcases List.mem_cons.1 h1 with rfl | h1
        · exact absurd h2 h
        · exact ⟨y, h1, h2, h3⟩
theorem tk_congr {js js' : List Jb} (h : ∀ x, x ∈ js ↔ x ∈ js') (r : Nat) : tk js r = tk js' r := lst_ext fun i => by
  rw [tk_bit, tk_bit]
  exact ⟨fun ⟨x, h1, h2⟩ => ⟨x, (h x).1 h1, h2⟩, fun ⟨x, h1, h2⟩ => ⟨x, (h x).2 h1, h2⟩⟩
/-- A matrix that may be. -/
structure MxOk (m : Mx) : Prop where
  R1 : 1 ≤ m.R
  R8 : m.R ≤ 8
  N1 : 1 ≤ m.N
  N16 : m.N ≤ 16
  up : ∀ i, m.up.getLsbD i = true → i < m.N
  srt : m.js.Pairwise (fun a b => a.id < b.id)
  id1 : ∀ x ∈ m.js, 1 ≤ x.id
  id2 : ∀ x ∈ m.js, x.id ≤ 4294967295
  row : ∀ x ∈ m.js, x.row < m.R
  some : ∀ x ∈ m.js, x.ns ≠ 0#16
  ns : ∀ x ∈ m.js, ∀ i, x.ns.getLsbD i = true → i < m.N
  dis : ∀ x ∈ m.js, ∀ y ∈ m.js, x.id ≠ y.id → x.row = y.row → ∀ i, x.ns.getLsbD i = true → y.ns.getLsbD i = true → False
def look (js : List Jb) (j : Nat) : Option Jb := js.find? fun x => decide (x.id = j)
theorem look_some {js : List Jb} {j : Nat} {x : Jb} (h : look js j = some x) : x ∈ js ∧ x.id = j := ⟨List.mem_of_find?_eq_some h, by simpa using List.find?_some h⟩
theorem look_none {js : List Jb} {j : Nat} (h : look js j = none) : ∀ x ∈ js, x.id ≠ j := fun x hx => by simpa using List.find?_eq_none.1 h x hx
theorem id_inj {js : List Jb} (hs : js.Pairwise (fun a b => a.id < b.id)) {x y : Jb} (hx : x ∈ js) (hy : y ∈ js) (h : x.id = y.id) : x = y := by
  induction js with
  | nil => cases hx
  | cons z js ih =>
    rw [List.pairwise_cons] at hs
    rcases List.mem_cons.1 hx with e1 | h1
    · rcases List.mem_cons.1 hy with e2 | h2
      · rw [e1, e2]
      · have := hs.1 y h2; rw [← e1] at this; omega
    · rcases List.mem_cons.1 hy with e2 | h2
      · have := hs.1 x h1; rw [← e2] at this; omega
      · exact ih hs.2 h1 h2
theorem look_mem {js : List Jb} (hs : js.Pairwise (fun a b => a.id < b.id)) {x : Jb} (hx : x ∈ js) : look js x.id = some x := by
  cases h : look js x.id with
  | none => exact absurd rfl (look_none h x hx)
  | some y =>
    obtain ⟨h1, h2⟩ := look_some h
    rw [id_inj hs h1 hx h2]
/-- A job more. -/
def addJ (x : Jb) : List Jb → List Jb
  | [] => [x]
  | y :: l => if x.id < y.id then x :: y :: l else y :: addJ x l
theorem addJ_perm (x : Jb) : ∀ l, (addJ x l).Perm (x :: l)
  | [] => .refl _
  | y :: l => by
    unfold addJ
    split
    · exact .refl _
    · exact ((addJ_perm x l).cons y).trans (.swap _ _ _)
theorem mem_addJ {x y : Jb} {l : List Jb} : y ∈ addJ x l ↔ y = x ∨ y ∈ l := by rw [(addJ_perm x l).mem_iff, List.mem_cons]
theorem addJ_srt {x : Jb} : ∀ {l : List Jb}, l.Pairwise (fun a b => a.id < b.id) → (∀ y ∈ l, y.id ≠ x.id) → (addJ x l).Pairwise (fun a b => a.id < b.id)
  | [], _, _ => List.pairwise_singleton _ _
  | y :: l, h, hn => by
    rw [List.pairwise_cons] at h
    unfold addJ
    have hne := hn y List.mem_cons_self
    split
    · rename_i hlt
      refine List.pairwise_cons.2 ⟨fun z hz => ?_, List.pairwise_cons.2 h⟩
      rcases List.mem_cons.1 hz with rfl | hz
      · exact hlt
      · have := h.1 z hz; omega
    · rename_i hlt
      refine List.pairwise_cons.2 ⟨fun z hz => ?_, addJ_srt h.2 fun z hz => hn z (List.mem_cons_of_mem _ hz)⟩
      rcases mem_addJ.1 hz with rfl | hz
      · omega
      · exact h.1 z hz
/-- A job fewer. -/
def delJ (j : Nat) (l : List Jb) : List Jb := l.filter fun x => decide (x.id ≠ j)
theorem mem_delJ {j : Nat} {y : Jb} {l : List Jb} : y ∈ delJ j l ↔ y ∈ l ∧ y.id ≠ j := by simp [delJ]
theorem delJ_srt {j : Nat} {l : List Jb} (h : l.Pairwise (fun a b => a.id < b.id)) : (delJ j l).Pairwise (fun a b => a.id < b.id) := h.filter _
theorem srt_ext {l m : List Jb} (hl : l.Pairwise (fun a b => a.id < b.id)) (hm : m.Pairwise (fun a b => a.id < b.id)) (h : ∀ x, x ∈ l ↔ x ∈ m) : l = m := by
  refine List.Perm.eq_of_pairwise (le := fun a b : Jb => a.id < b.id) (fun a b _ _ h1 h2 => by omega) hl hm ?_
  exact (List.perm_ext_iff_of_nodup (hl.imp fun h e => by rw [e] at h; omega) (hm.imp fun h e => by rw [e] at h; omega)).2 h
theorem delJ_addJ {x : Jb} {l : List Jb} (hs : l.Pairwise (fun a b => a.id < b.id)) (hn : ∀ y ∈ l, y.id ≠ x.id) : delJ x.id (addJ x l) = l :=
  srt_ext (delJ_srt (addJ_srt hs hn)) hs fun y => by
    rw [mem_delJ, mem_addJ]
    constructor
    · rintro ⟨rfl | h1, h2⟩
      · exact absurd rfl h2
      · exact h1
    · exact fun h => ⟨.inr h, hn y h⟩
theorem tk_addJ (x : Jb) (l : List Jb) (r : Nat) : tk (addJ x l) r = if x.row = r then tk l r ||| x.ns else tk l r := lst_ext fun i => by
  have e : (tk (addJ x l) r).getLsbD i = true ↔ (x.row = r ∧ x.ns.getLsbD i = true) ∨ (tk l r).getLsbD i = true := by
    rw [tk_bit, tk_bit]
    constructor
    · rintro ⟨y, h1, h2, h3⟩
      rcases mem_addJ.1 h1 with rfl | h1
      · exact .inl ⟨h2, h3⟩
      · exact .inr ⟨y, h1, h2, h3⟩
    · rintro (⟨h2, h3⟩ | ⟨y, h1, h2, h3⟩)
      · exact ⟨x, mem_addJ.2 (.inl rfl), h2, h3⟩
      · exact ⟨y, mem_addJ.2 (.inr h1), h2, h3⟩
  rw [e]
  by_cases h : x.row = r
  · rw [if_pos h, BitVec.getLsbD_or, Bool.or_eq_true]
    constructor
    · rintro (⟨_, h3⟩ | h3)
      · exact .inr h3
      · exact .inl h3
    · rintro (h3 | h3)
      · exact .inr h3
      · exact .inl ⟨h, h3⟩
  · rw [if_neg h]
    constructor
    · rintro (⟨h3, _⟩ | h3)
      · exact absurd h3 h
      · exact h3
    · exact .inr
theorem tk_delJ {m : Mx} (hm : MxOk m) {x : Jb} (hx : x ∈ m.js) (r : Nat) : tk (delJ x.id m.js) r = if x.row = r then tk m.js r &&& ~~~x.ns else tk m.js r := lst_ext fun i => by
  rw [tk_bit]
  by_cases h : x.row = r
  · rw [if_pos h, BitVec.getLsbD_and, BitVec.getLsbD_not, Bool.and_eq_true, tk_bit]
    constructor
    · rintro ⟨y, h1, h2, h3⟩
      rw [mem_delJ] at h1
      have hi := BitVec.lt_of_getLsbD h3
      refine ⟨⟨y, h1.1, h2, h3⟩, ?_⟩
      cases hb : x.ns.getLsbD i with
      | false => simp [hi]
      | true => exact (hm.dis y h1.1 x hx h1.2 (h2.trans h.symm) i h3 hb).elim
    · rintro ⟨⟨y, h1, h2, h3⟩, h4⟩
      refine ⟨y, mem_delJ.2 ⟨h1, fun e => ?_⟩, h2, h3⟩
      obtain rfl := id_inj hm.srt h1 hx e
      rw [h3] at h4
      simp at h4
  · rw [if_neg h, tk_bit]
    constructor
    · rintro ⟨y, h1, h2⟩
      exact ⟨y, (mem_delJ.1 h1).1, h2⟩
    · rintro ⟨y, h1, h2, h3⟩
      refine ⟨y, mem_delJ.2 ⟨h1, fun e => ?_⟩, h2, h3⟩
      obtain rfl := id_inj hm.srt h1 hx e
      exact h h2
def Mx.free (m : Mx) (r : Nat) : Bs := m.up &&& ~~~(tk m.js r)
def Mx.add (m : Mx) (x : Jb) : Mx := { m with js := addJ x m.js }
def Mx.del (m : Mx) (j : Nat) : Mx := { m with js := delJ j m.js }
theorem MxOk.del {m : Mx} (h : MxOk m) (j : Nat) : MxOk (m.del j) where
  R1 := h.R1
  R8 := h.R8
  N1 := h.N1
  N16 := h.N16
  up := h.up
  srt := delJ_srt h.srt
  id1 := fun x hx => h.id1 x (mem_delJ.1 hx).1
  id2 := fun x hx => h.id2 x (mem_delJ.1 hx).1
  row := fun x hx => h.row x (mem_delJ.1 hx).1
  some := fun x hx => h.some x (mem_delJ.1 hx).1
  ns := fun x hx => h.ns x (mem_delJ.1 hx).1
  dis := fun x hx y hy => h.dis x (mem_delJ.1 hx).1 y (mem_delJ.1 hy).1
theorem MxOk.add {m : Mx} (h : MxOk m) {x : Jb} (hn : ∀ y ∈ m.js, y.id ≠ x.id) (h1 : 1 ≤ x.id) (h2 : x.id ≤ 4294967295) (h3 : x.row < m.R) (h4 : x.ns ≠ 0#16) (h5 : ∀ i, x.ns.getLsbD i = true → i < m.N)
    (h6 : tk m.js x.row &&& x.ns = 0#16) : MxOk (m.add x) := by
  have hd : ∀ y ∈ m.js, y.row = x.row → ∀ i, y.ns.getLsbD i = true → x.ns.getLsbD i = true → False := fun y hy hr i b1 b2 => by
    have hb : (tk m.js x.row &&& x.ns).getLsbD i = true := by
      rw [BitVec.getLsbD_and, b2, Bool.and_true, tk_bit]
      exact ⟨y, hy, hr, b1⟩
    rw [h6] at hb
    simp at hb
  refine ⟨h.R1, h.R8, h.N1, h.N16, h.up, addJ_srt h.srt hn, ?_, ?_, ?_, ?_, ?_, ?_⟩
  · exact fun y hy => by rcases mem_addJ.1 hy with rfl | hy <;> first | exact h1 | exact h.id1 y hy
  · exact fun y hy => by rcases mem_addJ.1 hy with rfl | hy <;> first | exact h2 | exact h.id2 y hy
  · exact fun y hy => by rcases mem_addJ.1 hy with rfl | hy <;> first | exact h3 | exact h.row y hy
  · exact fun y hy => by rcases mem_addJ.1 hy with rfl | hy <;> first | exact h4 | exact h.some y hy
  · exact fun y hy => by rcases mem_addJ.1 hy with rfl | hy <;> first | exact h5 | exact h.ns y hy
  · intro y hy z hz hne hr i b1 b2
    rcases mem_addJ.1 hy with e1 | h7
    · rcases mem_addJ.1 hz with e2 | h8
      · exact hne (by rw [e1, e2])
      · exact hd z h8 (by rw [← hr, e1]) i b2 (e1 ▸ b1)
    · rcases mem_addJ.1 hz with e2 | h8
      · exact hd y h7 (by rw [hr, e2]) i b1 (e2 ▸ b2)
      · exact h.dis y h7 z h8 hne hr i b1 b2
/-! How many there may be. -/
theorem nodup_lt : ∀ {n : Nat} {l : List Nat}, l.Nodup → (∀ z ∈ l, z < n) → l.length ≤ n
  | 0, [], _, _ => Nat.le_refl _
  | 0, z :: l, _, h => absurd (h z List.mem_cons_self) (by omega)
  | n + 1, l, hn, h => by
    have h1 := nodup_lt (n := n) (l := l.filter fun z => decide (z ≠ n)) (hn.filter _) fun z hz => by
      obtain ⟨h1, h2⟩ := List.mem_filter.1 hz
      have := h z h1
      have h2 : z ≠ n := by simpa using h2
      omega
    have h2 : l.length ≤ (l.filter fun z => decide (z ≠ n)).length + 1 := by
      have e := List.length_eq_countP_add_countP (fun z => decide (z ≠ n)) (l := l)
      rw [← List.countP_eq_length_filter]
      have h3 : l.countP (fun a => decide (¬ (decide (a ≠ n) = true))) ≤ 1 := by
        have e3 : l.countP (fun a => decide (¬ (decide (a ≠ n) = true))) = l.count n := by
          rw [List.count_eq_countP]
          refine List.countP_congr fun x _ => ?_
          simp
        rw [e3]
        exact List.nodup_iff_count.1 hn n
      omega
    omega
theorem sum_lens (m : Mx) (hm : MxOk m) : m.js.length ≤ 128 := by
  -- each job has a place of its own: its row and its least node
  have hinj : ((m.js.map fun x => x.row * 16 + tz x.ns)).Nodup := by
    refine List.pairwise_map.2 (hm.srt.imp_of_mem ?_)
    intro x y hx hy hlt e
    have tx := lst_lt (tz_mem (hm.some x hx))
    have ty := lst_lt (tz_mem (hm.some y hy))
    have e1 : x.row = y.row := by omega
    have e2 : tz x.ns = tz y.ns := by omega
    exact hm.dis x hx y hy (by omega) e1 (tz x.ns) (mem_lst.1 (tz_mem (hm.some x hx))) (e2 ▸ mem_lst.1 (tz_mem (hm.some y hy)))
  have hlt : ∀ z ∈ (m.js.map fun x => x.row * 16 + tz x.ns), z < 128 := fun z hz => by
    obtain ⟨x, hx, rfl⟩ := List.mem_map.1 hz
    have := lst_lt (tz_mem (hm.some x hx))
    have := hm.row x hx
    have := hm.R8
    omega
  have := nodup_lt hinj hlt
  simpa using this
end Go.Proofs.YtegjmmocnffpiaaDoor
/- From a walk to a tied row, once for all laws: the lift of XLift where package-level variables are listed. -/
set_option maxRecDepth 20000
namespace Go.Proofs.YtegjmmocnffpiaaDoor
open Go.ChangeShapes Go.WideShapes Go.ChangeAt Go.RowKit
section
variable {H : Type} {enc : TypeId × Value → H}
/-- What a law's walk owes, where variables are listed. -/
def LawWalkT (enc : TypeId × Value → H) (L : List (String × DataW Unit)) (f : FuncId) (fn : Func) : Prop :=
  ∀ (W : World) (base : Nat) (args : Array Value) (ds : List (DataW H)) (before : List MemPlace),
    (∀ (j : Nat) t v, fn.params[j]? = some t → args[j]? = some v → Value.okWide Tryd.prog W .any base t v) →
    DataW.TrodAll enc Tryd.prog W 0 (fun _ => true) true fn.params.toList args.toList ds before →
    (∀ p ∈ before, p.block < W.heap.size) →
    (DataW.weightsEach Tryd.prog (fn.params.toList ++ []) (ds ++ [])).all (· ≤ reachBytes) = true →
    laidMetH Tryd.prog L W →
    Calls Tryd.prog f args W fun e W' => e = .returned (.bool true) ∧ Below W.heap.size W W'
theorem lift_trueT {os : Os} (started : os.Started) {f : FuncId} {fn : Func} {s : ChangeSpec} {L : List (String × DataW Unit)} (hfn : Tryd.prog.funcs[f]? = some fn) (noInit : Tryd.prog.inits.idxOf? f = none)
    (witness : ∃ (w : World) (tape : Tape) (i : Input), w.os = os ∧ (w.forCall tape i).Shaped Tryd.prog ∧ i.vars = [] ∧ Input.okWide Tryd.prog (w.forCall tape i) .any w.heap.size f i ∧
      ((s.pre enc Tryd.prog fn [] false (w.forCall tape i).memory i.args ∧ laidMetH Tryd.prog L (w.forCall tape i).memory) ∧ sizedMet enc Tryd.prog fn (OpenSpec.ofChange s) false (w.forCall tape i).memory i.args) ∧ ({} : Assume).holds Tryd.prog (lone (Frame.enter Tryd.prog f i.args .normal) [] (w.forCall tape i)))
    (hvars : s.vars = []) (hrt : fn.resultTypes = #[4]) (hreadB : fn.params.toList.all (fun t => Tryd.prog.readableRec t && decide (t < Tryd.prog.types.size)) = true)
    (hres : ∀ ds : List (DataW H), ds.length = fn.params.toList.length → s.fn H (ds ++ []) = { results := [.lit (.bool true)], args := ds })
    (walk : LawWalkT enc L f fn) :
    ReturnsInHanded {} Tryd.checked os f .any (fun w args => (s.pre enc Tryd.prog fn [] false w args ∧ laidMetH Tryd.prog L w) ∧ sizedMet enc Tryd.prog fn (OpenSpec.ofChange s) false w args) (s.post enc Tryd.prog fn false true false false) := by
  have hread : ∀ t, t ∈ fn.params.toList → Tryd.prog.readableRec t = true ∧ t < Tryd.prog.types.size := fun t ht => by
    have := List.all_eq_true.1 hreadB t ht
    simpa using this
  refine returnsInHanded_of_change_and (C := Tryd.checked) (X := fun w _ => laidMetH Tryd.prog L w) (fun _ _ _ hh h => h.of_heap hh) ownKnob0 started noInit hfn witness ?_
  intro W base args ds gs before hval hW _ hz hL _
  have hW' := hW
  have hlt := hW.lt
  obtain ⟨p, q, hA, hV, rfl, hfz, hnd⟩ := hW
  rw [hvars] at hV
  obtain ⟨rfl, rfl⟩ := trodVars_none hV
  simp only [List.append_nil] at hlt hW'
  have hpv : s.plain.varTypes Tryd.checked.prog = [] := by simp [ChangeSpec.plain, DataSpec.varTypes, hvars]
  rw [hpv] at hz
  refine (walk W base args ds p hval hA hlt hz hL).mono fun e W' ⟨he, hb⟩ => ?_
  subst he
  refine ⟨_, rfl, ds, [], p, [], p, [], hW', ?_, ?_, ?_, hb.frame _, fun h => by cases h⟩
  · have hlen := trodAll_length _ _ _ _ hA
    rw [hres ds hlen, hrt]
    exact trodAll_cons_mk (shut_bool Tryd.underlying4 _) trodAll_mk0
  · have hlen := trodAll_length _ _ _ _ hA
    rw [hres ds hlen]
    exact below_trodAll hb _ _ _ _ hread hA hlt
  · rw [hvars]
    have hlen := trodAll_length _ _ _ _ hA
    rw [hres ds hlen]
    rfl
end
end Go.Proofs.YtegjmmocnffpiaaDoor
/- The table of math/bits that the row lists, as the walks read it. -/
namespace Go.Proofs.YtegjmmocnffpiaaDoor
open Go.RowKit
abbrev dbTab : List Int := [0, 1, 28, 2, 29, 14, 24, 3, 30, 22, 20, 15, 25, 17, 4, 8, 31, 27, 13, 23, 21, 19, 16, 7, 26, 12, 18, 6, 11, 5, 10, 9]
/-- The table lies there. -/
def TabW (W : World) : Prop := ∀ i : Nat, i < 32 → W.cell? ⟨0, i, none⟩ = some (.int .u8 (dbTab.getD i 0))
set_option maxRecDepth 100000 in
theorem tabW_of {L : List (String × DataW Unit)} {W : World} (hL : L = [("math/bits.deBruijn32tab", Rows.laid_math_bits_deBruijn32tab)]) (h : laidMetH Tryd.prog L W) : TabW W := by
  have e : laidMetH Tryd.prog L W = laidMet Tryd.prog L W := MakeChecks.laidMetH_plain Tryd.prog L W (by rw [hL]; kernel_rfl)
  rw [e, hL] at h
  have hT := Lib.tabIs_of_head (g := 0) (k := .u8) (zs := dbTab) (name := "math/bits.deBruijn32tab") (rest := []) (by kernel_rfl) (by kernel_rfl) Tryd.underlying161 Tryd.underlying5 (by kernel_rfl) (by kernel_rfl) h
  exact fun i hi => hT.cell (by kernel_rfl) i hi
end Go.Proofs.YtegjmmocnffpiaaDoor
/- Bits: rules in the states of XSep; look-ups in memory that was there. Of no program. -/
namespace Go.Proofs.YtegjmmocnffpiaaDoor
open Go.RowKit
def pc8 (n : Nat) : Nat := ((List.range 8).filter fun i => n.testBit i).length
/-- The table of how many bits a byte has. -/
def popOk (bs : ByteArray) : Bool := (List.range 256).all fun i => match bs[i]? with
  | some b => b.toNat == pc8 i
  | none => false
section
variable {P : Program} {n : Nat} {md : Bool} {w0 : WM md} {ρ : Env} {Γ : List Assn} {Q : Exit → Act → World → Prop} {K : Act → World → Prop} {ty : TypeId} {pos : String} {af : Array Edge} {gd : Option (Nat × Bool)} {d : Nat} {ds : Option Tmp}
theorem q_andB {t yt : TypeId} {x y : Operand} {p q : Int} (s u : Bs) (hx : ev ρ x = some (.int .u16 p)) (hy : ev ρ y = some (.int .u16 q)) (hp : p = s.toNat) (hq : q = u.toNat) : Qv P n ρ Γ ⟨ds, .binOp .and t x y yt, ty, pos, af, gd⟩ (bsv (s &&& u)) := by
  subst hp hq
  exact q_bin hx hy fun w => by
    have e := wrap_bs (s &&& u)
    simp [binOp, Op.intBits, IntKind.bits, BitVec.ofInt_natCast] at e ⊢
    exact e
theorem q_orB {t yt : TypeId} {x y : Operand} {p q : Int} (s u : Bs) (hx : ev ρ x = some (.int .u16 p)) (hy : ev ρ y = some (.int .u16 q)) (hp : p = s.toNat) (hq : q = u.toNat) : Qv P n ρ Γ ⟨ds, .binOp .or t x y yt, ty, pos, af, gd⟩ (bsv (s ||| u)) := by
  subst hp hq
  exact q_bin hx hy fun w => by
    have e := wrap_bs (s ||| u)
    simp [binOp, Op.intBits, IntKind.bits, BitVec.ofInt_natCast] at e ⊢
    exact e
theorem q_andNotB {t yt : TypeId} {x y : Operand} {p q : Int} (s u : Bs) (hx : ev ρ x = some (.int .u16 p)) (hy : ev ρ y = some (.int .u16 q)) (hp : p = s.toNat) (hq : q = u.toNat) : Qv P n ρ Γ ⟨ds, .binOp .andNot t x y yt, ty, pos, af, gd⟩ (bsv (s &&& ~~~u)) := by
  subst hp hq
  exact q_bin hx hy fun w => by
    have e := wrap_bs (s &&& ~~~u)
    simp only [binOp, Op.intBits, IntKind.bits, ofInt_bs, ne_eq, not_true_eq_false, if_false, Sem.run_pure]
    exact congrArg (fun z => Result.ok (Value.int IntKind.u16 z) w) e
theorem wrap16 (z : Int) : IntKind.u16.wrap z = ((BitVec.ofInt 16 z).toNat : Int) := by
  simp only [IntKind.wrap, IntKind.bits, IntKind.signed, Bool.false_and, Bool.false_eq_true, if_false]
  rw [BitVec.toNat_ofInt, Int.toNat_of_nonneg (Int.emod_nonneg _ (by decide))]
  rfl
theorem q_negB {t : TypeId} {x : Operand} {p : Int} (s : Bs) (hx : ev ρ x = some (.int .u16 p)) (hp : p = s.toNat) : Qv P n ρ Γ ⟨ds, .unOp .neg t x, ty, pos, af, gd⟩ (bsv (-s)) := fun a w ha _ => by
  subst hp
  have e : IntKind.u16.wrap (0 - (s.toNat : Int)) = ((-s).toNat : Int) := by
    rw [wrap16, Int.zero_sub, BitVec.ofInt_neg, ofInt_bs]
  simp only [execOp, ha.ev hx, Op.unary, Op.intArith, e, Sem.run_bind, Sem.run_pure, Result.andThen_ok]
theorem q_predB {t yt : TypeId} {x y : Operand} {p : Int} (s : Bs) (hx : ev ρ x = some (.int .u16 p)) (hy : ev ρ y = some (.int .u16 1)) (hp : p = s.toNat) : Qv P n ρ Γ ⟨ds, .binOp .sub t x y yt, ty, pos, af, gd⟩ (bsv (s - 1#16)) := by
  subst hp
  have e : IntKind.u16.wrap ((s.toNat : Int) - 1) = ((s - 1#16).toNat : Int) := by
    rw [wrap16, Int.sub_eq_add_neg, BitVec.ofInt_add, ofInt_bs, BitVec.ofInt_neg, BitVec.sub_eq_add_neg]
    rfl
  exact q_bin hx hy fun w => by simp only [binOp, Op.intArith, e, ne_eq, not_true_eq_false, if_false, Sem.run_pure]
theorem q_mulW {t yt : TypeId} {x y : Operand} {k : IntKind} {p q : Int} (hx : ev ρ x = some (.int k p)) (hy : ev ρ y = some (.int k q)) : Qv P n ρ Γ ⟨ds, .binOp .mul t x y yt, ty, pos, af, gd⟩ (.int k (k.wrap (p * q))) :=
  q_bin hx hy fun w => by simp [binOp, Op.intArith]
/-- s >> m. -/
theorem q_shrB {t yt : TypeId} {x y : Operand} {ky : IntKind} {p q : Int} (s : Bs) (m : Nat) (hx : ev ρ x = some (.int .u16 p)) (hy : ev ρ y = some (.int ky q)) (hp : p = s.toNat) (hq : q = ((m : Nat) : Int)) (hm : m ≤ 16) : Qv P n ρ Γ ⟨ds, .binOp .shr t x y yt, ty, pos, af, gd⟩ (bsv (s >>> m)) := by
  subst hp
  have := q_shr (P := P) (n := n) (Γ := Γ) (t := t) (yt := yt) (ty := ty) (pos := pos) (af := af) (gd := gd) (ds := ds) m hx hy hq (by simpa [IntKind.bits] using hm)
  have e : ((s.toNat : Int) / 2 ^ m) = ((s >>> m).toNat : Int) := by
    rw [BitVec.toNat_ushiftRight, Nat.shiftRight_eq_div_pow]
    norm_cast
  rwa [e] at this
/-- 1 << m. -/
theorem q_shlB {t yt : TypeId} {x y : Operand} {ky : IntKind} {q : Int} (m : Nat) (hx : ev ρ x = some (.int .u16 1)) (hy : ev ρ y = some (.int ky q)) (hq : q = ((m : Nat) : Int)) (hm : m ≤ 16) : Qv P n ρ Γ ⟨ds, .binOp .shl t x y yt, ty, pos, af, gd⟩ (bsv (BitVec.twoPow 16 m)) := fun a w ha _ => by
  subst hq
  have h0 : ¬ ((m : Int) < 0) := by omega
  have h1 : min m 16 = m := Nat.min_eq_left hm
  have e : IntKind.u16.wrap (1 * 2 ^ m) = ((BitVec.twoPow 16 m).toNat : Int) := by
    rw [wrap16, Int.one_mul, BitVec.toNat_twoPow]
    have e2 : ((2 : Int) ^ m) = ((2 ^ m : Nat) : Int) := by norm_cast
    rw [e2, BitVec.ofInt_natCast, BitVec.toNat_ofNat]
  simp only [execOp, ha.ev hx, ha.ev hy, eqGuard, binOp, Op.shift, IntKind.bits, h0, if_false, Int.toNat_natCast, h1, e, Sem.run_bind, Sem.run_pure]
  simp
/-- 1<<m - 1 -/
theorem twoPow_pred : ∀ m : Nat, m ≤ 16 → BitVec.twoPow 16 m - 1#16 = mask m := by
  intro m hm
  have : ∀ k : _root_.Fin 17, BitVec.twoPow 16 k.1 - 1#16 = mask k.1 := by decide
  exact this ⟨m, by omega⟩
theorem q_popAt {t : TypeId} {x y : Operand} {bs : ByteArray} {ky : IntKind} {z : Int} (i : Nat) (ht : P.underlying t = some .string) (hx : ev ρ x = some (.string bs)) (hb : popOk bs = true) (hy : ev ρ y = some (.int ky z)) (hz : z = ((i : Nat) : Int)) (hi : i < 256) : Qv P n ρ Γ ⟨ds, .index t x y, ty, pos, af, gd⟩ (.int .u8 ((pc8 i : Nat) : Int)) := fun a w ha _ => by
  subst hz
  have h := List.all_eq_true.1 hb i (List.mem_range.2 hi)
  cases e : bs[i]? with
  | none => rw [e] at h; cases h
  | some b =>
    rw [e] at h
    have h : b.toNat = pc8 i := by simpa using h
    simp [execOp, ha.ev hx, ha.ev hy, Instr.index, asIntOf, run_underlying ht, e, h]
end
theorem pc8_le (n : Nat) : pc8 n ≤ 8 := by
  have := List.length_filter_le (fun i => n.testBit i) (List.range 8)
  rw [List.length_range] at this
  exact this
theorem lst_pc (s : Bs) : (lst s).length = pc8 (s.toNat / 256) + pc8 (s.toNat % 256) := by
  have e : (List.range 16) = List.range 8 ++ (List.range 8).map (8 + ·) := by decide
  unfold lst
  rw [e, List.filter_append, List.length_append, List.filter_map, List.length_map]
  have e1 : (List.range 8).filter (fun i => s.getLsbD i) = (List.range 8).filter fun i => (s.toNat % 256).testBit i := List.filter_congr fun i hi => by
    have := List.mem_range.1 hi
    rw [show (256 : Nat) = 2 ^ 8 from rfl, Nat.testBit_mod_two_pow, BitVec.getLsbD]
    simp [this]
  have e2 : (List.range 8).filter ((fun i => s.getLsbD i) ∘ (8 + ·)) = (List.range 8).filter fun i => (s.toNat / 256).testBit i := List.filter_congr fun i _ => by
    rw [show (256 : Nat) = 2 ^ 8 from rfl, Nat.testBit_div_two_pow, Function.comp, BitVec.getLsbD, Nat.add_comm]
  rw [e1, e2]
  unfold pc8
  omega
/-! Look-ups in a map of memory that was there. -/
theorem q_lookup1W {P : Program} {n : Nat} {ρ : Env} {Γ : List Assn} {ty : TypeId} {pos : String} {af : Array Edge} {gd : Option (Nat × Bool)} {ds : Option Tmp} {t kt et : TypeId} {q : IntKind} {x y : Operand} {b : Nat} {kk : IntKind} {z : Int} {zv : Value} {W : World} {es : Array MapEntry} {clock : Nat} (l : List (Int × Value)) (v : Value) (ht : P.underlying t = some (.map kt et)) (hk : P.underlying kt = some (.int q)) (hzv : (P.info? et).bind (·.zero) = some zv)
    (hx : ev ρ x = some (.map (some b))) (hy : ev ρ y = some (.int kk z)) [h : HasOld Γ W] (hq : q = kk) (hb : W.heap[b]? = some (.map es clock)) (hr : MapRep kk l es.toList clock) (hv : v = (alGet z l).getD zv) : Qv P n ρ Γ ⟨ds, .lookup t x y false, ty, pos, af, gd⟩ v := by
  intro a w ha hs
  have hs2 : Sat w (mapL b kk l :: []) := by
    refine ⟨HL.of w, HL.le.refl _, HL.of w, HL.emp, fun _ => .inr rfl, HL.le.refl _, HL.emp_le _, ⟨es, clock, ?_, hr⟩, trivial⟩
    exact h.sat w hs b _ hb
  exact q_lookup1 (Γ := mapL b kk l :: []) v ht hk hzv hx hy hq hv a w ha hs2
end Go.Proofs.YtegjmmocnffpiaaDoor
/- Ranging over a map with whole-number keys whose rounds leave the map alone; maps.clone. Of no program. -/
namespace Go.Proofs.YtegjmmocnffpiaaDoor
open Go.RowKit
open Go.ChangeMaps (setBlock)
/-- Block r goes over the map of block b; left: what is still to come; cur: what came last. -/
def rngM (r b : Nat) (kk : IntKind) (l left : List (Int × Value)) (cur : Option (Int × Value)) : Assn := fun h => ∃ (es : Array MapEntry) (clock since : Nat) (seen : Array Nat) (c0 : Nat), h b = some (.map es clock) ∧ h r = some (.mapIter (some b) since seen c0) ∧ r ≠ b ∧
  MapRep kk l es.toList clock ∧ (∀ x ∈ es.toList, x.born < since) ∧ since ≤ c0 ∧ since ≤ clock ∧ (leftOf es seen).toList.map (fun e => (e.key, e.val)) = left.map (fun x => (Value.int kk x.1, x.2)) ∧
  (∀ z v, cur = some (z, v) → ∃ (seen' : Array Nat) (e : MapEntry), seen = seen'.push e.born ∧ c0 = clock ∧ e ∈ es.toList ∧ e.key = .int kk z ∧ e.val = v)
theorem Ent.rngM {r b : Nat} {kk : IntKind} {l left : List (Int × Value)} {cur : Option (Int × Value)} (Γ : List Assn) : Ent (rngM r b kk l left cur :: Γ) (mapL b kk l :: Γ) :=
  Ent.mono1 Γ fun _ ⟨es, clock, _, _, _, h1, _, _, h4, _⟩ => ⟨es, clock, h1, h4⟩
class HasR (Γ : List Assn) (r : Nat) (b : outParam Nat) (kk : outParam IntKind) (l left : outParam (List (Int × Value))) (cur : outParam (Option (Int × Value))) (Δ : outParam (List Assn)) : Prop where
  ent : Ent Γ (rngM r b kk l left cur :: Δ)
instance (priority := high) HasR.head {Γ : List Assn} {r b : Nat} {kk : IntKind} {l left : List (Int × Value)} {cur : Option (Int × Value)} : HasR (rngM r b kk l left cur :: Γ) r b kk l left cur Γ := ⟨Ent.refl _⟩
instance HasR.tail {A : Assn} {Γ Δ : List Assn} {r b : Nat} {kk : IntKind} {l left : List (Int × Value)} {cur : Option (Int × Value)} [h : HasR Γ r b kk l left cur Δ] : HasR (A :: Γ) r b kk l left cur (A :: Δ) := ⟨(h.ent.cons A).trans (Ent.swap _ _ _)⟩
theorem born_inj {l : List MapEntry} (h : l.Pairwise (fun a b => a.born < b.born)) {x y : MapEntry} (hx : x ∈ l) (hy : y ∈ l) (e : x.born = y.born) : x = y := by
  induction l with
  | nil => cases hx
  | cons z l ih =>
    rw [List.pairwise_cons] at h
    rcases List.mem_cons.1 hx with e1 | h1
    · rcases List.mem_cons.1 hy with e2 | h2
      · rw [e1, e2]
      · have := h.1 y h2; rw [← e1] at this; omega
    · rcases List.mem_cons.1 hy with e2 | h2
      · have := h.1 x h1; rw [← e2] at this; omega
      · exact ih h.2 h1 h2
theorem filter_ne_erase {l : List MapEntry} (h : l.Pairwise (fun a b => a.born < b.born)) {i : Nat} {e : MapEntry} (hi : l[i]? = some e) : l.filter (fun x => decide (x.born ≠ e.born)) = l.eraseIdx i := by
  induction l generalizing i with
  | nil => simp at hi
  | cons z l ih =>
    rw [List.pairwise_cons] at h
    cases i with
    | zero =>
      simp only [List.getElem?_cons_zero, Option.some.injEq] at hi
      subst hi
      rw [List.filter_cons_of_neg (by simp), List.eraseIdx_cons_zero]
      refine List.filter_eq_self.2 fun x hx => ?_
      have := h.1 x hx
      simp; omega
    | succ i =>
      have hi' : l[i]? = some e := by simpa using hi
      have := h.1 e (List.mem_of_getElem? hi')
      rw [List.filter_cons_of_pos (by simp; omega), List.eraseIdx_cons_succ, ih h.2 hi']
theorem leftOf_push (es : Array MapEntry) (seen : Array Nat) (c : Nat) : (leftOf es (seen.push c)).toList = (leftOf es seen).toList.filter fun x => decide (x.born ≠ c) := by
  unfold leftOf
  rw [Array.toList_filter, Array.toList_filter, List.filter_filter]
  refine List.filter_congr fun x _ => ?_
  by_cases h : x.born = c
  · simp [h]
  · have h' : ¬ c = x.born := fun e => h e.symm
    simp [h]
section
variable {P : Program} {n : Nat} {md : Bool} {w0 : WM md} {ρ : Env} {Γ : List Assn} {Q : Exit → Act → World → Prop} {K : Act → World → Prop} {ty : TypeId} {pos : String} {af : Array Edge} {gd : Option (Nat × Bool)} {d : Nat} {ds : Option Tmp}
/-- range m -/
theorem S.range {t kt et : TypeId} {x : Operand} {b : Nat} {kk : IntKind} {l : List (Int × Value)} {Δ : List Assn} (ht : P.underlying t = some (.map kt et)) (hx : ev ρ x = some (.map (some b))) [h : HasM Γ b kk l Δ] (hn : Nat.blt d n = true)
    (k : ∀ r, S n w0 ((d, .pointer (some ⟨r, 0, none⟩)) :: ρ) (rngM r b kk l l none :: Δ) K) : S n w0 ρ Γ (Ow P Q ⟨some d, .range t x, ty, pos, af, gd⟩ K) := by
  intro a w ha hs hxt
  have hs1 := hs.ent h.ent
  obtain ⟨es, clock, hb, hr⟩ := hs1.isMap
  have hlt : b < w.heap.size := (Array.getElem?_eq_some_iff.1 hb).1
  have hrun : (execOp a.eval ⟨some d, .range t x, ty, pos, af, gd⟩).run P w = .ok (.value (.pointer (some ⟨w.heap.size, 0, none⟩))) (w.alloc (.mapIter (some b) clock #[] clock)) := by
    simp only [execOp, ha.ev hx, Sem.run_bind, run_range_map w t kt et b es clock ht hb, Result.andThen_ok, Sem.run_pure]
  unfold Ow Oper.wp
  rw [hrun, Oper.upon_value]
  refine k w.heap.size _ _ (ha.put hn _) ?_ (hxt.alloc _)
  refine hs1.upd fun y l1 p1 => ?_
  obtain ⟨es', clock', hb', hr'⟩ := p1
  have e1 := l1 b _ hb'
  unfold HL.of at e1
  rw [hb] at e1
  cases e1
  refine ⟨HL.join (HL.one b (.map es clock)) (HL.one w.heap.size (.mapIter (some b) clock #[] clock)), HL.join_le (HL.one_le ?_) (HL.one_le ?_), ⟨es, clock, clock, #[], clock, ?_, ?_, by omega, hr, hr.lt, Nat.le_refl _, Nat.le_refl _, ?_, fun z v e => by cases e⟩, fun c hc hcl => ⟨?_, ?_⟩⟩
  · exact (Below.heap_alloc w _ b hlt).trans hb
  · exact hx_new rfl
  · simp [HL.join, HL.one]
  · have : w.heap.size ≠ b := by omega
    simp [HL.join, HL.one, this]
  · rw [← hr.ent]
    unfold leftOf
    rw [Array.toList_filter, List.filter_eq_self.2 (fun x _ => by simp)]
  · have hcl' : c < w.heap.size := by
      rcases Nat.lt_or_ge c w.heap.size with h2 | h2
      · exact h2
      · simp [Array.getElem?_eq_none h2] at hcl
    refine HL.join_none (HL.one_none fun e => ?_) (HL.one_none (by omega))
    subst e
    rw [hb'] at hc
    cases hc
  · have hcl' : c < w.heap.size := by
      rcases Nat.lt_or_ge c w.heap.size with h2 | h2
      · exact h2
      · simp [Array.getElem?_eq_none h2] at hcl
    exact Below.heap_alloc w _ c hcl'
/-- next: nothing is left, or one of those that are. -/
theorem S.nextR {x : Operand} {r b : Nat} {kk : IntKind} {l left : List (Int × Value)} {cur : Option (Int × Value)} {Δ : List Assn} (hx : ev ρ x = some (.pointer (some ⟨r, 0, none⟩))) [h : HasR Γ r b kk l left cur Δ] (hn : Nat.blt d n = true)
    (k0 : left = [] → S n w0 ((d, .tuple #[.bool false]) :: ρ) (rngM r b kk l left cur :: Δ) K)
    (k1 : ∀ i z v, left[i]? = some (z, v) → S n w0 ((d, .tuple #[.bool true, .int kk z, v]) :: ρ) (rngM r b kk l (left.eraseIdx i) (some (z, v)) :: Δ) K) :
    S n w0 ρ Γ (Ow P Q ⟨some d, .next x false, ty, pos, af, gd⟩ K) := by
  intro a w ha hs hxt
  have hs1 := hs.ent h.ent
  obtain ⟨y, l1, es, clock, since, seen, c0, h1, h2, h3, h4, h5, h6, h6', h7, h8⟩ := hs1.head
  have hb : w.heap[b]? = some (.map es clock) := l1 b _ h1
  have hr : w.heap[r]? = some (.mapIter (some b) since seen c0) := l1 r _ h2
  rcases run_next_at (P := P) w ty r b since c0 seen es clock hr hb h5 h6 with ⟨h0, hrun⟩ | ⟨e, he, w1, hw1, hrun⟩
  · have hl : left = [] := by
      have e0 : leftOf es seen = #[] := Array.eq_empty_of_size_eq_zero h0
      rw [e0] at h7
      exact List.map_eq_nil_iff.1 h7.symm
    have hr2 : (execOp a.eval ⟨some d, .next x false, ty, pos, af, gd⟩).run P w = .ok (.value (.tuple #[.bool false])) w := by
      simp only [execOp, ha.ev hx, Sem.run_bind, hrun, Result.andThen_ok, Sem.run_pure]
    unfold Ow Oper.wp
    rw [hr2, Oper.upon_value]
    exact k0 hl _ _ (ha.put hn _) hs1 hxt
  · obtain ⟨i, hi⟩ := List.getElem?_of_mem he
    have hpw : (leftOf es seen).toList.Pairwise (fun a b => a.born < b.born) := by
      unfold leftOf
      rw [Array.toList_filter]
      exact h4.born.filter _
    have hmem : e ∈ es.toList := by
      unfold leftOf at he
      rw [Array.toList_filter] at he
      exact (List.mem_filter.1 he).1
    have hi2 := congrArg (fun q => q[i]?) h7
    simp only [List.getElem?_map, hi, Option.map_some] at hi2
    cases hli : left[i]? with
    | none => rw [hli] at hi2; cases hi2
    | some zv =>
      obtain ⟨z, v⟩ := zv
      rw [hli] at hi2
      simp only [Option.map_some, Option.some.injEq, Prod.mk.injEq] at hi2
      have hr2 : (execOp a.eval ⟨some d, .next x false, ty, pos, af, gd⟩).run P w = .ok (.value (.tuple #[.bool true, .int kk z, v])) (setBlock w1 r (.mapIter (some b) since (seen.push e.born) clock)) := by
        simp only [execOp, ha.ev hx, Sem.run_bind, hrun, Result.andThen_ok, Sem.run_pure, hi2.1, hi2.2]
      have hw1h : w1.heap = w.heap := by rcases hw1 with rfl | rfl <;> rfl
      unfold Ow Oper.wp
      rw [hr2, Oper.upon_value]
      refine k1 i z v hli _ _ (ha.put hn _) ?_ ?_
      · have hs2 : Sat w1 (rngM r b kk l left cur :: Δ) := hs1.of_heap hw1h
        refine hs2.upd fun y l2 p2 => ?_
        obtain ⟨es', clock', _, _, _, g1, g2, _⟩ := p2
        have q1 := l2 b _ g1
        unfold HL.of at q1
        rw [hw1h, hb] at q1
        cases q1
        have hrl : r < w1.heap.size := by rw [hw1h]; exact (Array.getElem?_eq_some_iff.1 hr).1
        refine ⟨HL.join (HL.one b (.map es clock)) (HL.one r (.mapIter (some b) since (seen.push e.born) clock)), HL.join_le (HL.one_le ?_) (HL.one_le ?_), ⟨es, clock, since, seen.push e.born, clock, ?_, ?_, h3, h4, h5, h6', h6', ?_, fun z' v' e' => ?_⟩, fun c hc _ => ⟨?_, ?_⟩⟩
        · show (w1.heap.setIfInBounds r _)[b]? = _
          rw [Array.getElem?_setIfInBounds_ne h3, hw1h, hb]
        · show (w1.heap.setIfInBounds r _)[r]? = _
          rw [Array.getElem?_setIfInBounds_self_of_lt hrl]
        · simp [HL.join, HL.one]
        · simp [HL.join, HL.one, h3]
        · rw [leftOf_push, filter_ne_erase hpw hi, map_eraseIdx', h7, ← map_eraseIdx']
        · cases e'
          exact ⟨seen, e, rfl, rfl, hmem, hi2.1, hi2.2⟩
        · refine HL.join_none (HL.one_none fun e => ?_) (HL.one_none fun e => ?_)
          · subst e; rw [g1] at hc; cases hc
          · subst e; rw [g2] at hc; cases hc
        · show (w1.heap.setIfInBounds r _)[c]? = _
          have : r ≠ c := fun e => by subst e; rw [g2] at hc; cases hc
          rw [Array.getElem?_setIfInBounds_ne this]
      · have hx1 : Ext w0 w1 := by
          rcases hw1 with rfl | rfl
          · exact hxt
          · exact hxt.drew
        exact hx1.setObj r _
/-- The round's key and value. -/
theorem q_entryR {x : Operand} {r b : Nat} {kk : IntKind} {l left : List (Int × Value)} {z : Int} {v : Value} {Δ : List Assn} (hx : ev ρ x = some (.pointer (some ⟨r, 0, none⟩))) [h : HasR Γ r b kk l left (some (z, v)) Δ] : Qv P n ρ Γ ⟨ds, .entry x, ty, pos, af, gd⟩ (.tuple #[.int kk z, v]) := by
  intro a w ha hs
  obtain ⟨y, l1, es, clock, since, seen, c0, h1, h2, h3, h4, h5, h6, h6', h7, h8⟩ := (hs.ent h.ent).head
  obtain ⟨seen', e, rfl, rfl, he, hk, hv⟩ := h8 z v rfl
  have hnd : (es.toList.map (·.born)).Nodup := List.pairwise_map.2 (h4.born.imp fun h => Nat.ne_of_lt h)
  have := run_entry_at (P := P) w r b since seen' es c0 e (l1 r _ h2) (l1 b _ h1) he hnd
  rw [hk, hv] at this
  simp only [execOp, ha.ev hx, Sem.run_bind, this, Result.andThen_ok, Sem.run_pure]
/-- maps.clone -/
theorem run_clone {r : Nat} {es : Array MapEntry} {clock : Nat} (t : TypeId) (w : World) (hb : w.heap[r]? = some (.map es clock)) :
    (Extern.MapsClone.clone #[.iface t (.map (some r))]).run P w = .ok (.iface t (.map (some w.heap.size))) (w.alloc (.map es clock)) := by
  have e : Extern.MapsClone.clone #[.iface t (.map (some r))] = (getObj r >>= fun o => match o with
      | .map entries clock => (newObj (.map entries clock) >>= fun n => pure (.iface t (.map (some n))))
      | _ => stuck "maps.clone: a map expected") := rfl
  rw [e]
  simp [MapKept.run_getObj_map hb, Result.andThen, go_sem]
theorem S.clone {f : FuncId} {fn : Func} {x : Operand} {ats : Array TypeId} {t : TypeId} {b : Nat} {kk : IntKind} {l : List (Int × Value)} {Δ : List Assn} (hf : P.funcs[f]? = some fn) (hname : (fn.name == "runtime.NumGoroutine") = false) (hb : fn.body.isNone = true) (hnx : Extern.findNext fn = none) (he : Extern.find fn = some Extern.MapsClone.clone)
    (hx : ev ρ x = some (.iface t (.map (some b)))) [h : HasM Γ b kk l Δ] (hn : Nat.blt d n = true)
    (k : ∀ c, S n w0 ((d, .iface t (.map (some c))) :: ρ) (mapL c kk l :: mapL b kk l :: Δ) K) : S n w0 ρ Γ (Ow P Q ⟨some d, .call { callee := .value (.func f), args := #[x], argTypes := ats }, ty, pos, af, gd⟩ K) := by
  intro a w ha hs hxt
  have hs1 := hs.ent h.ent
  obtain ⟨es, clock, hbm, hr⟩ := hs1.isMap
  have hrun : (execOp a.eval ⟨some d, .call { callee := .value (.func f), args := #[x], argTypes := ats }, ty, pos, af, gd⟩).run P w = .ok (.value (.iface t (.map (some w.heap.size)))) (w.alloc (.map es clock)) := by
    have h1 := run_callFunc_extern hf hname hb hnx he #[.iface t (.map (some b))] w
    rw [run_clone t w hbm] at h1
    simp only [Result.andThen] at h1
    have hfv : a.eval (.func f) = .func (.func f) #[] #[] := rfl
    simp [execOp, resolve, hfv, Deferred.ofValue, invoke, ha.ev hx, h1]
  unfold Ow Oper.wp
  rw [hrun, Oper.upon_value]
  refine k w.heap.size _ _ (ha.put hn _) ?_ (hxt.alloc _)
  have h0 : Sat w ((fun _ => True : Assn) :: mapL b kk l :: Δ) := by
    obtain ⟨y, l, s⟩ := hs1
    exact ⟨y, l, HL.emp, y, HL.emp_disj _, HL.emp_le _, HL.le.refl _, trivial, s⟩
  refine h0.upd fun y _ _ => ⟨HL.one w.heap.size (.map es clock), HL.one_le (hx_new rfl), ⟨es, clock, HL.one_self _ _, hr⟩, fun c _ hc => ?_⟩
  have hlt : c < w.heap.size := by
    rcases Nat.lt_or_ge c w.heap.size with h | h
    · exact h
    · simp [Array.getElem?_eq_none h] at hc
  exact ⟨HL.one_none (by omega), Below.heap_alloc _ _ _ hlt⟩
/-- v.(T), where v is of type T. -/
theorem q_assert {t s : TypeId} {x : Operand} {v : Value} {kt et : TypeId} (ht : P.underlying t = some (.map kt et)) (hx : ev ρ x = some (.iface t v)) : Qv P n ρ Γ ⟨ds, .typeAssert x s t false, ty, pos, af, gd⟩ v := fun a w ha _ => by
  have h1 : (Instr.typeAssert (.iface t v) s t false).run P w = .ok v w := by simp [Instr.typeAssert, run_underlying ht, go_sem, Result.andThen]
  simp only [execOp, ha.ev hx, Sem.run_bind, h1, Result.andThen_ok, Sem.run_pure]
/-- m == nil -/
theorem q_eqMN {t yt kt et : TypeId} {x y : Operand} {p : Option Nat} (ht : P.underlying t = some (.map kt et)) (hx : ev ρ x = some (.map p)) (hy : ev ρ y = some (.map none)) : Qv P n ρ Γ ⟨ds, .binOp .eql t x y yt, ty, pos, af, gd⟩ (.bool p.isNone) :=
  q_binR hx hy (fun w => by simp [eqGuard]) (fun w => by
    simp only [binOp]
    rw [show Op.equal t (.map p) (.map none) = Op.equalIn (9999 + 1) t (.map p) (.map none) from rfl]
    unfold Op.equalIn
    cases p <;> simp [run_underlying ht])
end
end Go.Proofs.YtegjmmocnffpiaaDoor
/- Sets of nodes: the contracts of their functions; bits.OnesCount16, TrailingZeros16. -/
namespace Go.Proofs.YtegjmmocnffpiaaDoor
open Go.RowKit
set_option maxRecDepth 20000
theorem OnesCount16_S {md : Bool} (s : Bs) : Spec Tryd.prog 80 [bsv s] [] (fun Γ v Θ => v = .int .i64 ((lst s).length : Nat) ∧ Θ = Γ) md := by
  refine Spec.of_body Tryd.func80 rfl Tryd.ntmps80 rfl ?_
  intro w0 Γ
  have hs := bs_lt s
  have e1 : ((s >>> 8).toNat : Int) = ((s.toNat / 256 : Nat) : Int) := by rw [BitVec.toNat_ushiftRight, Nat.shiftRight_eq_div_pow]
  have e2 : ((s &&& 255#16).toNat : Int) = ((s.toNat % 256 : Nat) : Int) := by
    rw [BitVec.toNat_and, show (255#16 : Bs).toNat = 2 ^ 8 - 1 from rfl, Nat.and_two_pow_sub_one_eq_mod]
  have p1 := pc8_le (s.toNat / 256)
  have p2 := pc8_le (s.toNat % 256)
  show S _ w0 [(0, bsv s)] Γ _
  refine S.seq fun K1 hK1 => ?_
  refine S.region rfl ?_
  refine S.op (S.q (q_assign rfl) rfl rfl ?_)
  first | with_reducible refine S.nilK ?_ | refine S.nil ?_
  refine hK1 _ _ ?_
  refine S.seq fun K2 hK2 => ?_
  refine S.draw ([]) [] Tryd.mixed ?_
  refine S.dr_take 0 [] rfl (by kernel_rfl) rfl rfl rfl (q_move rfl) Sub.ent ?_
  refine S.dr_take 1 [] rfl (by kernel_rfl) rfl rfl rfl (q_shrB (s) (8) rfl rfl rfl (rfl) (by omega)) Sub.ent ?_
  refine S.dr_take 2 [] rfl (by kernel_rfl) rfl rfl rfl (q_popAt (s.toNat / 256) Tryd.underlying9 rfl (by kernel_rfl) rfl e1 (by omega)) Sub.ent ?_
  refine S.dr_take 3 [] rfl (by kernel_rfl) rfl rfl rfl (q_move rfl) Sub.ent ?_
  refine S.dr_take 4 [] rfl (by kernel_rfl) rfl rfl rfl (q_andB (s) (255#16) rfl rfl (rfl) (rfl)) Sub.ent ?_
  refine S.dr_take 5 [] rfl (by kernel_rfl) rfl rfl rfl (q_popAt (s.toNat % 256) Tryd.underlying9 rfl (by kernel_rfl) rfl e2 (by omega)) Sub.ent ?_
  refine S.dr_take 6 [] rfl (by kernel_rfl) rfl rfl rfl (q_add rfl rfl (inU8 (by omega) (by omega))) Sub.ent ?_
  refine S.dr_take 7 [] rfl (by kernel_rfl) rfl rfl rfl (q_conv Tryd.it3 (by rw [Tryd.underlying5]; rfl) rfl (inI64 (by omega) (by omega))) Sub.ent ?_
  refine S.dr_take 8 [] rfl (by kernel_rfl) rfl rfl rfl (q_assign rfl) Sub.ent ?_
  first | with_reducible refine S.dr_doneK (by kernel_rfl) ?_ | refine S.dr_done (by kernel_rfl) ?_
  refine hK2 _ _ ?_
  refine S.ret ?_
  with_reducible repeat (first | refine S.then_n ?_ | refine S.then_x ?_ | refine S.then_r ?_ | refine S.inBlock_n ?_ | refine S.inBlock_r ?_ | refine S.inBlock_x rfl ?_ | refine S.noGoto_r ?_ | refine S.noGoto_n ?_ | refine S.noGoto_x ?_)
  exact S.fin (rs := [_]) (vs := [_]) Tryd.results80 (⟨rfl, trivial⟩)  (⟨by simp only [resV]; rw [lst_pc]; simp, rfl⟩) Sub.ent
theorem count_S {md : Bool} (s : Bs) : Spec Tryd.prog 59 [bsv s] [] (fun Γ v Θ => v = .int .i64 ((lst s).length : Nat) ∧ Θ = Γ) md := by
  refine Spec.of_body Tryd.func59 rfl Tryd.ntmps59 rfl ?_
  intro w0 Γ
  show S _ w0 [(0, bsv s)] Γ _
  refine S.seq fun K1 hK1 => ?_
  refine S.region rfl ?_
  refine S.op (S.q (q_assign rfl) rfl rfl ?_)
  first | with_reducible refine S.nilK ?_ | refine S.nil ?_
  refine hK1 _ _ ?_
  refine S.seq fun K2 hK2 => ?_
  refine S.region rfl ?_
  refine S.op (S.q (q_move rfl) rfl rfl ?_)
  refine S.op (S.call Tryd.en80 (vs := [_]) ⟨rfl, trivial⟩ (OnesCount16_S s) rfl ?_)
  rintro v Θ ⟨rfl, rfl⟩
  refine S.op (S.q (q_assign rfl) rfl rfl ?_)
  first | with_reducible refine S.nilK ?_ | refine S.nil ?_
  refine hK2 _ _ ?_
  refine S.ret ?_
  with_reducible repeat (first | refine S.then_n ?_ | refine S.then_x ?_ | refine S.then_r ?_ | refine S.inBlock_n ?_ | refine S.inBlock_r ?_ | refine S.inBlock_x rfl ?_ | refine S.noGoto_r ?_ | refine S.noGoto_n ?_ | refine S.noGoto_x ?_)
  exact S.fin (rs := [_]) (vs := [_]) Tryd.results59 (⟨rfl, trivial⟩)  (⟨rfl, rfl⟩) Sub.ent
theorem has_bit (s : Bs) (m : Nat) : decide (((s >>> m &&& 1#16).toNat : Int) = 1) = s.getLsbD m := by
  have e : ((s >>> m &&& 1#16).toNat) = if s.getLsbD m then 1 else 0 := by
    rw [BitVec.toNat_and, BitVec.toNat_ushiftRight, show (1#16 : Bs).toNat = 1 from rfl, Nat.and_one_is_mod, BitVec.getLsbD, Nat.testBit, Nat.one_and_eq_mod_two, Nat.shiftRight_eq_div_pow]
    rcases Nat.mod_two_eq_zero_or_one (s.toNat / 2 ^ m) with h | h <;> simp [h]
  rw [e]
  cases s.getLsbD m <;> rfl
theorem has_S {md : Bool} (s : Bs) (m : Nat) (z : Int) (hz : z = (m : Int)) (hm : m ≤ 16) : Spec Tryd.prog 65 [bsv s, .int .i64 z] [] (fun Γ v Θ => v = .bool (s.getLsbD m) ∧ Θ = Γ) md := by
  subst hz
  refine Spec.of_body Tryd.func65 rfl Tryd.ntmps65 rfl ?_
  intro w0 Γ
  show S _ w0 [(0, bsv s), (1, .int .i64 m)] Γ _
  refine S.seq fun K1 hK1 => ?_
  refine S.region rfl ?_
  refine S.op (S.q (q_assign rfl) rfl rfl ?_)
  first | with_reducible refine S.nilK ?_ | refine S.nil ?_
  refine hK1 _ _ ?_
  refine S.seq fun K2 hK2 => ?_
  refine S.region rfl ?_
  refine S.op (S.q (q_move rfl) rfl rfl ?_)
  refine S.op (S.q (q_move rfl) rfl rfl ?_)
  refine S.op (S.q (q_shrB (s) (m) rfl rfl rfl (rfl) (hm)) rfl rfl ?_)
  refine S.op (S.q (q_andB (s >>> m) (1#16) rfl rfl (rfl) (rfl)) rfl rfl ?_)
  refine S.op (S.q (q_eq rfl rfl) rfl rfl ?_)
  refine S.op (S.q (q_assign rfl) rfl rfl ?_)
  first | with_reducible refine S.nilK ?_ | refine S.nil ?_
  refine hK2 _ _ ?_
  refine S.ret ?_
  with_reducible repeat (first | refine S.then_n ?_ | refine S.then_x ?_ | refine S.then_r ?_ | refine S.inBlock_n ?_ | refine S.inBlock_r ?_ | refine S.inBlock_x rfl ?_ | refine S.noGoto_r ?_ | refine S.noGoto_n ?_ | refine S.noGoto_x ?_)
  exact S.fin (rs := [_]) (vs := [_]) Tryd.results65 (⟨rfl, trivial⟩)  (⟨by simp only [resV]; rw [has_bit], rfl⟩) Sub.ent
theorem least_S (s : Bs) (k : Int) (hk0 : 0 ≤ k) (hk : k ≤ 9223372036854775807) : Spec Tryd.prog 60 [bsv s, .int .i64 k] [] (fun Γ v Θ => v = bsv (leastK s k.toNat) ∧ Θ = Γ) := by
  refine Spec.of_body Tryd.func60 rfl Tryd.ntmps60 rfl ?_
  intro w0 Γ
  show S _ w0 [(0, bsv s), (1, .int .i64 k)] Γ _
  refine S.seq fun K1 hK1 => ?_
  refine S.region rfl ?_
  refine S.op (S.q (q_assign rfl) rfl rfl ?_)
  first | with_reducible refine S.nilK ?_ | refine S.nil ?_
  refine hK1 _ _ ?_
  refine S.seq fun K2 hK2 => ?_
  refine S.region rfl ?_
  refine S.op (S.q (q_assign rfl) rfl rfl ?_)
  first | with_reducible refine S.nilK ?_ | refine S.nil ?_
  refine hK2 _ _ ?_
  refine S.seq fun K3 hK3 => ?_
  refine S.block ?_
  refine S.loop (fun m ρ' Γ' => ∃ (j : Nat) (u o : Bs) (q : Int), j ≤ k.toNat ∧ q = k - j ∧ lst u = (lst s).drop j ∧ o = ofL ((lst s).take j) ∧ m = (lst u).length ∧ ρ' = [(0, bsv u), (1, .int .i64 q), (5, bsv o)] ∧ Γ' = Γ) (m := _) (ρ0 := _) (Γ0 := _) (⟨0, s, 0#16, k, by omega, by omega, by simp, by simp [ofL], rfl, rfl, rfl⟩) (by repeat (first | exact trivial | refine ⟨rfl, ?_⟩)) Sub.ent ?_
  rintro m ρ' Γ' ⟨j, u, o, q, hj, hq, hu, ho, hm, rfl, rfl⟩
  refine S.seq fun K4 hK4 => ?_
  refine S.seq fun K5 hK5 => ?_
  refine S.regionG ?_
  refine S.g_op rfl (S.q (q_move rfl) rfl rfl ?_)
  refine S.g_op rfl (S.q (q_gt rfl rfl) rfl rfl ?_)
  refine S.g_op rfl (S.q (q_move rfl) rfl rfl ?_)
  by_cases hg2_2 : (0 : Int) < q
  · refine S.g_yes rfl rfl rfl (decide_eq_true hg2_2) (S.q (q_move rfl) rfl rfl ?_)
    refine S.g_yes rfl rfl rfl (decide_eq_true hg2_2) (S.q (q_ne rfl rfl) rfl rfl ?_)
    refine S.g_op rfl (S.q (q_pickT rfl (decide_eq_true hg2_2) rfl) rfl rfl ?_)
    first | with_reducible refine S.g_nilK ?_ | refine S.g_nil ?_
    refine hK5 _ _ ?_
    refine S.condD rfl (fun h1 => ?_) (fun h1 => ?_)
    · refine S.skip ?_
      with_reducible repeat (first | refine S.then_n ?_ | refine S.then_x ?_ | refine S.then_r ?_ | refine S.inBlock_n ?_ | refine S.inBlock_r ?_ | refine S.inBlock_x rfl ?_ | refine S.noGoto_r ?_ | refine S.noGoto_n ?_ | refine S.noGoto_x ?_)
      refine hK4 _ _ ?_
      refine S.seq fun K6 hK6 => ?_
      refine S.block ?_
      refine S.seq fun K7 hK7 => ?_
      refine S.region rfl ?_
      refine S.op (S.q (q_move rfl) rfl rfl ?_)
      refine S.op (S.q (q_move rfl) rfl rfl ?_)
      refine S.op (S.q (q_negB (u) rfl rfl) rfl rfl ?_)
      refine S.op (S.q (q_andB (u) (-u) rfl rfl (rfl) (rfl)) rfl rfl ?_)
      refine S.op (S.q (q_assign rfl) rfl rfl ?_)
      first | with_reducible refine S.nilK ?_ | refine S.nil ?_
      refine hK7 _ _ ?_
      refine S.seq fun K8 hK8 => ?_
      refine S.region rfl ?_
      refine S.op (S.q (q_move rfl) rfl rfl ?_)
      refine S.op (S.q (q_move rfl) rfl rfl ?_)
      refine S.op (S.q (q_orB (o) (u &&& -u) rfl rfl (rfl) (rfl)) rfl rfl ?_)
      refine S.op (S.q (q_assign rfl) rfl rfl ?_)
      first | with_reducible refine S.nilK ?_ | refine S.nil ?_
      refine hK8 _ _ ?_
      refine S.region rfl ?_
      refine S.op (S.q (q_move rfl) rfl rfl ?_)
      refine S.op (S.q (q_move rfl) rfl rfl ?_)
      refine S.op (S.q (q_andNotB (u) (u &&& -u) rfl rfl (rfl) (rfl)) rfl rfl ?_)
      refine S.op (S.q (q_assign rfl) rfl rfl ?_)
      first | with_reducible refine S.nilK ?_ | refine S.nil ?_
      with_reducible repeat (first | refine S.then_n ?_ | refine S.then_x ?_ | refine S.then_r ?_ | refine S.inBlock_n ?_ | refine S.inBlock_r ?_ | refine S.inBlock_x rfl ?_ | refine S.noGoto_r ?_ | refine S.noGoto_n ?_ | refine S.noGoto_x ?_)
      refine hK6 _ _ ?_
      refine S.region rfl ?_
      refine S.op (S.q (q_move rfl) rfl rfl ?_)
      refine S.op (S.q (q_sub rfl rfl (inI64 (by omega) (by omega))) rfl rfl ?_)
      refine S.op (S.q (q_assign rfl) rfl rfl ?_)
      first | with_reducible refine S.nilK ?_ | refine S.nil ?_
      with_reducible repeat (first | refine S.then_n ?_ | refine S.then_x ?_ | refine S.then_r ?_ | refine S.inBlock_n ?_ | refine S.inBlock_r ?_ | refine S.inBlock_x rfl ?_ | refine S.noGoto_r ?_ | refine S.noGoto_n ?_ | refine S.noGoto_x ?_)
      have h0 : u ≠ 0#16 := fun e => h1 (bs_zero.2 e)
      obtain ⟨t, l, hl⟩ : ∃ t l, lst u = t :: l := by
        cases e : lst u with
        | nil => exact absurd (lst_nil.1 e) h0
        | cons t l => exact ⟨t, l, rfl⟩
      have hlt : 0 < (lst u).length := by rw [hl]; simp
      have hu2 : lst (butLeast u) = (lst s).drop (j + 1) := by rw [lst_butLeast hl, ← List.tail_drop, ← hu, hl]; rfl
      have ho2 : o ||| (u &&& -u) = ofL ((lst s).take (j + 1)) := by
        rw [List.take_add, ← hu, hl, ofL_append, ho, low_bit u h0, tz_cons hl]
        simp [ofL]
      have hm2 : m - 1 = (lst (butLeast u)).length := by rw [hm, lst_butLeast hl, hl]; simp
      exact S.next (m - 1) (⟨j + 1, butLeast u, o ||| (u &&& -u), q - 1, by omega, by omega, hu2, ho2, hm2, rfl, rfl⟩) (by omega) (by repeat (first | exact trivial | refine ⟨rfl, ?_⟩)) Sub.ent
    · have hfin : o = leastK s k.toNat := by
        have e0 : u = 0#16 := bs_zero.1 (Classical.byContradiction h1)
        rw [e0, lst_zero] at hu
        have := List.drop_eq_nil_iff.1 hu.symm
        rw [ho, leastK, List.take_of_length_le this, List.take_of_length_le (by omega)]
      refine S.exit ?_
      with_reducible repeat (first | refine S.then_n ?_ | refine S.then_x ?_ | refine S.then_r ?_ | refine S.inBlock_n ?_ | refine S.inBlock_r ?_ | refine S.inBlock_x rfl ?_ | refine S.noGoto_r ?_ | refine S.noGoto_n ?_ | refine S.noGoto_x ?_)
      with_reducible refine S.inBlock_s ?_
      with_reducible repeat (first | refine S.then_n ?_ | refine S.then_x ?_ | refine S.then_r ?_ | refine S.inBlock_n ?_ | refine S.inBlock_r ?_ | refine S.inBlock_x rfl ?_ | refine S.noGoto_r ?_ | refine S.noGoto_n ?_ | refine S.noGoto_x ?_)
      refine hK3 _ _ ?_
      refine S.seq fun K9 hK9 => ?_
      refine S.region rfl ?_
      refine S.op (S.q (q_move rfl) rfl rfl ?_)
      refine S.op (S.q (q_assign rfl) rfl rfl ?_)
      first | with_reducible refine S.nilK ?_ | refine S.nil ?_
      refine hK9 _ _ ?_
      refine S.ret ?_
      with_reducible repeat (first | refine S.then_n ?_ | refine S.then_x ?_ | refine S.then_r ?_ | refine S.inBlock_n ?_ | refine S.inBlock_r ?_ | refine S.inBlock_x rfl ?_ | refine S.noGoto_r ?_ | refine S.noGoto_n ?_ | refine S.noGoto_x ?_)
      exact S.fin (rs := [_]) (vs := [_]) Tryd.results60 (⟨rfl, trivial⟩)  (⟨by simp only [resV]; rw [hfin], rfl⟩) Sub.ent
  · have hfin : o = leastK s k.toNat := by rw [ho, show j = k.toNat by omega]; rfl
    refine S.g_no rfl rfl rfl (decide_eq_false hg2_2) rfl rfl ?_
    refine S.g_no rfl rfl rfl (decide_eq_false hg2_2) rfl rfl ?_
    refine S.g_op rfl (S.q (q_pickF rfl (decide_eq_false hg2_2) rfl) rfl rfl ?_)
    first | with_reducible refine S.g_nilK ?_ | refine S.g_nil ?_
    refine hK5 _ _ ?_
    refine S.condF rfl ?_
    refine S.exit ?_
    with_reducible repeat (first | refine S.then_n ?_ | refine S.then_x ?_ | refine S.then_r ?_ | refine S.inBlock_n ?_ | refine S.inBlock_r ?_ | refine S.inBlock_x rfl ?_ | refine S.noGoto_r ?_ | refine S.noGoto_n ?_ | refine S.noGoto_x ?_)
    with_reducible refine S.inBlock_s ?_
    with_reducible repeat (first | refine S.then_n ?_ | refine S.then_x ?_ | refine S.then_r ?_ | refine S.inBlock_n ?_ | refine S.inBlock_r ?_ | refine S.inBlock_x rfl ?_ | refine S.noGoto_r ?_ | refine S.noGoto_n ?_ | refine S.noGoto_x ?_)
    refine hK3 _ _ ?_
    refine S.seq fun K10 hK10 => ?_
    refine S.region rfl ?_
    refine S.op (S.q (q_move rfl) rfl rfl ?_)
    refine S.op (S.q (q_assign rfl) rfl rfl ?_)
    first | with_reducible refine S.nilK ?_ | refine S.nil ?_
    refine hK10 _ _ ?_
    refine S.ret ?_
    with_reducible repeat (first | refine S.then_n ?_ | refine S.then_x ?_ | refine S.then_r ?_ | refine S.inBlock_n ?_ | refine S.inBlock_r ?_ | refine S.inBlock_x rfl ?_ | refine S.noGoto_r ?_ | refine S.noGoto_n ?_ | refine S.noGoto_x ?_)
    exact S.fin (rs := [_]) (vs := [_]) Tryd.results60 (⟨rfl, trivial⟩)  (⟨by simp only [resV]; rw [hfin], rfl⟩) Sub.ent
end Go.Proofs.YtegjmmocnffpiaaDoor
/- bits.TrailingZeros16, by the table that the row lists. -/
namespace Go.Proofs.YtegjmmocnffpiaaDoor
open Go.RowKit
set_option maxRecDepth 20000
def dbi (t : Nat) : Nat := (2 ^ t * 125613361) % 4294967296 / 134217728
theorem dbi_ok1 : ((List.range 16).all fun t => Nat.blt (dbi t) 32 && decide (dbTab.getD (dbi t) 0 = (t : Int))) = true := by kernel_rfl
theorem wrapU32 (z : Int) : IntKind.u32.wrap z = z % 4294967296 := by
  have e : (2 : Int) ^ 32 = 4294967296 := by decide
  unfold IntKind.wrap
  show (if (false && decide _) = true then _ else z % ((2 : Int) ^ 32)) = _
  rw [e, Bool.false_and, if_neg (by decide)]
theorem dbi_ok {t : Nat} (h : t < 16) : ∃ i : Nat, i < 32 ∧ dbTab.getD i 0 = (t : Int) ∧ IntKind.u32.wrap ((2 : Int) ^ t * 125613361) / 2 ^ 27 = ((i : Nat) : Int) := by
  have h1 := List.all_eq_true.1 dbi_ok1 t (List.mem_range.2 h)
  rw [Bool.and_eq_true, decide_eq_true_eq] at h1
  refine ⟨dbi t, by have := h1.1; simp [Nat.blt] at this; omega, h1.2, ?_⟩
  have e : (2 : Int) ^ t * 125613361 = ((2 ^ t * 125613361 : Nat) : Int) := by rw [Int.natCast_mul, Int.natCast_pow]; rfl
  rw [wrapU32, e]
  unfold dbi
  generalize 2 ^ t * 125613361 = z
  omega
theorem tz16_S {md : Bool} (s : Bs) {W : World} (hW : TabW W) : Spec Tryd.prog 78 [bsv s] [old W] (fun Γ v Θ => v = .int .i64 (tz s : Nat) ∧ Θ = old W :: Γ) md := by
  refine Spec.of_body Tryd.func78 rfl Tryd.ntmps78 rfl ?_
  intro w0 Γ
  have hb := bs_lt (s &&& -s)
  show S _ w0 [(0, bsv s)] (old W :: Γ) _
  refine S.seq fun K1 hK1 => ?_
  refine S.region rfl ?_
  refine S.op (S.q (q_assign rfl) rfl rfl ?_)
  first | with_reducible refine S.nilK ?_ | refine S.nil ?_
  refine hK1 _ _ ?_
  refine S.seq fun K2 hK2 => ?_
  refine S.seq fun K3 hK3 => ?_
  refine S.region rfl ?_
  refine S.op (S.q (q_move rfl) rfl rfl ?_)
  refine S.op (S.q (q_eq rfl rfl) rfl rfl ?_)
  first | with_reducible refine S.nilK ?_ | refine S.nil ?_
  refine hK3 _ _ ?_
  refine S.condD rfl (fun h1 => ?_) (fun h1 => ?_)
  · have e0 : s = 0#16 := bs_zero.1 h1
    refine S.seq fun K4 hK4 => ?_
    refine S.region rfl ?_
    refine S.op (S.q (q_assign rfl) rfl rfl ?_)
    first | with_reducible refine S.nilK ?_ | refine S.nil ?_
    refine hK4 _ _ ?_
    refine S.ret ?_
    with_reducible repeat (first | refine S.then_n ?_ | refine S.then_x ?_ | refine S.then_r ?_ | refine S.inBlock_n ?_ | refine S.inBlock_r ?_ | refine S.inBlock_x rfl ?_ | refine S.noGoto_r ?_ | refine S.noGoto_n ?_ | refine S.noGoto_x ?_)
    exact S.fin (rs := [_]) (vs := [_]) Tryd.results78 (⟨rfl, trivial⟩)  (⟨by simp only [resV]; rw [e0, tz_zero]; rfl, rfl⟩) Sub.ent
  · have h0 : s ≠ 0#16 := fun e => h1 (bs_zero.2 e)
    have ht : tz s < 16 := lst_lt (tz_mem h0)
    obtain ⟨i, k1, k2, k3⟩ := dbi_ok ht
    have hp : ((s &&& -s).toNat : Int) = 2 ^ tz s := by
      rw [low_bit s h0, BitVec.toNat_twoPow, Nat.mod_eq_of_lt (Nat.pow_lt_pow_right (by omega) ht)]
      norm_cast
    have k4 := hW i k1
    rw [k2] at k4
    refine S.skip ?_
    with_reducible repeat (first | refine S.then_n ?_ | refine S.then_x ?_ | refine S.then_r ?_ | refine S.inBlock_n ?_ | refine S.inBlock_r ?_ | refine S.inBlock_x rfl ?_ | refine S.noGoto_r ?_ | refine S.noGoto_n ?_ | refine S.noGoto_x ?_)
    refine hK2 _ _ ?_
    refine S.seq fun K5 hK5 => ?_
    refine S.region rfl ?_
    refine S.op (S.q (q_move rfl) rfl rfl ?_)
    refine S.op (S.q (q_move rfl) rfl rfl ?_)
    refine S.op (S.q (q_negB (s) rfl rfl) rfl rfl ?_)
    refine S.op (S.q (q_andB (s) (-s) rfl rfl (rfl) (rfl)) rfl rfl ?_)
    refine S.op (S.q (q_conv Tryd.it68 (by rw [Tryd.underlying23]; rfl) rfl (inU32 (by omega) (by omega))) rfl rfl ?_)
    refine S.op (S.q (q_mulW rfl rfl) rfl rfl ?_)
    refine S.op (S.q (q_shrTo 27 ((i : Nat) : Int) rfl rfl rfl (by decide) (by rw [hp]; exact k3)) rfl rfl ?_)
    refine S.op (S.q (q_indexA Tryd.ar161 rfl rfl (⟨by omega, by omega⟩)) rfl rfl ?_)
    refine S.op (S.q (q_loadW Tryd.at5 rfl (show W.cell? ⟨0, 0 + i * 1, none⟩ = _ by rw [Nat.zero_add, Nat.mul_one]; exact k4)) rfl rfl ?_)
    refine S.op (S.q (q_conv Tryd.it3 (by rw [Tryd.underlying5]; rfl) rfl (inI64 (by omega) (by omega))) rfl rfl ?_)
    refine S.op (S.q (q_assign rfl) rfl rfl ?_)
    first | with_reducible refine S.nilK ?_ | refine S.nil ?_
    refine hK5 _ _ ?_
    refine S.ret ?_
    with_reducible repeat (first | refine S.then_n ?_ | refine S.then_x ?_ | refine S.then_r ?_ | refine S.inBlock_n ?_ | refine S.inBlock_r ?_ | refine S.inBlock_x rfl ?_ | refine S.noGoto_r ?_ | refine S.noGoto_n ?_ | refine S.noGoto_x ?_)
    exact S.fin (rs := [_]) (vs := [_]) Tryd.results78 (⟨rfl, trivial⟩)  (⟨rfl, rfl⟩) Sub.ent
end Go.Proofs.YtegjmmocnffpiaaDoor
/- Ranging over a function: rules in the states of XSep, at the wide fence, for bodies that go on every time. Of no program. -/
namespace Go.Proofs.YtegjmmocnffpiaaDoor
open Go.RowKit
def isDefer : Op → Bool
  | .defer _ => true
  | _ => false
theorem not_defer {op : Op} (h : isDefer op = false) : ∀ c, op ≠ .defer c := fun c e => by rw [e] at h; cases h
theorem rows_in {P : Program} {m : Nat} {ro : Option Nat} {row : String} {args : Array Value} {w : World} {R : Value → World → Prop} (h : Rows P row args w R) : RowsIn { Fence.wide with round := ro } m P row args w R :=
  fun c cs _ => let ⟨v, w', r, s⟩ := h c cs; ⟨v, w', r, (stepsIn_wide.2 s : StepsIn (Machine.fenced P Fence.wide) P _ _)⟩
/-- What is done in a function's own frame is done in a round's. -/
theorem oper_in {P : Program} {m : Nat} {ro : Option Nat} {o : Oper} {a : Act} {w : World} {next : Act → World → Prop} {Q : Exit → Act → World → Prop} (hd : isDefer o.op = false)
    (h : o.wp P a w next Q) : o.wpIn { Fence.wide with round := ro } m P a w next Q := by
  unfold Oper.wpIn
  refine ⟨fun _ _ => trivial, ?_⟩
  rw [Oper.semAt_plain _ _ _ (not_defer hd)]
  unfold Oper.wp at h
  cases hr : (execOp a.eval o).run P w with
  | ok nx w' =>
    rw [hr] at h
    cases nx with
    | enter f args => exact ⟨fun hd => by simp [Fence.wide] at hd, (callsIn_wide.2 h : CallsIn Fence.wide (m - 1) P f args w' _)⟩
    | row row args => exact ⟨fun hd => by simp [Fence.wide] at hd, rows_in h⟩
    | round => exact h.elim
    | _ => exact h
  | halt x w' => rw [hr] at h; cases x <;> exact h
/-- Operations, one behind the other, in whatever frame. -/
def wpLI (F : Fence) (m : Nat) (P : Program) (Q : Exit → Act → World → Prop) : List Oper → Act → World → Prop
  | [], a, w => Q .normal a w
  | o :: rest, a, w => o.wpIn F m P a w (wpLI F m P Q rest) Q
theorem Oper.wpIn_mono' {F : Fence} {m : Nat} {P : Program} {o : Oper} {a : Act} {w : World} {k k' : Act → World → Prop} {Q : Exit → Act → World → Prop} (hk : ∀ a w, k a w → k' a w) (h : o.wpIn F m P a w k Q) : o.wpIn F m P a w k' Q := by
  obtain ⟨h1, h2⟩ := h
  refine ⟨h1, ?_⟩
  cases hr : (o.semAt F.round a.eval).run P w with
  | ok nx w' =>
    rw [hr] at h2
    cases nx with
    | value v => exact hk _ _ h2
    | skip => exact hk _ _ h2
    | defer d => exact hk _ _ h2
    | enter f args =>
      refine ⟨h2.1, h2.2.1, fun cs hc => ?_⟩
      obtain ⟨e, w2, fr, r, s, x⟩ := h2.2.2 cs hc
      refine ⟨e, w2, fr, ?_, s, x⟩
      cases e <;> first | exact hk _ _ r | exact r
    | row row args => exact ⟨h2.1, h2.2.mono fun v w2 r => hk _ _ r⟩
    | round l f tmps assign body =>
      refine ⟨h2.1, h2.2.mono fun e w2 r => ?_⟩
      cases e <;> first | exact hk _ _ r | exact r
    | _ => exact h2
  | halt x w' => rw [hr] at h2; cases x <;> exact h2
theorem wpLI_sound {F : Fence} {m : Nat} {P : Program} {Q : Exit → Act → World → Prop} {ops : Array Oper} : ∀ (l : List Oper), (l.all fun o => o.guard.isNone) = true → ∀ a w, wpLI F m P Q l a w → wpListIn F m P ops Q l a w := by
  intro l
  induction l with
  | nil => intro _ a w h; exact h
  | cons o l ih =>
    intro hg a w h
    simp only [List.all_cons, Bool.and_eq_true, Option.isNone_iff_eq_none] at hg
    unfold wpListIn
    rw [if_pos (by simp [Region.wanted, hg.1])]
    exact Oper.wpIn_mono' (ih hg.2) h
/-- A record of a loop; the block for what its rounds defer. -/
def loopA (l : Nat) (r : Loop) : Assn := fun h => h l = some (.loop r)
def defA (D : Nat) : Assn := fun h => h D = some (.deferred (some []))
theorem Sat.isLoop {w : World} {l : Nat} {r : Loop} {Γ : List Assn} (h : Sat w (loopA l r :: Γ)) : w.heap[l]? = some (.loop r) := by
  obtain ⟨x, le, p⟩ := h.head
  exact le l _ p
theorem Sat.isDef {w : World} {D : Nat} {Γ : List Assn} (h : Sat w (defA D :: Γ)) : w.heap[D]? = some (.deferred (some [])) := by
  obtain ⟨x, le, p⟩ := h.head
  exact le D _ p
theorem Sat.putLoop {w : World} {l : Nat} {r : Loop} {Γ : List Assn} (h : Sat w (loopA l r :: Γ)) (r' : Loop) : Sat (w.putObj l (.loop r')) (loopA l r' :: Γ) :=
  Sat.setObj h (.loop r') (fun _ p => ⟨_, p⟩) (HL.one_self _ _)
theorem Sat.newObj {w : World} {Γ : List Assn} (h : Sat w Γ) (o : Obj) (A : Nat → Assn) (hA : ∀ b, A b (HL.one b o)) : Sat (w.alloc o) (A w.heap.size :: Γ) := by
  have h0 : Sat w ((fun _ => True : Assn) :: Γ) := by
    obtain ⟨y, l, s⟩ := h
    exact ⟨y, l, HL.emp, y, HL.emp_disj _, HL.emp_le _, HL.le.refl _, trivial, s⟩
  refine h0.upd fun y _ _ => ⟨HL.one w.heap.size o, HL.one_le (hx_new rfl), hA _, fun c _ hc => ?_⟩
  have hlt : c < w.heap.size := by
    rcases Nat.lt_or_ge c w.heap.size with h | h
    · exact h
    · simp [Array.getElem?_eq_none h] at hc
  exact ⟨HL.one_none (by omega), Below.heap_alloc _ _ _ hlt⟩
/-- An iterator's contract: what it may hand out behind what came (G), what has come in all (E); yield answers true. -/
def SeqS {α : Type} (P : Program) (gf : FuncId) (fs cs : List Value) (enc : α → Value) (G : List α → α → Prop) (E : List α → Prop) (pre : List Assn) : Prop :=
  ∀ (l : Nat) (w0 : WM false) (J : List α → List Assn),
    (∀ (done : List α) (x : α) (Γ : List Assn) (w : World), G done x → Sat w (J done ++ Γ) → Ext w0 w → YieldAt Fence.wide 0 P l #[enc x] w fun e w' => e = .returned (.bool true) ∧ Sat w' (J (done ++ [x]) ++ Γ) ∧ Ext w0 w') →
    ∀ (Γ : List Assn) (w : World), Sat w (pre ++ (J [] ++ Γ)) → Ext w0 w →
      CallsIn Fence.wide 0 P gf (fs.toArray ++ #[.func (.yield l) #[] #[]] ++ cs.toArray) w fun e w' => (∃ v, e = .returned v) ∧ ∃ xs, E xs ∧ Sat w' (pre ++ (J xs ++ Γ)) ∧ Ext w0 w'
/-- for x := range g { body } -/
theorem rangeS {α : Type} {P : Program} {g : Operand} {p : Tmp} {assign body : Code} {Q : Exit → Act → World → Prop} {a : Act} {w : World} {w0 : WM false} {gf : FuncId} {fs cs : List Value} {enc : α → Value} {G : List α → α → Prop} {E : List α → Prop} {pre : List Assn}
    (hg : a.eval g = .func (.func gf) fs.toArray cs.toArray) (he : enterT P gf = true) (hseq : SeqS P gf fs cs enc G E pre) (I : List α → List Assn) {Γ : List Assn} (hs : Sat w (pre ++ (I [] ++ Γ))) (hx : Ext w0 w)
    (a₁ : α → Act) (hassign : ∀ (l : Nat) (x : α) (W : World) (K : Act → World → Prop), K (a₁ x) W → assign.wpIn (Fence.wide.inRound l) 0 P (Exit.then K (fun _ _ _ => False)) { tmps := a.tmps.setIfInBounds p (enc x), defers := [] } W)
    (hbody : ∀ (l : Nat) (done : List α) (x : α) (Θ : List Assn) (W : World), G done x → Sat W (I done ++ Θ) → Ext w0 W →
      body.wpIn (Fence.wide.inRound l) 0 P (fun e _ W' => e = .normal ∧ Sat W' (I (done ++ [x]) ++ Θ) ∧ Ext w0 W') (a₁ x) W)
    (hdone : ∀ (D : Nat) (xs : List α) (W : World), E xs → Sat W (defA D :: (pre ++ (I xs ++ Γ))) → Ext w0 W → Q .normal { a with defers := { target := .collected D, args := #[] } :: a.defers } W) :
    (Code.rangeFunc g #[p] assign body).wpIn Fence.wide 0 P Q a w := by
  refine wpIn_rangeFunc fun fn _ => ?_
  obtain ⟨rec, hrec⟩ : ∃ rec : LoopState → Loop, rec = fun st => { state := st, pending := none, fn, tmps := a.tmps, params := #[p], assign, body, defers := w.heap.size } := ⟨_, rfl⟩
  obtain ⟨W1, hW1⟩ : ∃ W1, (w.alloc (.deferred (some []))).alloc (.loop (rec .ready)) = W1 := ⟨_, rfl⟩
  have hs1 : Sat W1 (loopA (w.heap.size + 1) (rec .ready) :: defA w.heap.size :: (pre ++ (I [] ++ Γ))) := by
    have h1 := hs.newObj (.deferred (some [])) defA fun b => HL.one_self _ _
    have h2 := h1.newObj (.loop (rec .ready)) (fun b => loopA b (rec .ready)) fun b => HL.one_self _ _
    rw [World.size_alloc, hW1] at h2
    exact h2
  have hx1 : Ext w0 W1 := by rw [← hW1]; exact (hx.alloc _).alloc _
  refine ⟨w.heap.size + 1, [{ target := .collected w.heap.size, args := #[] }], W1, { target := .fn (.func gf) cs.toArray, args := fs.toArray ++ #[.func (.yield (w.heap.size + 1)) #[] #[]] }, W1, gf,
    fs.toArray ++ #[.func (.yield (w.heap.size + 1)) #[] #[]] ++ cs.toArray, W1, ?_, ?_, fun _ _ => trivial, ?_, fun h => by simp [Fence.wide] at h, ?_⟩
  · rw [← hW1, hrec]; exact run_enterLoop_outer _ _ _ _ _
  · simp only [resolve, hg]
    simp [go_sem]
  · have hcf : ∀ args w, (callFunc gf args).run P w = .ok (.enter gf args) w := fun args w => by
      unfold enterT at he
      split at he
      · rename_i f hf
        simp only [Bool.and_eq_true, bne_iff_ne, ne_eq] at he
        obtain ⟨h1, h2⟩ := he
        have h2' : ¬ f.body = none := by cases hb : f.body <;> simp [hb] at h2 ⊢
        simp [callFunc, hf, h1, h2']
      · cases he
    simp [invoke, go_sem, hcf]
  · have hent : ∀ (st : LoopState) (done : List α), Ent (loopA (w.heap.size + 1) (rec st) :: defA w.heap.size :: (pre ++ (I done ++ Γ))) (pre ++ ((loopA (w.heap.size + 1) (rec st) :: I done) ++ (defA w.heap.size :: Γ))) := fun st done =>
      ((Ent.cons _ (Ent.cons _ (Ent.pack pre _))).trans ((Ent.cons _ (Ent.swap _ _ _)).trans (Ent.swap _ _ _))).trans ((Ent.cons (stars pre) ((Ent.cons _ ((Ent.cons _ (Ent.pack (I done) Γ)).trans ((Ent.swap _ _ _).trans (Ent.unpack (I done) _)))))).trans (Ent.unpack pre _))
    have hback : ∀ (st : LoopState) (done : List α), Ent (pre ++ ((loopA (w.heap.size + 1) (rec st) :: I done) ++ (defA w.heap.size :: Γ))) (loopA (w.heap.size + 1) (rec st) :: defA w.heap.size :: (pre ++ (I done ++ Γ))) := fun st done =>
      (Ent.pack pre _).trans ((Ent.cons _ (Ent.cons _ ((Ent.pack (I done) _).trans ((Ent.swap _ _ _).trans (Ent.cons _ (Ent.unpack (I done) Γ)))))).trans ((Ent.swap _ _ _).trans (Ent.cons _ ((Ent.swap _ _ _).trans (Ent.cons _ (Ent.unpack pre _))))))
    have hcall := hseq (w.heap.size + 1) w0 (fun done => loopA (w.heap.size + 1) (rec .ready) :: I done) ?_ (defA w.heap.size :: Γ) W1 (hs1.ent (hent _ _)) hx1
    · obtain ⟨hc1, hc2⟩ := hcall
      refine ⟨trivial, fun fr hr => ?_⟩
      obtain ⟨e, w', f', ⟨⟨v, rfl⟩, xs, hE, hs', hx'⟩, st, rest⟩ := hc2 fr hr
      refine ⟨_, w', f', ?_, st, rest⟩
      have hs2 := hs'.ent (hback _ _)
      have hl2 := hs2.isLoop
      have hend := run_endLoop (P := P) hl2 (by rw [hrec]; simp)
      have hp : (rec .ready).pending = none := by rw [hrec]
      obtain ⟨W2, hW2⟩ : ∃ W2, W2 = w'.putObj (w.heap.size + 1) (.loop { rec .ready with state := .exhausted }) := ⟨_, rfl⟩
      rw [← hW2, hp] at hend
      refine ⟨none, W2, hend, ?_⟩
      rw [hW2]
      refine hdone w.heap.size xs _ hE ?_ ?_
      · have := hs2.putLoop ({ rec .ready with state := .exhausted })
        exact (this.ent (Ent.drop _ _))
      · exact hx'.setObj _ _
    · intro done x Θ W hxs hsat hext
      have hl := (show Sat W (loopA (w.heap.size + 1) (rec .ready) :: (I done ++ Θ)) from hsat).isLoop
      have hy : (Instr.yield (w.heap.size + 1) #[enc x]).run P W = .ok (.round (w.heap.size + 1) fn (a.tmps.setIfInBounds p (enc x)) assign body) W := by
        have := run_yield (P := P) (args := #[enc x]) hl (by rw [hrec]; rfl)
        rw [hrec] at this
        simpa using this
      refine ⟨fn, _, assign, body, hy, roundIn_of_wpIn (F := Fence.wide) trivial ?_⟩
      have hsB := (show Sat W (loopA (w.heap.size + 1) (rec .ready) :: (I done ++ Θ)) from hsat).putLoop { rec .ready with state := .busy }
      refine hassign (w.heap.size + 1) x W _ ?_
      refine ⟨_, run_beginRound hl (by rw [hrec]), ?_⟩
      have hsB' : Sat (W.putObj (w.heap.size + 1) (.loop { rec .ready with state := .busy })) (I done ++ (loopA (w.heap.size + 1) { rec .ready with state := .busy } :: Θ)) := hsB.ent (((Ent.cons _ (Ent.pack (I done) Θ)).trans (Ent.swap _ _ _)).trans (Ent.unpack (I done) _))
      refine wpIn_mono (hbody (w.heap.size + 1) done x _ _ hxs hsB' (hext.setObj _ _)) ?_
      rintro e a3 W3 ⟨rfl, hs3, hx3⟩
      have hs4 : Sat W3 (loopA (w.heap.size + 1) { rec .ready with state := .busy } :: (I (done ++ [x]) ++ Θ)) := hs3.ent ((Ent.pack (I (done ++ [x])) _).trans ((Ent.swap _ _ _).trans (Ent.cons _ (Ent.unpack (I (done ++ [x])) Θ))))
      have hl3 := hs4.isLoop
      have hend := run_endRound (P := P) none hl3
      refine ⟨_, _, hend, rfl, ?_, hx3.setObj _ _⟩
      have := hs4.putLoop ({ rec .ready with state := .ready })
      rw [hrec] at this ⊢
      exact this
/-! The states. -/
section
variable {P : Program} {n : Nat} {md : Bool} {w0 : WM md} {ρ : Env} {Γ : List Assn} {Q : Exit → Act → World → Prop} {K : Act → World → Prop} {ty : TypeId} {pos : String} {af : Array Edge} {gd : Option (Nat × Bool)} {d : Nat} {ds : Option Tmp}
theorem S.regionR {ro : Option Nat} {id : Nat} {l : List Oper} (hg : (l.all fun o => o.guard.isNone) = true) (h : S n w0 ρ Γ (wpLI { Fence.wide with round := ro } 0 P Q l)) : S n w0 ρ Γ ((Code.region id l.toArray false).wpIn { Fence.wide with round := ro } 0 P Q) :=
  fun a w ha hs hx => wpIn_region_lit (wpLI_sound l hg a w (h a w ha hs hx))
theorem S.regionW {id : Nat} {l : List Oper} (hg : (l.all fun o => o.guard.isNone) = true) (h : S n w0 ρ Γ (wpLI { Fence.wide with round := none } 0 P Q l)) : S n w0 ρ Γ ((Code.region id l.toArray false).wp P Q) :=
  fun a w ha hs hx => wpIn_wide.1 (S.regionR (ro := none) hg h a w ha hs hx : (Code.region id l.toArray false).wpIn Fence.wide 0 P Q a w)
theorem S.opI {ro : Option Nat} {o : Oper} {rest : List Oper} (hd : isDefer o.op = false) (h : S n w0 ρ Γ (Ow P Q o (wpLI { Fence.wide with round := ro } 0 P Q rest))) : S n w0 ρ Γ (wpLI { Fence.wide with round := ro } 0 P Q (o :: rest)) :=
  fun a w ha hs hx => oper_in hd (h a w ha hs hx)
theorem S.nilI {F : Fence} (h : S n w0 ρ Γ (Q .normal)) : S n w0 ρ Γ (wpLI F 0 P Q []) := h
/-- yield(u) -/
theorem S.yieldI {x y : Operand} {ats : Array TypeId} {l : Nat} {u : Value} {rest : List Oper} {Γ' : List Assn} {w0 : WM false} (hx : ev ρ x = some (.func (.yield l) #[] #[])) (hy : ev ρ y = some u)
    (hY : ∀ w, Sat w Γ → Ext w0 w → YieldAt Fence.wide 0 P l #[u] w fun e w' => e = .returned (.bool true) ∧ Sat w' Γ' ∧ Ext w0 w') (hn : Nat.blt d n = true)
    (k : S n w0 ((d, .bool true) :: ρ) Γ' (wpLI { Fence.wide with round := none } 0 P Q rest)) : S n w0 ρ Γ (wpLI { Fence.wide with round := none } 0 P Q (⟨some d, .call { callee := .value x, args := #[y], argTypes := ats }, ty, pos, af, gd⟩ :: rest)) := by
  intro a w ha hs hx'
  obtain ⟨fn, tmps, assign, body, hy1, hR⟩ := hY w hs hx'
  refine ⟨fun _ _ => trivial, ?_⟩
  rw [Oper.semAt_plain _ _ _ (not_defer rfl)]
  have hr : (execOp a.eval ⟨some d, .call { callee := .value x, args := #[y], argTypes := ats }, ty, pos, af, gd⟩).run P w = .ok (.round l fn tmps assign body) w := by
    simp [execOp, resolve, ha.ev hx, ha.ev hy, Deferred.ofValue, invoke, hy1]
  rw [hr]
  refine ⟨fun h => by simp [Fence.wide] at h, ?_⟩
  refine RoundIn.mono (show RoundIn Fence.wide 0 P l fn tmps assign body w _ from hR) ?_
  rintro e w' ⟨rfl, hs', hx2⟩
  exact k _ _ (ha.put hn _) hs' hx2
/-- A call, from a walk of its body at any beginning. -/
theorem calls_of_S {f : FuncId} {fn : Func} {c : Code} {l : List Value} {R : Ending → World → Prop} (hf : P.funcs[f]? = some fn) (hb : fn.body = some c) (hn : fn.ntmps = n) (hl : Nat.ble l.length n = true)
    (h : S n w0 (argEnv 0 l) Γ (c.wp P (bodyPost P fn R))) {w : World} (hs : Sat w Γ) (hx : Ext w0 w) : Calls P f l.toArray w R := by
  refine calls_of_wp hf hb (h _ w ⟨?_, rfl, fun t v hv => ?_⟩ hs hx)
  · have := Nat.le_of_ble_eq_true hl
    simp [hn]; omega
  · obtain ⟨_, h2⟩ := argEnv_get l 0 t v hv
    simp only [Nat.sub_zero] at h2
    have hlt : t < l.length := (List.getElem?_eq_some_iff.1 h2).1
    have := (List.getElem?_eq_some_iff.1 h2).2
    simp [Array.getElem?_append_left, hlt, this]
/-- A body's end, where nothing is kept. -/
theorem S.finR {fn : Func} {R : Ending → World → Prop} (hr : fn.results = #[]) (h : ∀ v w, Sat w Γ → Ext w0 w → R (.returned v) w) : S n w0 ρ Γ (bodyPost P fn R .normal) := by
  intro a w ha hs hx
  exact ⟨ha.defers, _, results_none hr _ _ _, h _ w hs hx⟩
/-! Behind a range over a function: the mark. -/
def withD (ds : List Deferred) (φ : Act → World → Prop) : Act → World → Prop := fun a w => φ { a with defers := ds } w
theorem S.regionD {id : Nat} {l : List Oper} {df : List Deferred} (hg : (l.all fun o => o.guard.isNone) = true) (h : S n w0 ρ Γ (withD df (wpL P Q l))) : S n w0 ρ Γ (withD df ((Code.region id l.toArray false).wp P Q)) :=
  fun a w ha hs hx => wp_region_lit (wpL_sound l hg _ w (h a w ha hs hx))
theorem S.qD {o : Oper} {v : Value} {rest : List Oper} {df : List Deferred} (h : Qv P n ρ Γ o v) (hd : o.dst = some d) (hn : Nat.blt d n = true) (k : S n w0 ((d, v) :: ρ) Γ (withD df (wpL P Q rest))) : S n w0 ρ Γ (withD df (wpL P Q (o :: rest))) := by
  intro a w ha hs hx
  show o.wp P { a with defers := df } w _ _
  have hr : (execOp ({ a with defers := df } : Act).eval o).run P w = .ok (.value v) w := h a w ha hs
  unfold Oper.wp
  rw [hr, Oper.upon_value, hd]
  exact k _ _ (ha.put hn v) hs hx
theorem S.nilD {df : List Deferred} (h : S n w0 ρ Γ (withD df (Q .normal))) : S n w0 ρ Γ (withD df (wpL P Q [])) := h
theorem S.seqD {x y : Code} {df : List Deferred} (h : S n w0 ρ Γ (withD df (x.wp P (Exit.then (y.wp P Q) Q)))) : S n w0 ρ Γ (withD df ((Code.seq x y).wp P Q)) := fun a w ha hs hx => wp_seq (h a w ha hs hx)
theorem S.seq1 {x y : Code} (h : S n w0 ρ Γ (x.wp P (Exit.then (y.wp P Q) Q))) : S n w0 ρ Γ ((Code.seq x y).wp P Q) := fun a w ha hs hx => wp_seq (h a w ha hs hx)
theorem S.retD {df : List Deferred} (h : S n w0 ρ Γ (withD df (Q .ret))) : S n w0 ρ Γ (withD df (Code.ret.wp P Q)) := fun a w ha hs hx => wp_ret (h a w ha hs hx)
/-- The end of a body that held one range over a function. -/
def FinM (P : Program) (fn : Func) (post : List Assn → Value → List Assn → Prop) (Γ : List Assn) (w0 : WM false) : Exit → Act → World → Prop :=
  bodyPostM Fence.wide 0 P fn fun e w' => ∃ v Θ, e = .returned v ∧ post Γ v Θ ∧ Sat w' Θ ∧ Ext w0 w'
theorem Spec.of_bodyM {f : FuncId} {fn : Func} {c : Code} {l : List Value} {pre : List Assn} {post : List Assn → Value → List Assn → Prop} (hf : P.funcs[f]? = some fn) (hb : fn.body = some c) (hn : fn.ntmps = n) (hl : Nat.ble l.length n = true)
    (h : ∀ (w0 : WM false) Γ, S n w0 (argEnv 0 l) (pre ++ Γ) (c.wp P (FinM P fn post Γ w0))) : Spec P f l pre post := by
  intro Γ w hs
  have h1 : c.wp P (FinM P fn post Γ ⟨w⟩) { tmps := l.toArray ++ Array.replicate (fn.ntmps - l.toArray.size) undef, defers := [] } w := by
    refine h ⟨w⟩ Γ _ w ⟨?_, rfl, fun t v hv => ?_⟩ hs (Ext.refl _)
    · have := Nat.le_of_ble_eq_true hl
      simp [hn]; omega
    · obtain ⟨_, h2⟩ := argEnv_get l 0 t v hv
      simp only [Nat.sub_zero] at h2
      have hlt : t < l.length := (List.getElem?_eq_some_iff.1 h2).1
      have := (List.getElem?_eq_some_iff.1 h2).2
      simp [Array.getElem?_append_left, hlt, this]
  exact callsIn_wide.1 (callsIn_of_wp_marks (F := Fence.wide) (n := 0) hf hb trivial (wpIn_wide.2 h1) rfl)
theorem S.finM {fn : Func} {post : List Assn → Value → List Assn → Prop} {Γf Θ : List Assn} {rs : List ResultVar} {vs : List Value} {D : Nat} {w0 : WM false} (hr : fn.results = rs.toArray) (hl : ResL P ρ Θ rs vs) (hp : post Γf (resV vs) Θ) (he : Ent Γ (defA D :: Θ)) :
    S n w0 ρ Γ (withD [{ target := .collected D, args := #[] }] (FinM P fn post Γf w0 .ret)) := by
  intro a w ha hs hx
  have hs1 := hs.ent he
  have hk := hs1.isDef
  refine ⟨(by simp), .inl ⟨D, _, rfl, run_takeDeferred hk, ?_⟩⟩
  have hs2 : Sat (w.putObj D (.deferred none)) Θ := by
    have : Sat (w.putObj D (.deferred none)) ((fun h => h D = some (.deferred none)) :: Θ) := Sat.setObj hs1 (.deferred none) (fun _ p => ⟨_, p⟩) (HL.one_self _ _)
    exact this.ent (Ent.drop _ _)
  exact ⟨_, (run_results hr hl ha hs2 : (results fn a.tmps).run P _ = _), _, Θ, rfl, hp, hs2, hx.setObj _ _⟩
/-- for x := range g { body } -/
theorem S.rangeF {α : Type} {g : Operand} {p q : Nat} {id : Nat} {body : Code} {w0 : WM false} {gf : FuncId} {fs cs : List Value} {enc : α → Value} {G : List α → α → Prop} {E : List α → Prop} {pre Γ' : List Assn} {t1 : TypeId} {s1 : String} {af1 : Array Edge}
    (hg : ev ρ g = some (.func (.func gf) fs.toArray cs.toArray)) (he : enterT P gf = true) (hseq : SeqS P gf fs cs enc G E pre) (I : List α → List Assn) (hI : Ent Γ (pre ++ (I [] ++ Γ'))) (hp : Nat.blt p n = true) (hq : Nat.blt q n = true)
    (hbody : ∀ (l : Nat) (done : List α) (x : α) (Θ : List Assn), G done x →
      S n w0 ((q, enc x) :: (p, enc x) :: ρ) (I done ++ Θ) (body.wpIn { Fence.wide with round := some l } 0 P fun e _ W' => e = .normal ∧ Sat W' (I (done ++ [x]) ++ Θ) ∧ Ext w0 W'))
    (hdone : ∀ D xs, E xs → S n w0 ρ (defA D :: (pre ++ (I xs ++ Γ'))) (withD [{ target := .collected D, args := #[] }] (Q .normal))) :
    S n w0 ρ Γ ((Code.rangeFunc g #[p] (.region id #[⟨some q, .assign (.tmp p), t1, s1, af1, none⟩] false) body).wp P Q) := by
  intro a w ha hs hx
  refine (wpIn_wide (n := 0)).1 (rangeS (ha.ev hg) he hseq I (hs.ent hI) hx (fun x => { tmps := (a.tmps.setIfInBounds p (enc x)).setIfInBounds q (enc x), defers := [] }) ?_ ?_ ?_)
  · intro l x W K hK
    have hps : p < a.tmps.size := by rw [ha.size]; have := hp; simp [Nat.blt] at this; omega
    refine wpIn_region_lit (l := [⟨some q, .assign (.tmp p), t1, s1, af1, none⟩]) (wpLI_sound _ rfl _ _ (oper_in (ro := some l) rfl ?_))
    unfold Oper.wp
    have hv : ({ tmps := a.tmps.setIfInBounds p (enc x), defers := [] } : Act).eval (.tmp p) = enc x := by simp [Act.eval, hps]
    have hr : (execOp ({ tmps := a.tmps.setIfInBounds p (enc x), defers := [] } : Act).eval ⟨some q, .assign (.tmp p), t1, s1, af1, none⟩).run P W = .ok (.value (enc x)) W := by
      simp only [execOp, hv, Sem.run_pure]
    rw [hr, Oper.upon_value]
    exact hK
  · intro l done x Θ W hxs hsW hxW
    have ha2 : EnvOk n ((q, enc x) :: (p, enc x) :: ρ) { tmps := (a.tmps.setIfInBounds p (enc x)).setIfInBounds q (enc x), defers := [] } := by
      have h1 := (ha.put hp (enc x)).put hq (enc x)
      exact ⟨h1.size, rfl, h1.get⟩
    exact hbody l done x Θ hxs _ W ha2 hsW hxW
  · intro D xs W hE hsW hxW
    have := hdone D xs hE a W ha hsW hxW
    rw [ha.defers]
    exact this
theorem S.blockR {F : Fence} {id : Nat} {c : Code} (h : S n w0 ρ Γ (c.wpIn F 0 P (Exit.inBlock id Q))) : S n w0 ρ Γ ((Code.block id c).wpIn F 0 P Q) := fun a w ha hs hx => wpIn_block (h a w ha hs hx)
theorem S.endR {Δ : List Assn} (he : Ent Γ Δ) : S n w0 ρ Γ (fun _ W' => Exit.normal = Exit.normal ∧ Sat W' Δ ∧ Ext w0 W') := fun _ _ _ hs hx => ⟨rfl, hs.ent he, hx⟩
/-- A variable in a block of its own, that holds an owned slice. -/
def outA (b : Nat) (T E : TypeId) (done : List Value) : Assn := fun h => ∃ sv : SV, sv.n = done.length ∧ stars [blk b T #[sv.v], own sv E 1 done] h
theorem Ent.outA {b : Nat} {T E : TypeId} {done : List Value} (sv : SV) (hn : sv.n = done.length) (Γ : List Assn) : Ent (blk b T #[sv.v] :: own sv E 1 done :: Γ) (outA b T E done :: Γ) :=
  (Ent.pack [blk b T #[sv.v], own sv E 1 done] Γ).trans (Ent.mono1 Γ fun _ p => ⟨sv, hn, p⟩)
theorem S.outA {φ : Act → World → Prop} {b : Nat} {T E : TypeId} {done : List Value} {Δ : List Assn} [p : Pick (outA b T E done) Γ Δ] (k : ∀ sv : SV, sv.n = done.length → S n w0 ρ (blk b T #[sv.v] :: own sv E 1 done :: Δ) φ) : S n w0 ρ Γ φ := by
  intro a w ha hs hx
  obtain ⟨h0, l, h1, h2, d, l1, l2, ⟨sv, hn, q⟩, s⟩ := hs.ent p.ent
  exact k sv hn a w ha ⟨h0, l, (Ent.unpack [blk b T #[sv.v], own sv E 1 done] Δ) _ ⟨h1, h2, d, l1, l2, q, s⟩⟩ hx
end
end Go.Proofs.YtegjmmocnffpiaaDoor
/- The nodes of a set, in order: each, list. -/
namespace Go.Proofs.YtegjmmocnffpiaaDoor
open Go.RowKit
set_option maxRecDepth 20000
abbrev nv (i : Nat) : Value := .int .i64 (i : Int)
theorem each_seq (s : Bs) {W : World} (hW : TabW W) : SeqS Tryd.prog 81 [bsv s] [] nv (fun done x => ∃ rest, lst s = done ++ x :: rest) (fun xs => xs = lst s) [old W] := by
  intro l w0 J hY Γ w hs hx
  refine callsIn_wide.2 (calls_of_S (n := 15) (l := [bsv s, .func (.yield l) #[] #[]]) (Γ := stars (J []) :: old W :: Γ) (w0 := w0) Tryd.func81 rfl Tryd.ntmps81 rfl ?_ (hs.ent ((Ent.cons _ (Ent.pack (J []) Γ)).trans (Ent.swap _ _ _))) hx)
  show S _ w0 [(0, bsv s), (1, .func (.yield l) #[] #[])] (stars (J []) :: old W :: Γ) _
  refine S.block ?_
  refine S.loop (fun m ρ' Γ' => ∃ (j : Nat) (u : Bs) (L : List Nat), L = (lst s).take j ∧ lst u = (lst s).drop j ∧ j ≤ (lst s).length ∧ m = (lst u).length ∧ ρ' = [(0, bsv u), (1, .func (.yield l) #[] #[])] ∧ Γ' = stars (J L) :: old W :: Γ) (m := _) (ρ0 := _) (Γ0 := _) (⟨0, s, [], rfl, by simp, by omega, rfl, rfl, rfl⟩) (by repeat (first | exact trivial | refine ⟨rfl, ?_⟩)) Sub.ent ?_
  rintro m ρ' Γ' ⟨j, u, L, hL, hu, hj, hm, rfl, rfl⟩
  refine S.seq fun K1 hK1 => ?_
  refine S.seq fun K2 hK2 => ?_
  refine S.region rfl ?_
  refine S.op (S.q (q_move rfl) rfl rfl ?_)
  refine S.op (S.q (q_ne rfl rfl) rfl rfl ?_)
  first | with_reducible refine S.nilK ?_ | refine S.nil ?_
  refine hK2 _ _ ?_
  refine S.condD rfl (fun h1 => ?_) (fun h1 => ?_)
  · have h0 : u ≠ 0#16 := fun e => h1 (bs_zero.2 e)
    obtain ⟨t, r, hl⟩ : ∃ t r, lst u = t :: r := by
      cases e : lst u with
      | nil => exact absurd (lst_nil.1 e) h0
      | cons t r => exact ⟨t, r, rfl⟩
    have hdr : (lst s).drop j = t :: r := hu.symm.trans hl
    have hxs : lst s = L ++ t :: r := by rw [hL, ← hdr, List.take_append_drop]
    refine S.skip ?_
    with_reducible repeat (first | refine S.then_n ?_ | refine S.then_x ?_ | refine S.then_r ?_ | refine S.inBlock_n ?_ | refine S.inBlock_r ?_ | refine S.inBlock_x rfl ?_ | refine S.noGoto_r ?_ | refine S.noGoto_n ?_ | refine S.noGoto_x ?_)
    refine hK1 _ _ ?_
    refine S.seq fun K3 hK3 => ?_
    refine S.block ?_
    refine S.seq fun K4 hK4 => ?_
    refine S.regionW rfl ?_
    refine S.opI rfl ?_
    refine  (S.q (q_move rfl) rfl rfl ?_)
    refine S.opI rfl ?_
    refine  (S.q (q_move rfl) rfl rfl ?_)
    refine S.opI rfl ?_
    refine  (S.call Tryd.en78 (vs := [_]) ⟨rfl, trivial⟩ (tz16_S u hW) rfl ?_)
    rintro v Θ ⟨rfl, rfl⟩
    refine S.yieldI rfl rfl (fun w hs hx => by rw [tz_cons hl]; exact hY _ t (old W :: Γ) w ⟨r, hxs⟩ (hs.ent ((Ent.swap _ _ _).trans (Ent.unpack _ _))) hx) rfl ?_
    refine S.ent (Ent.pack _ _) ?_
    refine S.opI rfl ?_
    refine  (S.q (q_not rfl) rfl rfl ?_)
    refine S.nilI ?_
    refine hK4 _ _ ?_
    refine S.condF rfl ?_
    refine S.skip ?_
    with_reducible repeat (first | refine S.then_n ?_ | refine S.then_x ?_ | refine S.then_r ?_ | refine S.inBlock_n ?_ | refine S.inBlock_r ?_ | refine S.inBlock_x rfl ?_ | refine S.noGoto_r ?_ | refine S.noGoto_n ?_ | refine S.noGoto_x ?_)
    with_reducible repeat (first | refine S.then_n ?_ | refine S.then_x ?_ | refine S.then_r ?_ | refine S.inBlock_n ?_ | refine S.inBlock_r ?_ | refine S.inBlock_x rfl ?_ | refine S.noGoto_r ?_ | refine S.noGoto_n ?_ | refine S.noGoto_x ?_)
    refine hK3 _ _ ?_
    refine S.region rfl ?_
    refine S.op (S.q (q_move rfl) rfl rfl ?_)
    refine S.op (S.q (q_move rfl) rfl rfl ?_)
    refine S.op (S.q (q_predB (u) rfl rfl rfl) rfl rfl ?_)
    refine S.op (S.q (q_andB (u) (u - 1#16) rfl rfl (rfl) (rfl)) rfl rfl ?_)
    refine S.op (S.q (q_assign rfl) rfl rfl ?_)
    first | with_reducible refine S.nilK ?_ | refine S.nil ?_
    with_reducible repeat (first | refine S.then_n ?_ | refine S.then_x ?_ | refine S.then_r ?_ | refine S.inBlock_n ?_ | refine S.inBlock_r ?_ | refine S.inBlock_x rfl ?_ | refine S.noGoto_r ?_ | refine S.noGoto_n ?_ | refine S.noGoto_x ?_)
    have hlt : 0 < (lst u).length := by rw [hl]; simp
    have hu2 : lst (u &&& (u - 1#16)) = (lst s).drop (j + 1) := by rw [and_pred u h0, lst_butLeast hl, ← List.tail_drop, hdr]; rfl
    have hj2 : j + 1 ≤ (lst s).length := by have := congrArg List.length hdr; rw [List.length_drop, List.length_cons] at this; omega
    have hm2 : m - 1 = (lst (u &&& (u - 1#16))).length := by rw [hm, and_pred u h0, lst_butLeast hl, hl]; simp
    have htk : L ++ [t] = (lst s).take (j + 1) := by rw [List.take_add, hdr, hL]; rfl
    exact S.next (m - 1) (⟨j + 1, u &&& (u - 1#16), L ++ [t], htk, hu2, hj2, hm2, rfl, rfl⟩) (by omega) (by repeat (first | exact trivial | refine ⟨rfl, ?_⟩)) Sub.ent
  · have e0 : u = 0#16 := bs_zero.1 (Classical.byContradiction h1)
    rw [e0, lst_zero] at hu
    have hlen := List.drop_eq_nil_iff.1 hu.symm
    have hall : (lst s).take j = lst s := List.take_of_length_le hlen
    rw [hall] at hL
    subst hL
    refine S.exit ?_
    with_reducible repeat (first | refine S.then_n ?_ | refine S.then_x ?_ | refine S.then_r ?_ | refine S.inBlock_n ?_ | refine S.inBlock_r ?_ | refine S.inBlock_x rfl ?_ | refine S.noGoto_r ?_ | refine S.noGoto_n ?_ | refine S.noGoto_x ?_)
    with_reducible refine S.inBlock_s ?_
    with_reducible repeat (first | refine S.then_n ?_ | refine S.then_x ?_ | refine S.then_r ?_ | refine S.inBlock_n ?_ | refine S.inBlock_r ?_ | refine S.inBlock_x rfl ?_ | refine S.noGoto_r ?_ | refine S.noGoto_n ?_ | refine S.noGoto_x ?_)
    with_reducible repeat (first | refine S.then_n ?_ | refine S.then_x ?_ | refine S.then_r ?_ | refine S.inBlock_n ?_ | refine S.inBlock_r ?_ | refine S.inBlock_x rfl ?_ | refine S.noGoto_r ?_ | refine S.noGoto_n ?_ | refine S.noGoto_x ?_)
    refine S.finR rfl ?_
    exact fun v w hs hx => ⟨⟨v, rfl⟩, _, rfl, hs.ent ((Ent.swap _ _ _).trans (Ent.cons _ (Ent.unpack _ _))), hx⟩
theorem ints_lst (l : List Nat) (x : Nat) : ints ((l ++ [x]).map fun i : Nat => (i : Int)) = ints (l.map fun i : Nat => (i : Int)) ++ [nv x] := by simp
/-- A list of nodes, as a slice. -/
abbrev nds (l : List Nat) : List Value := l.map nv
theorem list_S (s : Bs) {W : World} (hW : TabW W) : Spec Tryd.prog 62 [bsv s] [old W] fun Γ v Θ => ∃ sv : SV, v = sv.v ∧ sv.n = (lst s).length ∧ Θ = own sv 3 1 (nds (lst s)) :: old W :: Γ := by
  refine Spec.of_bodyM Tryd.func62 rfl Tryd.ntmps62 rfl ?_
  intro w0 Γ
  show S _ w0 [(0, bsv s)] (old W :: Γ) _
  refine S.seq fun K1 hK1 => ?_
  refine S.region rfl ?_
  refine S.op (S.q (q_assign rfl) rfl rfl ?_)
  refine S.nilK ?_
  refine hK1 _ _ ?_
  refine S.seq fun K2 hK2 => ?_
  refine S.region rfl ?_
  refine S.op (S.alloc Tryd.z69 rfl ?_)
  intro b3
  refine S.nilK ?_
  refine hK2 _ _ ?_
  refine S.seq1 ?_
  refine S.seq fun K4 hK4 => ?_
  refine S.region rfl ?_
  refine S.op (S.q (q_move rfl) rfl rfl ?_)
  refine S.op (S.q (q_makeFunc (vs := [_]) (us := []) ⟨rfl, trivial⟩ trivial) rfl rfl ?_)
  refine S.nilK ?_
  refine hK4 _ _ ?_
  refine S.block ?_
  have hl16 := lst_len s
  refine S.rangeF (fs := [bsv s]) (cs := []) (enc := nv) (p := 7) (q := 4) rfl Tryd.en81 (each_seq s hW) (fun done => [outA b3 69 3 (nds done)]) (Γ' := Γ) ?_ rfl rfl ?_ ?_
  · exact (Ent.swap _ _ _).trans (Ent.cons _ ((Ent.cons _ (Ent.ownNil 3 1)).trans (Ent.outA SV.nil rfl _)))
  · rintro l done x Θ ⟨rest, hxs⟩
    have hdl : done.length < 16 := by rw [hxs] at hl16; simp at hl16; omega
    show S _ w0 _ (outA b3 69 3 (nds done) :: Θ) _
    refine S.outA (b := b3) (T := 69) (E := 3) (done := nds done) fun sv hsv => ?_
    simp only [List.length_map] at hsv
    refine S.blockR (S.regionR rfl ?_)
    refine S.opI rfl ?_
    refine (S.q (q_load Tryd.at69 rfl rfl) rfl rfl ?_)
    refine S.opI rfl ?_
    refine (S.q (q_move rfl) rfl rfl ?_)
    refine S.opI rfl ?_
    refine (S.buildSlice (pvs := [(_, _)]) [_] Tryd.underlying69 Tryd.inf3 rfl rfl ⟨⟨rfl, rfl⟩, trivial⟩ rfl rfl ?_)
    intro b10
    refine S.opI rfl ?_
    refine (S.appendOw (s := sv) 1 [nv x] Tryd.underlying69 Tryd.inf3 rfl rfl rfl (blk_slAt (b := b10) rfl (show 1 ≤ maxLen by unfold maxLen; omega)) rfl ⟨by omega, by omega⟩ rfl ?_)
    intro s2 hs2
    refine S.opI rfl ?_
    refine (S.store (cs' := [_]) Tryd.at69 rfl rfl rfl rfl rfl ?_)
    refine S.nilI ?_
    refine S.endR ?_
    have e : nds done ++ [nv x] = nds (done ++ [x]) := by simp
    rw [e]
    exact (Sub.ent (Δ := blk b3 69 #[s2.v] :: own s2 3 1 (nds (done ++ [x])) :: Θ)).trans (Ent.outA s2 (by simp [hs2, hsv]) Θ)
  · rintro D _ rfl
    show S _ w0 _ (defA D :: old W :: outA b3 69 3 (nds (lst s)) :: Γ) _
    refine S.outA (b := b3) (T := 69) (E := 3) (done := nds (lst s)) fun sv hsv => ?_
    simp only [List.length_map] at hsv
    refine S.seqD (S.regionD rfl ?_)
    refine S.qD (q_load Tryd.at69 rfl rfl) rfl rfl ?_
    refine S.qD (q_assign rfl) rfl rfl ?_
    refine S.nilD (S.retD ?_)
    exact S.finM (rs := [_]) (vs := [_]) Tryd.results62 ⟨rfl, trivial⟩ (Θ := own sv 3 1 (nds (lst s)) :: old W :: Γ) ⟨sv, rfl, hsv, rfl⟩ Sub.ent
end Go.Proofs.YtegjmmocnffpiaaDoor
/- The matrix in memory; what is asked of one place. -/
namespace Go.Proofs.YtegjmmocnffpiaaDoor
open Go.RowKit
set_option maxRecDepth 20000
theorem alGet_iff {z : Int} {v : Value} : ∀ {l : List (Int × Value)}, (l.map (·.1)).Nodup → (alGet z l = some v ↔ (z, v) ∈ l)
  | [], _ => by simp [alGet]
  | x :: l, h => by
    rw [List.map_cons, List.nodup_cons] at h
    unfold alGet
    by_cases e : z = x.1
    · rw [if_pos e, List.mem_cons]
      constructor
      · intro e2
        cases e2
        exact .inl (by rw [e])
      · rintro (e2 | h2)
        · rw [← e2]
        · exact absurd (List.mem_map.2 ⟨_, h2, e⟩) h.1
    · rw [if_neg e, alGet_iff h.2, List.mem_cons]
      constructor
      · exact .inr
      · rintro (e2 | h2)
        · rw [← e2] at e; exact absurd rfl e
        · exact h2
theorem alPut_perm {z : Int} {v : Value} {l : List (Int × Value)} (h : z ∉ l.map (·.1)) : (alPut z v l).Perm ((z, v) :: l) := by
  cases e : alFind z l 0 with
  | none => rw [(alFind_none e).1]; exact List.perm_append_singleton _ _
  | some p =>
    obtain ⟨j, w⟩ := p
    obtain ⟨k, _, h2, _⟩ := alFind_some e
    exact absurd (List.mem_map.2 ⟨_, List.mem_of_getElem? h2, rfl⟩) h
theorem alDel_filter {z : Int} : ∀ {l : List (Int × Value)}, (l.map (·.1)).Nodup → alDel z l = l.filter fun x => decide (x.1 ≠ z)
  | [], _ => rfl
  | x :: l, h => by
    rw [List.map_cons, List.nodup_cons] at h
    unfold alDel
    by_cases e : z = x.1
    · rw [if_pos e, List.filter_cons_of_neg (by simp [e])]
      refine (List.filter_eq_self.2 fun y hy => ?_).symm
      have : y.1 ≠ z := fun e2 => h.1 (List.mem_map.2 ⟨y, hy, e2.trans e⟩)
      simpa using this
    · rw [if_neg e, List.filter_cons_of_pos (by simpa using fun e2 => e (Eq.symm e2)), alDel_filter h.2]
abbrev jbV (x : Jb) : Value := .agg #[.int .i64 (x.row : Int), bsv x.ns]
abbrev jbE (x : Jb) : Int × Value := ((x.id : Int), jbV x)
theorem keys_nodup {js : List Jb} (hs : js.Pairwise (fun a b => a.id < b.id)) : ((js.map jbE).map (·.1)).Nodup := by
  rw [List.map_map]
  exact List.pairwise_map.2 (hs.imp fun h e => by simp only [Function.comp] at e; omega)
theorem get_look {js : List Jb} {l : List (Int × Value)} (hs : js.Pairwise (fun a b => a.id < b.id)) (hl : l.Perm (js.map jbE)) (j : Nat) : alGet (j : Int) l = (look js j).map jbV := by
  have hn : (l.map (·.1)).Nodup := (hl.map (·.1)).nodup_iff.2 (keys_nodup hs)
  cases h : look js j with
  | none =>
    refine alGet_notin fun hm => ?_
    obtain ⟨p, hp, e⟩ := List.mem_map.1 hm
    obtain ⟨x, hx, rfl⟩ := List.mem_map.1 (hl.mem_iff.1 hp)
    exact look_none h x hx (by have e : (x.id : Int) = j := e; omega)
  | some x =>
    obtain ⟨h1, h2⟩ := look_some h
    exact (alGet_iff hn).2 (hl.mem_iff.2 (List.mem_map.2 ⟨x, h1, by rw [← h2]⟩))
theorem put_perm {js : List Jb} {l : List (Int × Value)} (hl : l.Perm (js.map jbE)) {x : Jb} (hn : ∀ y ∈ js, y.id ≠ x.id) : (alPut (x.id : Int) (jbV x) l).Perm ((addJ x js).map jbE) := by
  refine (alPut_perm fun hm => ?_).trans (((hl.cons _).trans (.refl _)).trans ((addJ_perm x js).map jbE).symm)
  obtain ⟨p, hp, e⟩ := List.mem_map.1 hm
  obtain ⟨y, hy, rfl⟩ := List.mem_map.1 (hl.mem_iff.1 hp)
  exact hn y hy (by have e : (y.id : Int) = x.id := e; omega)
theorem del_perm {js : List Jb} {l : List (Int × Value)} (hs : js.Pairwise (fun a b => a.id < b.id)) (hl : l.Perm (js.map jbE)) (j : Nat) : (alDel (j : Int) l).Perm ((delJ j js).map jbE) := by
  have hn : (l.map (·.1)).Nodup := (hl.map (·.1)).nodup_iff.2 (keys_nodup hs)
  have e : (delJ j js).map jbE = (js.map jbE).filter fun x => decide (x.1 ≠ (j : Int)) := by
    rw [delJ, List.filter_map]
    refine congrArg (List.map jbE) (List.filter_congr fun x _ => ?_)
    simp only [Function.comp, ne_eq, decide_not, Bool.not_eq_eq_eq_not, Bool.not_not, decide_eq_decide]
    omega
  rw [alDel_filter hn, e]
  exact hl.filter _
/-- What a matrix' block holds. -/
abbrev mxC (m : Mx) (mb : Nat) (tv : SV) : List Value := [.int .i64 (m.R : Int), .int .i64 (m.N : Int), bsv m.up, .map (some mb), tv.v]
def tks (m : Mx) : List Value := (List.range m.R).map fun r => bsv (tk m.js r)
theorem tks_len (m : Mx) : (tks m).length = m.R := by simp [tks]
theorem tks_get {m : Mx} {r : Nat} (h : r < m.R) : (tks m)[r]? = some (bsv (tk m.js r)) := by simp [tks, h]
theorem tks_set {m m' : Mx} {r : Nat} (hR : m'.R = m.R) (h : ∀ q, q < m.R → tk m'.js q = if r = q then tk m'.js r else tk m.js q) : (tks m).set r (bsv (tk m'.js r)) = tks m' := by
  refine List.ext_getElem? fun q => ?_
  rw [List.getElem?_set]
  by_cases hq : q < m.R
  · rw [tks_get (m := m') (by omega), tks_get hq, h q hq, tks_len]
    by_cases e : r = q
    · subst e
      simp [hq]
    · rw [if_neg e, if_neg e]
  · have h1 : (tks m)[q]? = none := List.getElem?_eq_none (by rw [tks_len]; omega)
    have h2 : (tks m')[q]? = none := List.getElem?_eq_none (by rw [tks_len]; omega)
    rw [h1, h2, tks_len]
    by_cases e : r = q
    · subst e; simp [hq]
    · rw [if_neg e]
/-- A matrix at block b. -/
def MI (b : Nat) (m : Mx) : Assn := fun h => ∃ (mb : Nat) (tv : SV) (l : List (Int × Value)), MxOk m ∧ l.Perm (m.js.map jbE) ∧ tv.n = m.R ∧ stars [blk b 124 (mxC m mb tv).toArray, mapL mb .u32 l, own tv 120 1 (tks m)] h
section
variable {n : Nat} {md : Bool} {w0 : WM md} {ρ : Env} {Γ Δ : List Assn} {φ : Act → World → Prop}
theorem S.miOpen (b : Nat) (m : Mx) [p : Pick (MI b m) Γ Δ] (k : ∀ mb tv l, MxOk m → l.Perm (m.js.map jbE) → tv.n = m.R → S n w0 ρ (blk b 124 (mxC m mb tv).toArray :: mapL mb .u32 l :: own tv 120 1 (tks m) :: Δ) φ) : S n w0 ρ Γ φ := by
  intro a w ha hs hx
  obtain ⟨h0, l0, h1, h2, d, l1, l2, ⟨mb, tv, l, q1, q2, q3, q4⟩, s⟩ := hs.ent p.ent
  exact k mb tv l q1 q2 q3 a w ha ⟨h0, l0, (Ent.unpack [blk b 124 (mxC m mb tv).toArray, mapL mb .u32 l, own tv 120 1 (tks m)] Δ) _ ⟨h1, h2, d, l1, l2, q4, s⟩⟩ hx
theorem S.miClose {b mb : Nat} {m : Mx} {tv : SV} {l : List (Int × Value)} {T e : TypeId} {cs : Array Value} {kk : IntKind} {sz : Nat} {xs : List Value} {Δ' Θ : List Assn} [p : HasB Γ b T cs Δ] [q : HasM Δ mb kk l Δ'] [r : HasOw Δ' tv e sz xs Θ]
    (e1 : blk b T cs = blk b 124 (mxC m mb tv).toArray) (e2 : mapL mb kk l = mapL mb .u32 l) (e3 : own tv e sz xs = own tv 120 1 (tks m)) (h1 : MxOk m) (h2 : l.Perm (m.js.map jbE)) (h3 : tv.n = m.R)
    (k : S n w0 ρ (MI b m :: Θ) φ) : S n w0 ρ Γ φ := by
  have q1 : Ent Γ (blk b 124 (mxC m mb tv).toArray :: mapL mb .u32 l :: own tv 120 1 (tks m) :: Θ) := by
    rw [← e1, ← e2, ← e3]
    exact p.ent.trans (Ent.cons _ (q.ent.trans (Ent.cons _ r.ent)))
  exact S.ent (q1.trans ((Ent.pack [blk b 124 (mxC m mb tv).toArray, mapL mb .u32 l, own tv 120 1 (tks m)] Θ).trans (Ent.mono1 Θ fun _ s => ⟨mb, tv, l, h1, h2, h3, s⟩))) k
/-- What may be said of any matrix that lies there. -/
theorem S.miOk (b : Nat) (m : Mx) [p : Pick (MI b m) Γ Δ] (k : MxOk m → S n w0 ρ Γ φ) : S n w0 ρ Γ φ := by
  intro a w ha hs hx
  obtain ⟨h0, _, _, _, _, q1, _⟩ := (hs.ent p.ent).head
  obtain ⟨_, _, _, q1, _⟩ := (hs.ent p.ent).head.choose_spec.2
  exact k q1 a w ha hs hx
end
theorem Spec.miOk {b : Nat} {m : Mx} {P : Program} {f : FuncId} {args : List Value} {pre : List Assn} {post : List Assn → Value → List Assn → Prop} {md : Bool} (h : MxOk m → Spec P f args (MI b m :: pre) post md) : Spec P f args (MI b m :: pre) post md := by
  intro Γ w hs
  obtain ⟨_, _, _, _, _, q1, _⟩ := hs.head
  exact h q1 Γ w hs
def nodeB (m : Mx) (z : Int) : Bool := decide (0 ≤ z) && decide (z < m.N)
def rowB (m : Mx) (z : Int) : Bool := decide (0 ≤ z) && decide (z < m.R)
theorem node_S (b : Nat) (m : Mx) (z : Int) : Spec Tryd.prog 64 [.pointer (some ⟨b, 0, none⟩), .int .i64 z] [MI b m] fun Γ v Θ => v = .bool (nodeB m z) ∧ Θ = MI b m :: Γ := by
  refine Spec.of_body Tryd.func64 rfl Tryd.ntmps64 rfl ?_
  intro w0 Γ
  show S _ w0 [(0, .pointer (some ⟨b, 0, none⟩)), (1, .int .i64 z)] (MI b m :: Γ) _
  refine S.miOpen b m fun mb tv l hok hp htn => ?_
  refine S.seq fun K1 hK1 => ?_
  refine S.region rfl ?_
  refine S.op (S.q (q_assign rfl) rfl rfl ?_)
  first | with_reducible refine S.nilK ?_ | refine S.nil ?_
  refine hK1 _ _ ?_
  refine S.seq fun K2 hK2 => ?_
  refine S.regionG ?_
  refine S.g_op rfl (S.q (q_move rfl) rfl rfl ?_)
  refine S.g_op rfl (S.q (q_neN Tryd.underlying25 rfl rfl) rfl rfl ?_)
  refine S.g_op rfl (S.q (q_move rfl) rfl rfl ?_)
  refine S.g_yes rfl rfl rfl (rfl) (S.q (q_move rfl) rfl rfl ?_)
  refine S.g_yes rfl rfl rfl (rfl) (S.q (q_ge rfl rfl) rfl rfl ?_)
  refine S.g_op rfl (S.q (q_pickT rfl (rfl) rfl) rfl rfl ?_)
  refine S.g_op rfl (S.q (q_move rfl) rfl rfl ?_)
  by_cases hg1_6 : (0 : Int) ≤ z
  · refine S.g_yes rfl rfl rfl (decide_eq_true hg1_6) (S.q (q_move rfl) rfl rfl ?_)
    refine S.g_yes rfl rfl rfl (decide_eq_true hg1_6) (S.q (q_move rfl) rfl rfl ?_)
    refine S.g_yes rfl rfl rfl (decide_eq_true hg1_6) (S.q (q_nilCheck rfl) rfl rfl ?_)
    refine S.g_yes rfl rfl rfl (decide_eq_true hg1_6) (S.q (q_field Tryd.fo124_1 rfl) rfl rfl ?_)
    refine S.g_yes rfl rfl rfl (decide_eq_true hg1_6) (S.q (q_load Tryd.at3 rfl rfl) rfl rfl ?_)
    refine S.g_yes rfl rfl rfl (decide_eq_true hg1_6) (S.q (q_lt rfl rfl) rfl rfl ?_)
    refine S.g_op rfl (S.q (q_pickT rfl (decide_eq_true hg1_6) rfl) rfl rfl ?_)
    refine S.g_op rfl (S.q (q_assign rfl) rfl rfl ?_)
    first | with_reducible refine S.g_nilK ?_ | refine S.g_nil ?_
    refine hK2 _ _ ?_
    refine S.ret ?_
    with_reducible repeat (first | refine S.then_n ?_ | refine S.then_x ?_ | refine S.then_r ?_ | refine S.inBlock_n ?_ | refine S.inBlock_r ?_ | refine S.inBlock_x rfl ?_ | refine S.noGoto_r ?_ | refine S.noGoto_n ?_ | refine S.noGoto_x ?_)
    refine S.miClose (b := b) (m := m) (mb := mb) (tv := tv) rfl rfl rfl hok hp htn ?_
    exact S.fin (rs := [_]) (vs := [_]) Tryd.results64 (⟨rfl, trivial⟩)  (⟨by simp only [resV, nodeB]; simp [*], rfl⟩) Sub.ent
  · refine S.g_no rfl rfl rfl (decide_eq_false hg1_6) rfl rfl ?_
    refine S.g_no rfl rfl rfl (decide_eq_false hg1_6) rfl rfl ?_
    refine S.g_no rfl rfl rfl (decide_eq_false hg1_6) rfl rfl ?_
    refine S.g_no rfl rfl rfl (decide_eq_false hg1_6) rfl rfl ?_
    refine S.g_no rfl rfl rfl (decide_eq_false hg1_6) rfl rfl ?_
    refine S.g_no rfl rfl rfl (decide_eq_false hg1_6) rfl rfl ?_
    refine S.g_op rfl (S.q (q_pickF rfl (decide_eq_false hg1_6) rfl) rfl rfl ?_)
    refine S.g_op rfl (S.q (q_assign rfl) rfl rfl ?_)
    first | with_reducible refine S.g_nilK ?_ | refine S.g_nil ?_
    refine hK2 _ _ ?_
    refine S.ret ?_
    with_reducible repeat (first | refine S.then_n ?_ | refine S.then_x ?_ | refine S.then_r ?_ | refine S.inBlock_n ?_ | refine S.inBlock_r ?_ | refine S.inBlock_x rfl ?_ | refine S.noGoto_r ?_ | refine S.noGoto_n ?_ | refine S.noGoto_x ?_)
    refine S.miClose (b := b) (m := m) (mb := mb) (tv := tv) rfl rfl rfl hok hp htn ?_
    exact S.fin (rs := [_]) (vs := [_]) Tryd.results64 (⟨rfl, trivial⟩)  (⟨by simp only [resV, nodeB]; simp [*], rfl⟩) Sub.ent
theorem row_S (b : Nat) (m : Mx) (z : Int) : Spec Tryd.prog 63 [.pointer (some ⟨b, 0, none⟩), .int .i64 z] [MI b m] fun Γ v Θ => v = .bool (rowB m z) ∧ Θ = MI b m :: Γ := by
  refine Spec.of_body Tryd.func63 rfl Tryd.ntmps63 rfl ?_
  intro w0 Γ
  show S _ w0 [(0, .pointer (some ⟨b, 0, none⟩)), (1, .int .i64 z)] (MI b m :: Γ) _
  refine S.miOpen b m fun mb tv l hok hp htn => ?_
  refine S.seq fun K1 hK1 => ?_
  refine S.region rfl ?_
  refine S.op (S.q (q_assign rfl) rfl rfl ?_)
  first | with_reducible refine S.nilK ?_ | refine S.nil ?_
  refine hK1 _ _ ?_
  refine S.seq fun K2 hK2 => ?_
  refine S.regionG ?_
  refine S.g_op rfl (S.q (q_move rfl) rfl rfl ?_)
  refine S.g_op rfl (S.q (q_neN Tryd.underlying25 rfl rfl) rfl rfl ?_)
  refine S.g_op rfl (S.q (q_move rfl) rfl rfl ?_)
  refine S.g_yes rfl rfl rfl (rfl) (S.q (q_move rfl) rfl rfl ?_)
  refine S.g_yes rfl rfl rfl (rfl) (S.q (q_ge rfl rfl) rfl rfl ?_)
  refine S.g_op rfl (S.q (q_pickT rfl (rfl) rfl) rfl rfl ?_)
  refine S.g_op rfl (S.q (q_move rfl) rfl rfl ?_)
  by_cases hg1_6 : (0 : Int) ≤ z
  · refine S.g_yes rfl rfl rfl (decide_eq_true hg1_6) (S.q (q_move rfl) rfl rfl ?_)
    refine S.g_yes rfl rfl rfl (decide_eq_true hg1_6) (S.q (q_move rfl) rfl rfl ?_)
    refine S.g_yes rfl rfl rfl (decide_eq_true hg1_6) (S.q (q_nilCheck rfl) rfl rfl ?_)
    refine S.g_yes rfl rfl rfl (decide_eq_true hg1_6) (S.q (q_field Tryd.fo124_0 rfl) rfl rfl ?_)
    refine S.g_yes rfl rfl rfl (decide_eq_true hg1_6) (S.q (q_load Tryd.at3 rfl rfl) rfl rfl ?_)
    refine S.g_yes rfl rfl rfl (decide_eq_true hg1_6) (S.q (q_lt rfl rfl) rfl rfl ?_)
    refine S.g_op rfl (S.q (q_pickT rfl (decide_eq_true hg1_6) rfl) rfl rfl ?_)
    refine S.g_op rfl (S.q (q_assign rfl) rfl rfl ?_)
    first | with_reducible refine S.g_nilK ?_ | refine S.g_nil ?_
    refine hK2 _ _ ?_
    refine S.ret ?_
    with_reducible repeat (first | refine S.then_n ?_ | refine S.then_x ?_ | refine S.then_r ?_ | refine S.inBlock_n ?_ | refine S.inBlock_r ?_ | refine S.inBlock_x rfl ?_ | refine S.noGoto_r ?_ | refine S.noGoto_n ?_ | refine S.noGoto_x ?_)
    refine S.miClose (b := b) (m := m) (mb := mb) (tv := tv) rfl rfl rfl hok hp htn ?_
    exact S.fin (rs := [_]) (vs := [_]) Tryd.results63 (⟨rfl, trivial⟩)  (⟨by simp only [resV, rowB]; simp [*], rfl⟩) Sub.ent
  · refine S.g_no rfl rfl rfl (decide_eq_false hg1_6) rfl rfl ?_
    refine S.g_no rfl rfl rfl (decide_eq_false hg1_6) rfl rfl ?_
    refine S.g_no rfl rfl rfl (decide_eq_false hg1_6) rfl rfl ?_
    refine S.g_no rfl rfl rfl (decide_eq_false hg1_6) rfl rfl ?_
    refine S.g_no rfl rfl rfl (decide_eq_false hg1_6) rfl rfl ?_
    refine S.g_no rfl rfl rfl (decide_eq_false hg1_6) rfl rfl ?_
    refine S.g_op rfl (S.q (q_pickF rfl (decide_eq_false hg1_6) rfl) rfl rfl ?_)
    refine S.g_op rfl (S.q (q_assign rfl) rfl rfl ?_)
    first | with_reducible refine S.g_nilK ?_ | refine S.g_nil ?_
    refine hK2 _ _ ?_
    refine S.ret ?_
    with_reducible repeat (first | refine S.then_n ?_ | refine S.then_x ?_ | refine S.then_r ?_ | refine S.inBlock_n ?_ | refine S.inBlock_r ?_ | refine S.inBlock_x rfl ?_ | refine S.noGoto_r ?_ | refine S.noGoto_n ?_ | refine S.noGoto_x ?_)
    refine S.miClose (b := b) (m := m) (mb := mb) (tv := tv) rfl rfl rfl hok hp htn ?_
    exact S.fin (rs := [_]) (vs := [_]) Tryd.results63 (⟨rfl, trivial⟩)  (⟨by simp only [resV, rowB]; simp [*], rfl⟩) Sub.ent
theorem stands_S (b : Nat) (m : Mx) (j : Nat) : Spec Tryd.prog 58 [.pointer (some ⟨b, 0, none⟩), .int .u32 (j : Int)] [MI b m] fun Γ v Θ => v = .bool (look m.js j).isSome ∧ Θ = MI b m :: Γ := by
  refine Spec.of_body Tryd.func58 rfl Tryd.ntmps58 rfl ?_
  intro w0 Γ
  show S _ w0 [(0, .pointer (some ⟨b, 0, none⟩)), (1, .int .u32 (j : Int))] (MI b m :: Γ) _
  refine S.miOpen b m fun mb tv l hok hp htn => ?_
  have hg := get_look hok.srt hp j
  have hj : ∃ r s, ((look m.js j).map jbV).getD (.agg #[.int .i64 0, .int .u16 0]) = .agg #[.int .i64 r, .int .u16 s] := by
    cases look m.js j with
    | none => exact ⟨0, 0, rfl⟩
    | some x => exact ⟨_, _, rfl⟩
  obtain ⟨jr, jn, hj⟩ := hj
  refine S.seq fun K1 hK1 => ?_
  refine S.region rfl ?_
  refine S.op (S.q (q_assign rfl) rfl rfl ?_)
  first | with_reducible refine S.nilK ?_ | refine S.nil ?_
  refine hK1 _ _ ?_
  refine S.seq fun K2 hK2 => ?_
  refine S.region rfl ?_
  refine S.op (S.q (q_move rfl) rfl rfl ?_)
  refine S.op (S.q (q_nilCheck rfl) rfl rfl ?_)
  refine S.op (S.q (q_field Tryd.fo124_3 rfl) rfl rfl ?_)
  refine S.op (S.q (q_load Tryd.at121 rfl rfl) rfl rfl ?_)
  refine S.op (S.q (q_move rfl) rfl rfl ?_)
  refine S.op (S.q (q_lookupOk (.agg #[.int .i64 jr, .int .u16 jn]) ((look m.js j).isSome) Tryd.underlying121 Tryd.underlying68 Tryd.zv127 rfl rfl rfl (by rw [hg]; cases h : look m.js j with | none => rw [h] at hj; exact Prod.ext hj.symm rfl | some x => rw [h] at hj; exact Prod.ext hj.symm rfl)) rfl rfl ?_)
  refine S.op (S.q (q_move rfl) rfl rfl ?_)
  refine S.op (S.q (q_extract rfl rfl) rfl rfl ?_)
  refine S.op (S.q (q_extract rfl rfl) rfl rfl ?_)
  refine S.op (S.alloc Tryd.z127 rfl ?_)
  intro b5
  refine S.op (S.storeS (cs' := [_, _]) Tryd.ag127 rfl rfl rfl rfl rfl rfl ?_)
  refine S.op (S.q (q_assign rfl) rfl rfl ?_)
  first | with_reducible refine S.nilK ?_ | refine S.nil ?_
  refine hK2 _ _ ?_
  refine S.seq fun K3 hK3 => ?_
  refine S.region rfl ?_
  refine S.op (S.q (q_move rfl) rfl rfl ?_)
  refine S.op (S.q (q_assign rfl) rfl rfl ?_)
  first | with_reducible refine S.nilK ?_ | refine S.nil ?_
  refine hK3 _ _ ?_
  refine S.ret ?_
  with_reducible repeat (first | refine S.then_n ?_ | refine S.then_x ?_ | refine S.then_r ?_ | refine S.inBlock_n ?_ | refine S.inBlock_r ?_ | refine S.inBlock_x rfl ?_ | refine S.noGoto_r ?_ | refine S.noGoto_n ?_ | refine S.noGoto_x ?_)
  refine S.miClose (b := b) (m := m) (mb := mb) (tv := tv) rfl rfl rfl hok hp htn ?_
  exact S.fin (rs := [_]) (vs := [_]) Tryd.results58 (⟨rfl, trivial⟩)  (⟨rfl, rfl⟩) Sub.ent
end Go.Proofs.YtegjmmocnffpiaaDoor
