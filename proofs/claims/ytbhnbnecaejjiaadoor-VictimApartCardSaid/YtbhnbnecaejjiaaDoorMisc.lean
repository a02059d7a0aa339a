/- Rules for builtins, slice expressions, literals of bytes, strings. Of no program. -/
import Derived.Test.YtbhnbnecaejjiaaDoorOw
import Derived.Test.YtbhnbnecaejjiaaDoorBytes
import Derived.Laws.BytesArg
namespace Go.Proofs.YtbhnbnecaejjiaaDoor
open Go.RowKit
section
variable {P : Program} {n : Nat} {md : Bool} {w0 : WM md} {ρ : Env} {Γ : List Assn} {Q : Exit → Act → World → Prop} {K : Act → World → Prop} {ty : TypeId} {pos : String} {af : Array Edge} {gd : Option (Nat × Bool)} {d : Nat} {ds : Option Tmp}
theorem q_min {x y : Operand} {ts : Array TypeId} {k : IntKind} {p q : Int} (r : Int) (hx : ev ρ x = some (.int k p)) (hy : ev ρ y = some (.int k q)) (h : r ≤ p ∧ r ≤ q ∧ (r = p ∨ r = q)) : Qv P n ρ Γ ⟨ds, .call { callee := .builtin .min, args := #[x, y], argTypes := ts }, ty, pos, af, gd⟩ (.int k r) := fun a w ha _ => by
  have e : (if q < p then q else p) = r := by split <;> omega
  simp [execOp, ha.ev hx, ha.ev hy, resolve, invoke, builtin, run_min_int2, e]
theorem q_max {x y : Operand} {ts : Array TypeId} {k : IntKind} {p q : Int} (r : Int) (hx : ev ρ x = some (.int k p)) (hy : ev ρ y = some (.int k q)) (h : p ≤ r ∧ q ≤ r ∧ (r = p ∨ r = q)) : Qv P n ρ Γ ⟨ds, .call { callee := .builtin .max, args := #[x, y], argTypes := ts }, ty, pos, af, gd⟩ (.int k r) := fun a w ha _ => by
  have e : (if p < q then q else p) = r := by split <;> omega
  simp [execOp, ha.ev hx, ha.ev hy, resolve, invoke, builtin, run_max_int2, e]
theorem addZero (p : Option Addr) : p.map (fun x => x.add 0) = p := by cases p <;> simp [Addr.add]
/-- x[:k] -/
theorem q_sliceTo {t e sz : Nat} {x y : Operand} {p : Option Addr} {l c : Nat} {kk : IntKind} {z : Int} (m : Nat) (ht : elemT P t = some (e, sz)) (hx : ev ρ x = some (.slice p l c)) (hy : ev ρ y = some (.int kk z)) (hz : z = ((m : Nat) : Int)) (hm : m ≤ c) : Qv P n ρ Γ ⟨ds, .slice t x none (some y) none, ty, pos, af, gd⟩ (.slice p m c) := by
  intro a w ha _
  subst hz
  obtain ⟨hu, i, hi, rfl⟩ := elemT_info ht
  simp [execOp, ha.ev hx, ha.ev hy, Instr.sliceAt, Instr.slice, run_underlying hu, Instr.sliceBounds, Instr.sliceBound, asIntOf, hm, sizeOf, typeInfo, hi, addZero]
theorem allOne_bcells (l : List Int) : allOne (bcells l) = true := List.all_eq_true.2 (bcells_one l)
/-- `[]T{}` -/
theorem S.buildSlice0 {t e sz by_ : Nat} {zs : List Value} (hu : P.underlying t = some (.slice e)) (hi : infoT P e = some (zs, sz, by_)) (hn : Nat.blt d n = true) (k : ∀ s : SV, s.n = 0 → S n w0 ((d, s.v) :: ρ) (own s e sz [] :: Γ) K) :
    S n w0 ρ Γ (Ow P Q ⟨some d, .buildSlice t 0 #[], ty, pos, af, gd⟩ K) := by
  intro a w ha hs hx
  unfold infoT at hi
  split at hi
  case h_2 => cases hi
  rename_i i hi'
  split at hi
  case h_2 => cases hi
  simp only [Option.some.injEq, Prod.mk.injEq] at hi
  obtain ⟨_, rfl, rfl⟩ := hi
  have hr : (execOp a.eval ⟨some d, .buildSlice t 0 #[], ty, pos, af, gd⟩).run P w = .ok (.value (.slice (some ⟨w.heap.size, 0, none⟩) 0 0)) (w.alloc (.cells #[] e)) := by
    simp [execOp, Instr.buildSlice, run_underlying hu, sizeOf, typeInfo, hi', Instr.fill, newRow, Array.range_zero']
  unfold Ow Oper.wp
  rw [hr, Oper.upon_value]
  refine k ⟨some ⟨w.heap.size, 0, none⟩, 0, 0⟩ rfl _ _ (ha.put hn _) ?_ (hx.alloc _)
  refine (hs.alloc e #[]).ent (Ent.mono1 _ fun x hx => ⟨by simp, .inr ⟨w.heap.size, 0, #[], rfl, hx, Nat.le_refl _, Nat.zero_le _, by simp, by simp⟩⟩)
/-- A block that is known whole, whatever of it is frozen. -/
def rblk (b : Nat) (e : TypeId) (cs : Array Value) : Assn := fun h => ∃ fr, h b = some (.cells cs e fr)
theorem rblk_slAt {b : Nat} {e : TypeId} {cs : List Value} {m sz : Nat} (hl : cs.length = m * sz) (hm : m ≤ maxLen) {w : World} {Γ : List Assn} (hs : Sat w (rblk b e cs.toArray :: Γ)) : SlAt w (.slice (some ⟨b, 0, none⟩) m m) m sz cs := by
  obtain ⟨x, l, fr, p⟩ := hs.head
  exact SlAt.block cs.toArray cs (by simp) (l b _ p) hl hm
/-- The mark on a literal of bytes. -/
theorem S.convBytes {t e : Nat} {x : Operand} {b l c : Nat} {e' : TypeId} {cs : Array Value} {Δ : List Assn} (hu : P.underlying t = some (.slice e)) (hi : intT P e = some .u8) (hx : ev ρ x = some (.slice (some ⟨b, 0, none⟩) l c)) [hb : HasB Γ b e' cs Δ] (hn : Nat.blt d n = true)
    (k : S n w0 ((d, .slice (some ⟨b, 0, none⟩) l c) :: ρ) (rblk b e' cs :: Δ) K) : S n w0 ρ Γ (Ow P Q ⟨some d, .convert t t x, ty, pos, af, gd⟩ K) := by
  intro a w ha hs hxt
  have he : P.underlying e = some (.int .u8) := by
    unfold intT at hi
    split at hi
    · rename_i k hk; cases hi; exact hk
    · cases hi
  have hB := hb.blk hs
  have hsh : w.shape? b = some (e', cs.size) := by unfold World.shape?; rw [show w.heap[b]? = _ from hB]
  have hr : ∃ w', (execOp a.eval ⟨some d, .convert t t x, ty, pos, af, gd⟩).run P w = .ok (.value (.slice (some ⟨b, 0, none⟩) l c)) w' ∧ w' = w.freeze ⟨b, cs.size, none⟩ 1 := by
    refine ⟨_, ?_, rfl⟩
    simp [execOp, ha.ev hx, convert, run_underlying hu, run_underlying he, markStringish, shape, freeze, Sem.run, hsh]
  obtain ⟨w', hr, hw'⟩ := hr
  unfold Ow Oper.wp
  rw [hr, Oper.upon_value]
  subst hw'
  have hheap : (w.freeze ⟨b, cs.size, none⟩ 1).heap = w.heap.modify b fun
      | .cells c elem (lo, hi) => .cells c elem (if lo == hi then (cs.size, cs.size + 1) else (min lo cs.size, max hi (cs.size + 1)))
      | o => o := by simp [World.freeze]; rfl
  refine k _ _ (ha.put hn _) ?_ (hxt.trans ⟨by simp [World.freeze], by simp [World.freeze], by simp [World.freeze], by rw [hheap]; simp, by simp [World.freeze]⟩)
  refine (hs.ent hb.ent).upd fun y ly p => ?_
  have hbl : w.heap[b]? = some (.cells cs e' (0, 0)) := hB
  refine ⟨HL.one b (.cells cs e' (cs.size, cs.size + 1)), HL.one_le ?_, ⟨_, HL.one_self _ _⟩, fun c' hc hw => ?_⟩
  · unfold HL.of
    rw [hheap, Array.getElem?_modify, if_pos rfl, hbl]
    rfl
  · have hne : c' ≠ b := fun e => by subst e; rw [p] at hc; cases hc
    refine ⟨HL.one_none hne, ?_⟩
    rw [hheap, Array.getElem?_modify, if_neg (Ne.symm hne)]
/-- string(bytes) -/
theorem q_bytesStr {s t e : Nat} {x : Operand} {p : Option Addr} {l c : Nat} {xs : List Int} (hs : P.underlying s = some (.slice e)) (he : intT P e = some .u8) (ht : P.underlying t = some .string) (hx : ev ρ x = some (.slice p l c)) (hb : ∀ w, Sat w Γ → BytesAt w (.slice p l c) xs) :
    Qv P n ρ Γ ⟨ds, .convert s t x, ty, pos, af, gd⟩ (.string (strOfNums xs)) := by
  intro a w ha hsat
  have he' : P.underlying e = some (.int .u8) := by
    unfold intT at he
    split at he
    · rename_i k hk; cases he; exact hk
    · cases he
  obtain ⟨h0, ao, c', h1, h2, h3, h4, h5⟩ := hb w hsat
  simp only [Value.slice.injEq] at h1
  obtain ⟨rfl, rfl, rfl⟩ := h1
  have hc := run_convert_bytes_string (P := P) w s t e p xs.length c hs he' ht
  have hr : (convert s t (.slice p xs.length c)).run P w = .ok (.string (strOfNums xs)) w := by
    rw [hc]
    cases p with
    | none =>
      obtain ⟨hn, _⟩ := h4 rfl
      have hx0 : xs = [] := List.eq_nil_of_length_eq_zero hn
      subst hx0
      simp [Conv.bytesToString]
      rfl
    | some ad =>
      have hl : (loadCells ad xs.length).run P w = .ok (xs.map (Value.int .u8)).toArray w := by
        have hcs : ∀ j u, (bcells xs)[j]? = some u → w.cell? (ad.add j) = some u := by
          intro j u hu
          have hj : j < xs.length := by have := (List.getElem?_eq_some_iff.1 hu).1; simpa [bcells] using this
          obtain ⟨g1, g2, g3⟩ := h5 ad rfl (by omega)
          rw [show ad = (⟨ad.block, ad.off, none⟩ : Addr) by rw [← g1], Addr.add_lit]
          exact g3 j u hu
        have := run_loadCells_list (P := P) (w := w) ad (bcells xs) hcs
        simpa [bcells] using this
      rw [run_bytesToString w ad xs.length c xs hl, foldl_push_bytes]
      simp [strOfNums, ByteArray.empty, ByteArray.emptyWithCapacity]
      rfl
  simp only [execOp, ha.ev hx, hr, Sem.run_bind, Result.andThen_ok, Sem.run_pure]
theorem q_eqStr {t yt : TypeId} {x y : Operand} {p q : ByteArray} (hx : ev ρ x = some (.string p)) (hy : ev ρ y = some (.string q)) : Qv P n ρ Γ ⟨ds, .binOp .eql t x y yt, ty, pos, af, gd⟩ (.bool (p.toList == q.toList)) :=
  q_binR hx hy (fun w => by simp [eqGuard]) (fun w => by simp [binOp, Op.stringOp])
theorem q_neStr {t yt : TypeId} {x y : Operand} {p q : ByteArray} (hx : ev ρ x = some (.string p)) (hy : ev ρ y = some (.string q)) : Qv P n ρ Γ ⟨ds, .binOp .neq t x y yt, ty, pos, af, gd⟩ (.bool (!(p.toList == q.toList))) :=
  q_binR hx hy (fun w => by simp [eqGuard]) (fun w => by simp [binOp, Op.stringOp])
theorem zeroRow_take (zs : List Value) : ∀ {l c : Nat}, l ≤ c → (zeroRow zs c).take (l * zs.length) = zeroRow zs l
  | 0, _, _ => by simp [zeroRow]
  | l + 1, 0, h => by omega
  | l + 1, c + 1, h => by
    have ih := zeroRow_take zs (l := l) (c := c) (by omega)
    unfold zeroRow
    rw [Nat.succ_mul, Nat.add_comm, List.take_append, List.take_of_length_le (by omega), Nat.add_sub_cancel_left, ih]
/-- make([]T, l, c) -/
theorem S.makeSlice {t e sz by_ : Nat} {x y : Operand} {zs : List Value} {kx ky : IntKind} {p q : Int} (l c : Nat) (hu : P.underlying t = some (.slice e)) (hi : infoT P e = some (zs, sz, by_)) (hzl : (Nat.beq zs.length sz && Nat.blt 0 sz) = true) (hx : ev ρ x = some (.int kx p)) (hp : p = ((l : Nat) : Int)) (hy : ev ρ y = some (.int ky q)) (hq : q = ((c : Nat) : Int)) (hlc : l ≤ c)
    (hc : by_ * c ≤ 140737488355328 ∧ c ≤ 140737488355328) (hn : Nat.blt d n = true) (k : ∀ s : SV, s.n = l → S n w0 ((d, s.v) :: ρ) (own s e sz (zeroRow zs l) :: Γ) K) :
    S n w0 ρ Γ (Ow P Q ⟨some d, .makeSlice t x y, ty, pos, af, gd⟩ K) := by
  intro a w ha hs hxt
  subst hp hq
  unfold infoT at hi
  split at hi
  case h_2 => cases hi
  rename_i i hi'
  split at hi
  case h_2 => cases hi
  rename_i z hz
  simp only [Option.some.injEq, Prod.mk.injEq] at hi
  obtain ⟨rfl, rfl, rfl⟩ := hi
  simp only [Bool.and_eq_true] at hzl
  have hzs : z.cells.toList.length = i.size := Nat.eq_of_beq_eq_true hzl.1
  have hpos : 0 < z.cells.toList.length := by rw [hzs]; have := hzl.2; simp [Nat.blt] at this; omega
  have hw1 : IntKind.i64.wrap (l : Int) = l := wrap_in (inI64 (by omega) (by omega))
  have hw2 : IntKind.i64.wrap (c : Int) = c := wrap_in (inI64 (by omega) (by omega))
  have hrow := zeroRow_range z.cells.toList hpos c
  rw [hzs] at hrow
  have hb1 : ¬ ((i.bytes : Int) * (c : Int) > 2 ^ 48) := by
    have := hc.1
    have h1 : ((i.bytes * c : Nat) : Int) ≤ 140737488355328 := by omega
    rw [Int.natCast_mul] at h1
    omega
  have hr : (execOp a.eval ⟨some d, .makeSlice t x y, ty, pos, af, gd⟩).run P w = .ok (.value (.slice (some ⟨w.heap.size, 0, none⟩) l c)) (w.alloc (.cells (zeroRow z.cells.toList c).toArray e)) := by
    have ht : (decide ((c : Int) < 0) || decide ((i.bytes : Int) * (c : Int) > 2 ^ 48)) = false := by simp; omega
    have hl0 : ¬ ((l : Int) < 0) := by omega
    have hlc' : ¬ ((l : Int) > (c : Int)) := by omega
    have hroom : ¬ (c * i.bytes > 140737488355328) := by rw [Nat.mul_comm]; omega
    have hz0 : (zeroValue e).run P w = .ok z w := by simp [zeroValue, typeInfo, hi', hz]
    by_cases h0 : c * i.size = 0
    · have : c = 0 := by
        rcases Nat.mul_eq_zero.1 h0 with h | h
        · exact h
        · rw [Array.length_toList] at hpos hzs; omega
      subst this
      have : l = 0 := by omega
      subst this
      have hw0 : IntKind.i64.wrap 0 = 0 := by decide
      simp [execOp, ha.ev hx, ha.ev hy, Instr.makeSlice, run_underlying hu, asInt, asIntOf, typeInfo, hi', hw0, askRoom, roomBytes, sizeOf, newRow, zeroRow, Array.range_zero']
    · have hti : (typeInfo e).run P w = .ok i w := by simp [typeInfo, hi']
      have hsz : (sizeOf e).run P w = .ok i.size w := by simp [sizeOf, typeInfo, hi']
      have hc0 : ¬ ((c : Int) < 0) := by omega
      have hb2 : ¬ (281474976710656 < (i.bytes : Int) * (c : Int)) := by simpa using hb1
      simp only [Array.toArray_toList] at hrow
      simp [execOp, ha.ev hx, ha.ev hy, Instr.makeSlice, run_underlying hu, asInt, asIntOf, hti, hsz, hw1, hw2, askRoom, roomBytes, newRow, hc0, hb2, hl0, h0, hz0, hrow]
      intro h
      omega
  unfold Ow Oper.wp
  rw [hr, Oper.upon_value]
  refine k ⟨some ⟨w.heap.size, 0, none⟩, l, c⟩ rfl _ _ (ha.put hn _) ?_ (hxt.alloc _)
  refine (hs.alloc e _).ent (Ent.mono1 _ fun x hx => ⟨by rw [zeroRow_length, hzs], .inr ⟨w.heap.size, 0, _, rfl, hx, hlc, by unfold maxLen; simp only; omega, by simp [zeroRow_length, hzs], by rw [← hzs]; simpa using zeroRow_take z.cells.toList hlc⟩⟩)
end
end Go.Proofs.YtbhnbnecaejjiaaDoor
