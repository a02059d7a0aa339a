/- Slice expressions by value alone; `append(s[:i], s[j:]...)` within one owned block; clear of the slack. Of no program. -/
import Derived.Test.YtbhnbnecaejjiaaDoorClos
namespace Go.Proofs.YtbhnbnecaejjiaaDoor
open Go.RowKit
theorem Sat.ownUpd {w w' : World} {s s' : SV} {e : TypeId} {sz : Nat} {xs xs' : List Value} {Δ : List Assn} {b : Nat} (hs : Sat w (own s e sz xs :: Δ)) (hO : Own w' e sz s'.v s'.n xs' (some b)) (hb : s.a.map (·.block) = some b) (keep : Keeps (fun k => k = b) w w') : Sat w' (own s' e sz xs' :: Δ) := by
  obtain ⟨hg', ow⟩ := own.ofOwn (s := s') hO
  refine hs.upd fun q l p => ?_
  have hq : ∀ k, q k = none → w.heap[k]? ≠ none → k ≠ b := by
    intro k hk _ e1
    rcases p.2 with ⟨h, _⟩ | ⟨b', off, cur, h, h2, _⟩
    · rw [h] at hb; cases hb
    · rw [h] at hb
      simp only [Option.map_some, Option.some.injEq] at hb
      subst hb
      rw [e1, h2] at hk; cases hk
  have hlt : ∀ b, w.heap[b]? ≠ none → b < w.heap.size := fun b hb => by
    rcases Nat.lt_or_ge b w.heap.size with h | h
    · exact h
    · simp [Array.getElem?_eq_none h] at hb
  rcases ow.2 with ⟨h1, h2, h3⟩ | ⟨b', off, cur, h1, h2, r⟩
  · rw [h1] at hg'; cases hg'
  · refine ⟨HL.one b' (.cells cur e), HL.one_le h2, ⟨ow.1, .inr ⟨b', off, cur, h1, HL.one_self _ _, r⟩⟩, fun c' hc hw => ⟨HL.one_none fun e1 => ?_, keep.block c' (hlt c' hw) (hq c' hc hw)⟩⟩
    subst e1
    rw [h1] at hg'
    simp only [Option.map_some, Option.some.injEq] at hg'
    exact hq c' hc hw hg'.symm
section
variable {P : Program} {n : Nat} {md : Bool} {w0 : WM md} {ρ : Env} {Γ : List Assn} {Q : Exit → Act → World → Prop} {K : Act → World → Prop} {ty : TypeId} {pos : String} {af : Array Edge} {gd : Option (Nat × Bool)} {d : Nat} {ds : Option Tmp}
theorem q_shrTo {t yt : TypeId} {x y : Operand} {k ky : IntKind} {p q : Int} (m : Nat) (r : Int) (hx : ev ρ x = some (.int k p)) (hy : ev ρ y = some (.int ky q)) (hq : q = ((m : Nat) : Int)) (hm : Nat.ble m k.bits = true) (hr : p / 2 ^ m = r) : Qv P n ρ Γ ⟨ds, .binOp .shr t x y yt, ty, pos, af, gd⟩ (.int k r) := by
  subst hr
  exact q_shr m hx hy hq hm
/-- x[m:], the value. -/
theorem q_sliceFrom {t e sz : Nat} {x y : Operand} {p : Option Addr} {l c : Nat} {kk : IntKind} {z : Int} (m : Nat) (ht : elemT P t = some (e, sz)) (hx : ev ρ x = some (.slice p l c)) (hy : ev ρ y = some (.int kk z)) (hz : z = ((m : Nat) : Int)) (hm : m ≤ l) : Qv P n ρ Γ ⟨ds, .slice t x (some y) none none, ty, pos, af, gd⟩ (.slice (if c = m then p else p.map (·.add (m * sz))) (l - m) (c - m)) := by
  intro a w ha _
  subst hz
  obtain ⟨hu, i, hi, rfl⟩ := elemT_info ht
  simp [execOp, ha.ev hx, ha.ev hy, Instr.sliceAt, Instr.slice, run_underlying hu, Instr.sliceBounds, Instr.sliceBound, asIntOf, hm, sizeOf, typeInfo, hi]
/-- x[m:h], the value. -/
theorem q_sliceLH {t e sz : Nat} {x y y' : Operand} {p : Option Addr} {l c : Nat} {kk kk' : IntKind} {z z' : Int} (m h : Nat) (ht : elemT P t = some (e, sz)) (hx : ev ρ x = some (.slice p l c)) (hy : ev ρ y = some (.int kk z)) (hy' : ev ρ y' = some (.int kk' z')) (hz : z = ((m : Nat) : Int)) (hz' : z' = ((h : Nat) : Int)) (hm : m ≤ h ∧ h ≤ c) : Qv P n ρ Γ ⟨ds, .slice t x (some y) (some y') none, ty, pos, af, gd⟩ (.slice (if c = m then p else p.map (·.add (m * sz))) (h - m) (c - m)) := by
  intro a w ha _
  subst hz hz'
  obtain ⟨hu, i, hi, rfl⟩ := elemT_info ht
  simp [execOp, ha.ev hx, ha.ev hy, ha.ev hy', Instr.sliceAt, Instr.slice, run_underlying hu, Instr.sliceBounds, Instr.sliceBound, asIntOf, hm.1, hm.2, sizeOf, typeInfo, hi]
/-- x[m:h:g], the value. -/
theorem q_slice3 {t e sz : Nat} {x y y' y2 : Operand} {p : Option Addr} {l c : Nat} {kk kk' k2 : IntKind} {z z' z2 : Int} (m h g : Nat) (ht : elemT P t = some (e, sz)) (hx : ev ρ x = some (.slice p l c)) (hy : ev ρ y = some (.int kk z)) (hy' : ev ρ y' = some (.int kk' z')) (hy2 : ev ρ y2 = some (.int k2 z2)) (hz : z = ((m : Nat) : Int)) (hz' : z' = ((h : Nat) : Int)) (hz2 : z2 = ((g : Nat) : Int)) (hm : m ≤ h ∧ h ≤ g ∧ g ≤ c) : Qv P n ρ Γ ⟨ds, .slice t x (some y) (some y') (some y2), ty, pos, af, gd⟩ (.slice (if g = m then p else p.map (·.add (m * sz))) (h - m) (g - m)) := by
  intro a w ha _
  subst hz hz' hz2
  obtain ⟨hu, i, hi, rfl⟩ := elemT_info ht
  simp [execOp, ha.ev hx, ha.ev hy, ha.ev hy', ha.ev hy2, Instr.sliceAt, Instr.slice, run_underlying hu, Instr.sliceBounds, Instr.sliceBound, asIntOf, hm.1, hm.2.1, hm.2.2, sizeOf, typeInfo, hi]
/-- A load of a record from memory that was there. -/
theorem q_loadWS {t k b o : Nat} {x : Operand} {W : World} (vs : List Value) [h : HasOld Γ W] (ht : aggT P t = some k) (hx : ev ρ x = some (.pointer (some ⟨b, o, none⟩))) (hk : vs.length = k) (hv : ∀ i u, vs[i]? = some u → W.cell? ⟨b, o + i, none⟩ = some u) : Qv P n ρ Γ ⟨ds, .load t x, ty, pos, af, gd⟩ (.agg vs.toArray) := by
  intro a w ha hs
  have hc : ∀ j u, vs[j]? = some u → w.cell? ((⟨b, o, none⟩ : Addr).add j) = some u := fun j u hu => by rw [Addr.add_lit]; exact h.cell hs (hv j u hu)
  have hl0 := run_loadCells_list (P := P) (w := w) ⟨b, o, none⟩ vs hc
  rw [hk] at hl0
  have hl : (loadVar t ⟨b, o, none⟩).run P w = .ok (.agg vs.toArray) w := by simp [loadVar, (run_isAgg_agg ht w).1, (run_isAgg_agg ht w).2, hl0]
  simp only [execOp, ha.ev hx, Instr.loadAt, Instr.sureAddr, Sem.run_bind, Sem.run_pure, Result.andThen_ok, hl]
abbrev xorI (k : IntKind) (p q : Int) : Int := k.wrap (BitVec.ofInt k.bits p ^^^ BitVec.ofInt k.bits q).toNat
theorem q_xor {t yt : TypeId} {x y : Operand} {k : IntKind} {p q : Int} (hx : ev ρ x = some (.int k p)) (hy : ev ρ y = some (.int k q)) : Qv P n ρ Γ ⟨ds, .binOp .xor t x y yt, ty, pos, af, gd⟩ (.int k (xorI k p q)) := fun a w ha _ => by
  simp [execOp, ha.ev hx, ha.ev hy, eqGuard, binOp, Op.intBits, xorI]
/-- append(s[:i], s[j:]...), s owned. -/
theorem S.appendDel {t e sz : Nat} {x y : Operand} {s : SV} {xs : List Value} {p2 : Option Addr} {c2 m2 : Nat} {Δ : List Assn} (i j : Nat) {b off : Nat} (ht : elemT P t = some (e, sz)) (hx : ev ρ x = some (.slice s.a i s.c)) [h : HasOw Γ s e sz xs Δ] (hp : s.a = some ⟨b, off, none⟩) (hy : ev ρ y = some (.slice p2 m2 c2)) (hm2 : m2 = s.n - j)
    (hp2 : ∃ a', p2 = some a' ∧ (j < s.n → a' = ⟨b, off + j * sz, none⟩)) (hij : i ≤ j) (hj : j ≤ s.n) (h1 : ∀ u ∈ xs, u.oneCell' = true) (hn : Nat.blt d n = true)
    (k : S n w0 ((d, .slice s.a (i + (s.n - j)) s.c) :: ρ) (own ⟨s.a, i + (s.n - j), s.c⟩ e sz (xs.take (i * sz) ++ xs.drop (j * sz)) :: Δ) K) :
    S n w0 ρ Γ (Ow P Q ⟨some d, .call { callee := .builtin .append, args := #[x, y], argTypes := #[t, t] }, ty, pos, af, gd⟩ K) := by
  intro a w ha hs hxt
  subst hm2
  obtain ⟨hu, ii, hi, rfl⟩ := elemT_info ht
  have hO := h.own hs
  obtain ⟨sa, sn, sc⟩ := s
  simp only at hp hp2 hj hx hO k hy
  subst hp
  obtain ⟨a', rfl, ha'⟩ := hp2
  have hlen := hO.1
  rcases hO.2 with ⟨h0, _⟩ | ⟨b', off', c', cur, q1, q2, hB, q4, q5, q6, q7⟩
  · cases h0
  simp only [SV.v, Value.slice.injEq, Option.some.injEq, Addr.mk.injEq, and_true, true_and] at q1
  obtain ⟨⟨rfl, rfl⟩, rfl⟩ := q1
  have hjm : (sn - j) * ii.size + j * ii.size = sn * ii.size := by rw [← Nat.add_mul]; congr 1; omega
  have him : i * ii.size ≤ j * ii.size := Nat.mul_le_mul_right _ hij
  have hcm : sn * ii.size ≤ sc * ii.size := Nat.mul_le_mul_right _ q4
  have hl : (xs.drop (j * ii.size)).length = (sn - j) * ii.size := by rw [List.length_drop, hlen]; omega
  have hcell : ∀ k u, (xs.drop (j * ii.size))[k]? = some u → w.cell? (a'.add k) = some u := by
    intro k u hk
    have hk' := (List.getElem?_eq_some_iff.1 hk).1
    have hjn : j < sn := by
      rcases Nat.lt_or_ge j sn with h | h
      · exact h
      · have : sn - j = 0 := by omega
        rw [hl, this] at hk'; simp at hk'
    rw [ha' hjn, Addr.add_lit]
    rw [List.getElem?_drop] at hk
    have := Own.cases hO
    rcases this with ⟨h0, _⟩ | ⟨b2, o2, c3, r1, _, _, _, _, r2, _⟩
    · cases h0
    · simp only [SV.v, Value.slice.injEq, Option.some.injEq, Addr.mk.injEq, and_true, true_and] at r1
      obtain ⟨⟨rfl, rfl⟩, rfl⟩ := r1
      rw [Nat.add_assoc, r2 _ (by rw [← hlen]; exact (List.getElem?_eq_some_iff.1 hk).1)]
      exact hk
  have hfit : off + i * ii.size + (xs.drop (j * ii.size)).length ≤ cur.size := by rw [hl]; omega
  have hr0 := run_append_room_off (P := P) (w := w) t ty e ii hu hi b off i sc cur hB a' (sn - j) c2 (xs.drop (j * ii.size)) hl hcell (fun u hu => h1 u (List.mem_of_mem_drop hu)) (by omega) hfit
  have hr : (execOp a.eval ⟨some d, .call { callee := .builtin .append, args := #[x, y], argTypes := #[t, t] }, ty, pos, af, gd⟩).run P w = .ok (.value (.slice (some ⟨b, off, none⟩) (i + (sn - j)) sc)) (w.setRow b (cur.toList.take (off + i * ii.size) ++ xs.drop (j * ii.size) ++ cur.toList.drop (off + i * ii.size + (xs.drop (j * ii.size)).length)).toArray) := by
    simp [execOp, ha.ev hx, ha.ev hy, resolve, invoke, builtin, hr0]
  unfold Ow Oper.wp
  rw [hr, Oper.upon_value]
  refine k _ _ (ha.put hn _) ?_ (hxt.trans ⟨rfl, rfl, rfl, by simp [World.setRow], Nat.le_refl _⟩)
  refine (hs.ent h.ent).ownUpd (b := b) ⟨?_, .inr ⟨b, off, sc, _, rfl, rfl, setRow_heap w b cur _ e _ hB, by simp only; omega, q5, ?_, ?_⟩⟩ rfl ⟨rfl, rfl, rfl, by simp [World.setRow], fun k _ hk => setRow_other w b k _ hk, Nat.le_refl _⟩
  · simp only [List.length_append, List.length_take, hl, hlen]
    rw [Nat.min_eq_left (by omega), ← Nat.add_mul]
  · simp only [List.size_toArray, List.length_append, List.length_take, List.length_drop, Array.length_toList]
    omega
  · have hlt : (cur.toList.take (off + i * ii.size)).length = off + i * ii.size := by simp; omega
    have e1 : ((cur.toList.take (off + i * ii.size) ++ xs.drop (j * ii.size) ++ cur.toList.drop (off + i * ii.size + (xs.drop (j * ii.size)).length)).drop off).take ((i + (sn - j)) * ii.size) = (cur.toList.take (off + i * ii.size)).drop off ++ xs.drop (j * ii.size) := by
      rw [List.append_assoc, List.drop_append_of_le_length (by omega), Nat.add_mul, ← hl, ← List.append_assoc]
      have hll : ((cur.toList.take (off + i * ii.size)).drop off ++ xs.drop (j * ii.size)).length = i * ii.size + (xs.drop (j * ii.size)).length := by rw [List.length_append, List.length_drop, hlt]; omega
      rw [← hll]
      exact List.take_left
    simp only
    rw [e1]
    congr 1
    rw [← q7, List.take_take, Nat.min_eq_left (by omega), List.drop_take]
    congr 1
    omega
theorem run_clear_one {w : World} {t e : TypeId} {ii : TypeInfo} {z : Value} (hu : P.underlying t = some (.slice e)) (hi : P.info? e = some ii) (hz : ii.zero = some z) (g off cap : Nat) (cur : Array Value) (hg : Blk w g e cur) (hfit : off + z.cells.toList.length ≤ cur.size) (h1 : ∀ u ∈ z.cells.toList, u.oneCell' = true) :
    (Builtin.clear_ #[t] ty #[.slice (some ⟨g, off, none⟩) 1 cap]).run P w = .ok (.tuple #[]) (w.setRow g (cur.toList.take off ++ z.cells.toList ++ cur.toList.drop (off + z.cells.toList.length)).toArray) := by
  have hst := run_storeCells_at P g off e z.cells.toList 0 cur w hg (by simpa using hfit) h1
  have hzc : (Builtin.zeroCells z.cells 1).toList = z.cells.toList := by
    congr 1
    apply Array.ext
    · simp [Builtin.zeroCells]
    · intro i h1 h2
      simp [Builtin.zeroCells, Nat.mod_eq_of_lt h2]
      exact getElem!_pos z.cells i h2
  simp only [Nat.add_zero] at hst
  simp [Builtin.clear_, run_underlying hu, zeroValue, typeInfo, hi, hz, hzc, hst]
/-- clear(s[len:len+1]), the slack of an owned slice. -/
theorem S.clearOne {t e sz by_ : Nat} {zs : List Value} {x : Operand} (s : SV) {xs : List Value} {p : Option Addr} {q cc : Nat} {Δ : List Assn} {b off : Nat} (hu : P.underlying t = some (.slice e)) (hi : infoT P e = some (zs, sz, by_)) (hzl : Nat.beq zs.length sz = true) (hz1 : allOne zs = true) (hx : ev ρ x = some (.slice p q cc)) [h : HasOw Γ s e sz xs Δ] (hp : s.a = some ⟨b, off, none⟩)
    (hq : q = 1) (hpp : p = some ⟨b, off + s.n * sz, none⟩) (hc : s.n + 1 ≤ s.c) (k : S n w0 ρ (own s e sz xs :: Δ) K) :
    S n w0 ρ Γ (Ow P Q ⟨none, .call { callee := .builtin .clear, args := #[x], argTypes := #[t] }, ty, pos, af, gd⟩ K) := by
  intro a w ha hs hxt
  subst hq hpp
  unfold infoT at hi
  split at hi
  case h_2 => cases hi
  rename_i i hi'
  split at hi
  case h_2 => cases hi
  rename_i z hz
  simp only [Option.some.injEq, Prod.mk.injEq] at hi
  obtain ⟨rfl, rfl, rfl⟩ := hi
  have hzs := Nat.eq_of_beq_eq_true hzl
  have hO := h.own hs
  obtain ⟨sa, sn, sc⟩ := s
  simp only at hp hc hx hO
  subst hp
  have hlen := hO.1
  rcases hO.2 with ⟨h0, _⟩ | ⟨b', off', c', cur, q1, q2, hB, q4, q5, q6, q7⟩
  · cases h0
  simp only [SV.v, Value.slice.injEq, Option.some.injEq, Addr.mk.injEq, and_true, true_and] at q1
  obtain ⟨⟨rfl, rfl⟩, rfl⟩ := q1
  have hcm : (sn + 1) * i.size ≤ sc * i.size := Nat.mul_le_mul_right _ hc
  rw [Nat.succ_mul] at hcm
  have hfit : off + sn * i.size + z.cells.toList.length ≤ cur.size := by rw [hzs]; omega
  have hr0 := run_clear_one (P := P) (ty := ty) hu hi' hz b (off + sn * i.size) cc cur hB hfit (fun v hv => List.all_eq_true.1 hz1 v hv)
  have hr : (execOp a.eval ⟨none, .call { callee := .builtin .clear, args := #[x], argTypes := #[t] }, ty, pos, af, gd⟩).run P w = .ok (.value (.tuple #[])) (w.setRow b (cur.toList.take (off + sn * i.size) ++ z.cells.toList ++ cur.toList.drop (off + sn * i.size + z.cells.toList.length)).toArray) := by
    simp [execOp, ha.ev hx, resolve, invoke, builtin, hr0]
  unfold Ow Oper.wp
  rw [hr, Oper.upon_value]
  refine k _ _ (ha.putNone _) ?_ (hxt.trans ⟨rfl, rfl, rfl, by simp [World.setRow], Nat.le_refl _⟩)
  refine (hs.ent h.ent).ownUpd (b := b) ⟨hlen, .inr ⟨b, off, sc, _, rfl, rfl, setRow_heap w b cur _ e _ hB, q4, q5, ?_, ?_⟩⟩ rfl ⟨rfl, rfl, rfl, by simp [World.setRow], fun k _ hk => setRow_other w b k _ hk, Nat.le_refl _⟩
  · simp only [List.size_toArray, List.length_append, List.length_take, List.length_drop, Array.length_toList]
    omega
  · have hlt : (cur.toList.take (off + sn * i.size)).length = off + sn * i.size := by simp; omega
    simp only
    rw [List.append_assoc, List.drop_append_of_le_length (by omega), ← q7, List.drop_take]
    have e2 : off + sn * i.size - off = sn * i.size := by omega
    rw [e2, List.take_left' (by rw [List.length_take, List.length_drop, Array.length_toList]; omega)]
end
end Go.Proofs.YtbhnbnecaejjiaaDoor
