/- Ranging over a map with whole-number keys whose rounds leave the map alone; maps.clone. Of no program. -/
import Derived.Test.YtbhnbnecaejjiaaDoorMap
import Derived.Maps.RangeRun
import Derived.Laws.Externs
namespace Go.Proofs.YtbhnbnecaejjiaaDoor
open Go.RowKit
open Go.ChangeMaps (setBlock)
/-- Block r goes over the map of block b; left: what is still to come; cur: what came last. -/
def rngM (r b : Nat) (kk : IntKind) (l left : List (Int × Value)) (cur : Option (Int × Value)) : Assn := fun h => ∃ (es : Array MapEntry) (clock since : Nat) (seen : Array Nat) (c0 : Nat), h b = some (.map es clock) ∧ h r = some (.mapIter (some b) since seen c0) ∧ r ≠ b ∧
  MapRep kk l es.toList clock ∧ (∀ x ∈ es.toList, x.born < since) ∧ since ≤ c0 ∧ since ≤ clock ∧ (leftOf es seen).toList.map (fun e => (e.key, e.val)) = left.map (fun x => (Value.int kk x.1, x.2)) ∧
  (∀ z v, cur = some (z, v) → ∃ (seen' : Array Nat) (e : MapEntry), seen = seen'.push e.born ∧ c0 = clock ∧ e ∈ es.toList ∧ e.key = .int kk z ∧ e.val = v)
theorem Ent.rngM {r b : Nat} {kk : IntKind} {l left : List (Int × Value)} {cur : Option (Int × Value)} (Γ : List Assn) : Ent (rngM r b kk l left cur :: Γ) (mapL b kk l :: Γ) :=
  Ent.mono1 Γ fun _ ⟨es, clock, _, _, _, h1, _, _, h4, _⟩ => ⟨es, clock, h1, h4⟩
class HasR (Γ : List Assn) (r : Nat) (b : outParam Nat) (kk : outParam IntKind) (l left : outParam (List (Int × Value))) (cur : outParam (Option (Int × Value))) (Δ : outParam (List Assn)) : Prop where
  ent : Ent Γ (rngM r b kk l left cur :: Δ)
instance (priority := high) HasR.head {Γ : List Assn} {r b : Nat} {kk : IntKind} {l left : List (Int × Value)} {cur : Option (Int × Value)} : HasR (rngM r b kk l left cur :: Γ) r b kk l left cur Γ := ⟨Ent.refl _⟩
instance HasR.tail {A : Assn} {Γ Δ : List Assn} {r b : Nat} {kk : IntKind} {l left : List (Int × Value)} {cur : Option (Int × Value)} [h : HasR Γ r b kk l left cur Δ] : HasR (A :: Γ) r b kk l left cur (A :: Δ) := ⟨(h.ent.cons A).trans (Ent.swap _ _ _)⟩
theorem born_inj {l : List MapEntry} (h : l.Pairwise (fun a b => a.born < b.born)) {x y : MapEntry} (hx : x ∈ l) (hy : y ∈ l) (e : x.born = y.born) : x = y := by
  induction l with
  | nil => cases hx
  | cons z l ih =>
    rw [List.pairwise_cons] at h
    rcases List.mem_cons.1 hx with e1 | h1
    · rcases List.mem_cons.1 hy with e2 | h2
      · rw [e1, e2]
      · have := h.1 y h2; rw [← e1] at this; omega
    · rcases List.mem_cons.1 hy with e2 | h2
      · have := h.1 x h1; rw [← e2] at this; omega
      · exact ih h.2 h1 h2
theorem filter_ne_erase {l : List MapEntry} (h : l.Pairwise (fun a b => a.born < b.born)) {i : Nat} {e : MapEntry} (hi : l[i]? = some e) : l.filter (fun x => decide (x.born ≠ e.born)) = l.eraseIdx i := by
  induction l generalizing i with
  | nil => simp at hi
  | cons z l ih =>
    rw [List.pairwise_cons] at h
    cases i with
    | zero =>
      simp only [List.getElem?_cons_zero, Option.some.injEq] at hi
      subst hi
      rw [List.filter_cons_of_neg (by simp), List.eraseIdx_cons_zero]
      refine List.filter_eq_self.2 fun x hx => ?_
      have := h.1 x hx
      simp; omega
    | succ i =>
      have hi' : l[i]? = some e := by simpa using hi
      have := h.1 e (List.mem_of_getElem? hi')
      rw [List.filter_cons_of_pos (by simp; omega), List.eraseIdx_cons_succ, ih h.2 hi']
theorem leftOf_push (es : Array MapEntry) (seen : Array Nat) (c : Nat) : (leftOf es (seen.push c)).toList = (leftOf es seen).toList.filter fun x => decide (x.born ≠ c) := by
  unfold leftOf
  rw [Array.toList_filter, Array.toList_filter, List.filter_filter]
  refine List.filter_congr fun x _ => ?_
  by_cases h : x.born = c
  · simp [h]
  · have h' : ¬ c = x.born := fun e => h e.symm
    simp [h]
section
variable {P : Program} {n : Nat} {md : Bool} {w0 : WM md} {ρ : Env} {Γ : List Assn} {Q : Exit → Act → World → Prop} {K : Act → World → Prop} {ty : TypeId} {pos : String} {af : Array Edge} {gd : Option (Nat × Bool)} {d : Nat} {ds : Option Tmp}
/-- range m -/
theorem S.range {t kt et : TypeId} {x : Operand} {b : Nat} {kk : IntKind} {l : List (Int × Value)} {Δ : List Assn} (ht : P.underlying t = some (.map kt et)) (hx : ev ρ x = some (.map (some b))) [h : HasM Γ b kk l Δ] (hn : Nat.blt d n = true)
    (k : ∀ r, S n w0 ((d, .pointer (some ⟨r, 0, none⟩)) :: ρ) (rngM r b kk l l none :: Δ) K) : S n w0 ρ Γ (Ow P Q ⟨some d, .range t x, ty, pos, af, gd⟩ K) := by
  intro a w ha hs hxt
  have hs1 := hs.ent h.ent
  obtain ⟨es, clock, hb, hr⟩ := hs1.isMap
  have hlt : b < w.heap.size := (Array.getElem?_eq_some_iff.1 hb).1
  have hrun : (execOp a.eval ⟨some d, .range t x, ty, pos, af, gd⟩).run P w = .ok (.value (.pointer (some ⟨w.heap.size, 0, none⟩))) (w.alloc (.mapIter (some b) clock #[] clock)) := by
    simp only [execOp, ha.ev hx, Sem.run_bind, run_range_map w t kt et b es clock ht hb, Result.andThen_ok, Sem.run_pure]
  unfold Ow Oper.wp
  rw [hrun, Oper.upon_value]
  refine k w.heap.size _ _ (ha.put hn _) ?_ (hxt.alloc _)
  refine hs1.upd fun y l1 p1 => ?_
  obtain ⟨es', clock', hb', hr'⟩ := p1
  have e1 := l1 b _ hb'
  unfold HL.of at e1
  rw [hb] at e1
  cases e1
  refine ⟨HL.join (HL.one b (.map es clock)) (HL.one w.heap.size (.mapIter (some b) clock #[] clock)), HL.join_le (HL.one_le ?_) (HL.one_le ?_), ⟨es, clock, clock, #[], clock, ?_, ?_, by omega, hr, hr.lt, Nat.le_refl _, Nat.le_refl _, ?_, fun z v e => by cases e⟩, fun c hc hcl => ⟨?_, ?_⟩⟩
  · exact (Below.heap_alloc w _ b hlt).trans hb
  · exact hx_new rfl
  · simp [HL.join, HL.one]
  · have : w.heap.size ≠ b := by omega
    simp [HL.join, HL.one, this]
  · rw [← hr.ent]
    unfold leftOf
    rw [Array.toList_filter, List.filter_eq_self.2 (fun x _ => by simp)]
  · have hcl' : c < w.heap.size := by
      rcases Nat.lt_or_ge c w.heap.size with h2 | h2
      · exact h2
      · simp [Array.getElem?_eq_none h2] at hcl
    refine HL.join_none (HL.one_none fun e => ?_) (HL.one_none (by omega))
    subst e
    rw [hb'] at hc
    cases hc
  · have hcl' : c < w.heap.size := by
      rcases Nat.lt_or_ge c w.heap.size with h2 | h2
      · exact h2
      · simp [Array.getElem?_eq_none h2] at hcl
    exact Below.heap_alloc w _ c hcl'
/-- next: nothing is left, or one of those that are. -/
theorem S.nextR {x : Operand} {r b : Nat} {kk : IntKind} {l left : List (Int × Value)} {cur : Option (Int × Value)} {Δ : List Assn} (hx : ev ρ x = some (.pointer (some ⟨r, 0, none⟩))) [h : HasR Γ r b kk l left cur Δ] (hn : Nat.blt d n = true)
    (k0 : left = [] → S n w0 ((d, .tuple #[.bool false]) :: ρ) (rngM r b kk l left cur :: Δ) K)
    (k1 : ∀ i z v, left[i]? = some (z, v) → S n w0 ((d, .tuple #[.bool true, .int kk z, v]) :: ρ) (rngM r b kk l (left.eraseIdx i) (some (z, v)) :: Δ) K) :
    S n w0 ρ Γ (Ow P Q ⟨some d, .next x false, ty, pos, af, gd⟩ K) := by
  intro a w ha hs hxt
  have hs1 := hs.ent h.ent
  obtain ⟨y, l1, es, clock, since, seen, c0, h1, h2, h3, h4, h5, h6, h6', h7, h8⟩ := hs1.head
  have hb : w.heap[b]? = some (.map es clock) := l1 b _ h1
  have hr : w.heap[r]? = some (.mapIter (some b) since seen c0) := l1 r _ h2
  rcases run_next_at (P := P) w ty r b since c0 seen es clock hr hb h5 h6 with ⟨h0, hrun⟩ | ⟨e, he, w1, hw1, hrun⟩
  · have hl : left = [] := by
      have e0 : leftOf es seen = #[] := Array.eq_empty_of_size_eq_zero h0
      rw [e0] at h7
      exact List.map_eq_nil_iff.1 h7.symm
    have hr2 : (execOp a.eval ⟨some d, .next x false, ty, pos, af, gd⟩).run P w = .ok (.value (.tuple #[.bool false])) w := by
      simp only [execOp, ha.ev hx, Sem.run_bind, hrun, Result.andThen_ok, Sem.run_pure]
    unfold Ow Oper.wp
    rw [hr2, Oper.upon_value]
    exact k0 hl _ _ (ha.put hn _) hs1 hxt
  · obtain ⟨i, hi⟩ := List.getElem?_of_mem he
    have hpw : (leftOf es seen).toList.Pairwise (fun a b => a.born < b.born) := by
      unfold leftOf
      rw [Array.toList_filter]
      exact h4.born.filter _
    have hmem : e ∈ es.toList := by
      unfold leftOf at he
      rw [Array.toList_filter] at he
      exact (List.mem_filter.1 he).1
    have hi2 := congrArg (fun q => q[i]?) h7
    simp only [List.getElem?_map, hi, Option.map_some] at hi2
    cases hli : left[i]? with
    | none => rw [hli] at hi2; cases hi2
    | some zv =>
      obtain ⟨z, v⟩ := zv
      rw [hli] at hi2
      simp only [Option.map_some, Option.some.injEq, Prod.mk.injEq] at hi2
      have hr2 : (execOp a.eval ⟨some d, .next x false, ty, pos, af, gd⟩).run P w = .ok (.value (.tuple #[.bool true, .int kk z, v])) (setBlock w1 r (.mapIter (some b) since (seen.push e.born) clock)) := by
        simp only [execOp, ha.ev hx, Sem.run_bind, hrun, Result.andThen_ok, Sem.run_pure, hi2.1, hi2.2]
      have hw1h : w1.heap = w.heap := by rcases hw1 with rfl | rfl <;> rfl
      unfold Ow Oper.wp
      rw [hr2, Oper.upon_value]
      refine k1 i z v hli _ _ (ha.put hn _) ?_ ?_
      · have hs2 : Sat w1 (rngM r b kk l left cur :: Δ) := hs1.of_heap hw1h
        refine hs2.upd fun y l2 p2 => ?_
        obtain ⟨es', clock', _, _, _, g1, g2, _⟩ := p2
        have q1 := l2 b _ g1
        unfold HL.of at q1
        rw [hw1h, hb] at q1
        cases q1
        have hrl : r < w1.heap.size := by rw [hw1h]; exact (Array.getElem?_eq_some_iff.1 hr).1
        refine ⟨HL.join (HL.one b (.map es clock)) (HL.one r (.mapIter (some b) since (seen.push e.born) clock)), HL.join_le (HL.one_le ?_) (HL.one_le ?_), ⟨es, clock, since, seen.push e.born, clock, ?_, ?_, h3, h4, h5, h6', h6', ?_, fun z' v' e' => ?_⟩, fun c hc _ => ⟨?_, ?_⟩⟩
        · show (w1.heap.setIfInBounds r _)[b]? = _
          rw [Array.getElem?_setIfInBounds_ne h3, hw1h, hb]
        · show (w1.heap.setIfInBounds r _)[r]? = _
          rw [Array.getElem?_setIfInBounds_self_of_lt hrl]
        · simp [HL.join, HL.one]
        · simp [HL.join, HL.one, h3]
        · rw [leftOf_push, filter_ne_erase hpw hi, map_eraseIdx', h7, ← map_eraseIdx']
        · cases e'
          exact ⟨seen, e, rfl, rfl, hmem, hi2.1, hi2.2⟩
        · refine HL.join_none (HL.one_none fun e => ?_) (HL.one_none fun e => ?_)
          · subst e; rw [g1] at hc; cases hc
          · subst e; rw [g2] at hc; cases hc
        · show (w1.heap.setIfInBounds r _)[c]? = _
          have : r ≠ c := fun e => by subst e; rw [g2] at hc; cases hc
          rw [Array.getElem?_setIfInBounds_ne this]
      · have hx1 : Ext w0 w1 := by
          rcases hw1 with rfl | rfl
          · exact hxt
          · exact hxt.drew
        exact hx1.setObj r _
/-- The round's key and value. -/
theorem q_entryR {x : Operand} {r b : Nat} {kk : IntKind} {l left : List (Int × Value)} {z : Int} {v : Value} {Δ : List Assn} (hx : ev ρ x = some (.pointer (some ⟨r, 0, none⟩))) [h : HasR Γ r b kk l left (some (z, v)) Δ] : Qv P n ρ Γ ⟨ds, .entry x, ty, pos, af, gd⟩ (.tuple #[.int kk z, v]) := by
  intro a w ha hs
  obtain ⟨y, l1, es, clock, since, seen, c0, h1, h2, h3, h4, h5, h6, h6', h7, h8⟩ := (hs.ent h.ent).head
  obtain ⟨seen', e, rfl, rfl, he, hk, hv⟩ := h8 z v rfl
  have hnd : (es.toList.map (·.born)).Nodup := List.pairwise_map.2 (h4.born.imp fun h => Nat.ne_of_lt h)
  have := run_entry_at (P := P) w r b since seen' es c0 e (l1 r _ h2) (l1 b _ h1) he hnd
  rw [hk, hv] at this
  simp only [execOp, ha.ev hx, Sem.run_bind, this, Result.andThen_ok, Sem.run_pure]
/-- maps.clone -/
theorem run_clone {r : Nat} {es : Array MapEntry} {clock : Nat} (t : TypeId) (w : World) (hb : w.heap[r]? = some (.map es clock)) :
    (Extern.MapsClone.clone #[.iface t (.map (some r))]).run P w = .ok (.iface t (.map (some w.heap.size))) (w.alloc (.map es clock)) := by
  have e : Extern.MapsClone.clone #[.iface t (.map (some r))] = (getObj r >>= fun o => match o with
      | .map entries clock => (newObj (.map entries clock) >>= fun n => pure (.iface t (.map (some n))))
      | _ => stuck "maps.clone: a map expected") := rfl
  rw [e]
  simp [MapKept.run_getObj_map hb, Result.andThen, go_sem]
theorem S.clone {f : FuncId} {fn : Func} {x : Operand} {ats : Array TypeId} {t : TypeId} {b : Nat} {kk : IntKind} {l : List (Int × Value)} {Δ : List Assn} (hf : P.funcs[f]? = some fn) (hname : (fn.name == "runtime.NumGoroutine") = false) (hb : fn.body.isNone = true) (hnx : Extern.findNext fn = none) (he : Extern.find fn = some Extern.MapsClone.clone)
    (hx : ev ρ x = some (.iface t (.map (some b)))) [h : HasM Γ b kk l Δ] (hn : Nat.blt d n = true)
    (k : ∀ c, S n w0 ((d, .iface t (.map (some c))) :: ρ) (mapL c kk l :: mapL b kk l :: Δ) K) : S n w0 ρ Γ (Ow P Q ⟨some d, .call { callee := .value (.func f), args := #[x], argTypes := ats }, ty, pos, af, gd⟩ K) := by
  intro a w ha hs hxt
  have hs1 := hs.ent h.ent
  obtain ⟨es, clock, hbm, hr⟩ := hs1.isMap
  have hrun : (execOp a.eval ⟨some d, .call { callee := .value (.func f), args := #[x], argTypes := ats }, ty, pos, af, gd⟩).run P w = .ok (.value (.iface t (.map (some w.heap.size)))) (w.alloc (.map es clock)) := by
    have h1 := run_callFunc_extern hf hname hb hnx he #[.iface t (.map (some b))] w
    rw [run_clone t w hbm] at h1
    simp only [Result.andThen] at h1
    have hfv : a.eval (.func f) = .func (.func f) #[] #[] := rfl
    simp [execOp, resolve, hfv, Deferred.ofValue, invoke, ha.ev hx, h1]
  unfold Ow Oper.wp
  rw [hrun, Oper.upon_value]
  refine k w.heap.size _ _ (ha.put hn _) ?_ (hxt.alloc _)
  have h0 : Sat w ((fun _ => True : Assn) :: mapL b kk l :: Δ) := by
    obtain ⟨y, l, s⟩ := hs1
    exact ⟨y, l, HL.emp, y, HL.emp_disj _, HL.emp_le _, HL.le.refl _, trivial, s⟩
  refine h0.upd fun y _ _ => ⟨HL.one w.heap.size (.map es clock), HL.one_le (hx_new rfl), ⟨es, clock, HL.one_self _ _, hr⟩, fun c _ hc => ?_⟩
  have hlt : c < w.heap.size := by
    rcases Nat.lt_or_ge c w.heap.size with h | h
    · exact h
    · simp [Array.getElem?_eq_none h] at hc
  exact ⟨HL.one_none (by omega), Below.heap_alloc _ _ _ hlt⟩
/-- v.(T), where v is of type T. -/
theorem q_assert {t s : TypeId} {x : Operand} {v : Value} {kt et : TypeId} (ht : P.underlying t = some (.map kt et)) (hx : ev ρ x = some (.iface t v)) : Qv P n ρ Γ ⟨ds, .typeAssert x s t false, ty, pos, af, gd⟩ v := fun a w ha _ => by
  have h1 : (Instr.typeAssert (.iface t v) s t false).run P w = .ok v w := by simp [Instr.typeAssert, run_underlying ht, go_sem, Result.andThen]
  simp only [execOp, ha.ev hx, Sem.run_bind, h1, Result.andThen_ok, Sem.run_pure]
/-- m == nil -/
theorem q_eqMN {t yt kt et : TypeId} {x y : Operand} {p : Option Nat} (ht : P.underlying t = some (.map kt et)) (hx : ev ρ x = some (.map p)) (hy : ev ρ y = some (.map none)) : Qv P n ρ Γ ⟨ds, .binOp .eql t x y yt, ty, pos, af, gd⟩ (.bool p.isNone) :=
  q_binR hx hy (fun w => by simp [eqGuard]) (fun w => by
    simp only [binOp]
    rw [show Op.equal t (.map p) (.map none) = Op.equalIn (9999 + 1) t (.map p) (.map none) from rfl]
    unfold Op.equalIn
    cases p <;> simp [run_underlying ht])
end
end Go.Proofs.YtbhnbnecaejjiaaDoor
