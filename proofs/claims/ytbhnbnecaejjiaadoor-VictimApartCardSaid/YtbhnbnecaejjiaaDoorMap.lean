/- Maps with keys that are whole numbers; calls through an interface whose type is known. Of no program. -/
import Derived.Test.YtbhnbnecaejjiaaDoorDel
import Derived.MapKept
namespace Go.Proofs.YtbhnbnecaejjiaaDoor
open Go.RowKit
open Go.MapKept (run_checkKey run_findKey run_keyThatStays heap_set)
theorem map_eraseIdx' {α β : Type} (f : α → β) (l : List α) (k : Nat) : (l.eraseIdx k).map f = (l.map f).eraseIdx k := by
  rw [List.eraseIdx_eq_take_drop_succ, List.eraseIdx_eq_take_drop_succ, List.map_append, List.map_take, List.map_drop]
/-- Where a key stands, and what it has. -/
def alFind {α : Type} (z : Int) : List (Int × α) → Nat → Option (Nat × α)
  | [], _ => none
  | x :: l, i => if z = x.1 then some (i, x.2) else alFind z l (i + 1)
def alGet {α : Type} (z : Int) : List (Int × α) → Option α
  | [] => none
  | x :: l => if z = x.1 then some x.2 else alGet z l
def alPut {α : Type} (z : Int) (v : α) : List (Int × α) → List (Int × α)
  | [] => [(z, v)]
  | x :: l => if z = x.1 then (z, v) :: l else x :: alPut z v l
def alDel {α : Type} (z : Int) : List (Int × α) → List (Int × α)
  | [] => []
  | x :: l => if z = x.1 then l else x :: alDel z l
section
variable {α : Type}
theorem alFind_get (z : Int) : ∀ (l : List (Int × α)) (i : Nat), (alFind z l i).map (·.2) = alGet z l
  | [], _ => rfl
  | x :: l, i => by
    unfold alFind alGet
    split
    · rfl
    · exact alFind_get z l (i + 1)
theorem alFind_some {z : Int} : ∀ {l : List (Int × α)} {i j : Nat} {v : α}, alFind z l i = some (j, v) → ∃ k, j = i + k ∧ l[k]? = some (z, v) ∧ (∀ w, alPut z w l = l.set k (z, w)) ∧ alDel z l = l.eraseIdx k
  | [], _, _, _, h => by cases h
  | x :: l, i, j, v, h => by
    unfold alFind at h
    split at h
    · rename_i e
      cases h
      exact ⟨0, rfl, by simp [e], fun w => by simp [alPut, e], by simp [alDel, e]⟩
    · rename_i e
      obtain ⟨k, h1, h2, h3, h4⟩ := alFind_some h
      exact ⟨k + 1, by omega, by simpa using h2, fun w => by simp [alPut, e, h3], by simp [alDel, e, h4]⟩
theorem alFind_none {z : Int} : ∀ {l : List (Int × α)} {i : Nat}, alFind z l i = none → (∀ w, alPut z w l = l ++ [(z, w)]) ∧ alDel z l = l ∧ z ∉ l.map (·.1)
  | [], _, _ => ⟨fun _ => rfl, rfl, by simp⟩
  | x :: l, i, h => by
    unfold alFind at h
    split at h
    · cases h
    · rename_i e
      obtain ⟨h1, h2, h3⟩ := alFind_none h
      exact ⟨fun w => by simp [alPut, e, h1], by simp [alDel, e, h2], by simp only [List.map_cons, List.mem_cons, not_or]; exact ⟨e, h3⟩⟩
theorem alGet_put (z y : Int) (v : α) : ∀ l : List (Int × α), alGet y (alPut z v l) = if y = z then some v else alGet y l
  | [] => by simp [alPut, alGet]
  | x :: l => by
    unfold alPut
    split
    · rename_i e
      subst e
      simp only [alGet]
      split <;> rfl
    · rename_i e
      simp only [alGet, alGet_put z y v l]
      by_cases h : y = x.1
      · rw [if_pos h, if_neg (fun (e2 : y = z) => e (e2 ▸ h)), if_pos h]
      · rw [if_neg h, if_neg h]
theorem alGet_notin {z : Int} : ∀ {l : List (Int × α)}, z ∉ l.map (·.1) → alGet z l = none
  | [], _ => rfl
  | x :: l, h => by
    simp only [List.map_cons, List.mem_cons, not_or] at h
    unfold alGet
    rw [if_neg h.1]
    exact alGet_notin h.2
theorem alGet_del {z : Int} (y : Int) : ∀ {l : List (Int × α)}, (l.map (·.1)).Nodup → alGet y (alDel z l) = if y = z then none else alGet y l
  | [], _ => by simp [alDel, alGet]
  | x :: l, h => by
    rw [List.map_cons, List.nodup_cons] at h
    unfold alDel
    split
    · rename_i e
      simp only [alGet]
      by_cases h2 : y = z
      · rw [if_pos h2, h2, e]; exact alGet_notin h.1
      · rw [if_neg h2, if_neg (fun e2 => h2 (e2.trans e.symm))]
    · rename_i e
      simp only [alGet, alGet_del y h.2]
      by_cases h2 : y = x.1
      · rw [if_pos h2, if_neg (fun (e2 : y = z) => e (e2 ▸ h2)), if_pos h2]
      · rw [if_neg h2, if_neg h2]
end
/-- A map's entries are l. -/
structure MapRep (kk : IntKind) (l : List (Int × Value)) (es : List MapEntry) (clock : Nat) : Prop where
  ent : es.map (fun e => (e.key, e.val)) = l.map (fun x => (Value.int kk x.1, x.2))
  nd : (l.map (·.1)).Nodup
  born : es.Pairwise (fun a b => a.born < b.born)
  lt : ∀ e ∈ es, e.born < clock
def mapL (b : Nat) (kk : IntKind) (l : List (Int × Value)) : Assn := fun h => ∃ es clock, h b = some (.map es clock) ∧ MapRep kk l es.toList clock
/-- .. and the entry of z was born at s. -/
def mapB (b : Nat) (kk : IntKind) (l : List (Int × Value)) (z : Int) (s : Nat) : Assn := fun h => ∃ es clock, h b = some (.map es clock) ∧ MapRep kk l es.toList clock ∧ ∃ (i : Nat) (e : MapEntry), es.toList[i]? = some e ∧ e.key = .int kk z ∧ e.born = s
theorem MapRep.find {kk q : IntKind} (z : Int) : ∀ {es : List MapEntry} {l : List (Int × Value)}, es.map (fun e => (e.key, e.val)) = l.map (fun x => (Value.int kk x.1, x.2)) → ∀ i, Instr.findNow (.int q) (.int kk z) es i = some (alFind z l i)
  | [], [], _, _ => rfl
  | [], _ :: _, h, _ => by cases h
  | _ :: _, [], h, _ => by cases h
  | e :: es, x :: l, h, i => by
    simp only [List.map_cons, List.cons.injEq, Prod.mk.injEq] at h
    obtain ⟨⟨h1, h2⟩, h3⟩ := h
    unfold Instr.findNow alFind
    simp only [h1, Instr.sameNow, if_true]
    by_cases e2 : z = x.1
    · simp [e2, h2]
    · have : (z == x.1) = false := by simpa using e2
      simp only [this, if_neg e2]
      exact MapRep.find z h3 (i + 1)
theorem MapRep.at {kk : IntKind} {l : List (Int × Value)} {es : List MapEntry} {clock : Nat} (h : MapRep kk l es clock) {k : Nat} {z : Int} {v : Value} (hl : l[k]? = some (z, v)) : ∃ e, es[k]? = some e ∧ e.key = .int kk z ∧ e.val = v := by
  have e1 := congrArg (fun l => l[k]?) h.ent
  simp only [List.getElem?_map, hl, Option.map_some] at e1
  cases he : es[k]? with
  | none => rw [he] at e1; cases e1
  | some e =>
    rw [he] at e1
    simp only [Option.map_some, Option.some.injEq, Prod.mk.injEq] at e1
    exact ⟨e, rfl, e1⟩
theorem MapRep.set {kk : IntKind} {l : List (Int × Value)} {es : List MapEntry} {clock : Nat} (h : MapRep kk l es clock) {k : Nat} {z : Int} {v : Value} (hl : l[k]? = some (z, v)) (w : Value) (f : MapEntry → MapEntry) (hf : ∀ e, e.key = .int kk z → (f e).key = .int kk z ∧ (f e).val = w ∧ (f e).born = e.born) :
    MapRep kk (l.set k (z, w)) (es.modify k f) clock := by
  obtain ⟨e, he, hk, _⟩ := h.at hl
  obtain ⟨f1, f2, f3⟩ := hf e hk
  have hb : (es.modify k f).map (·.born) = es.map (·.born) := by
    refine List.ext_getElem? fun j => ?_
    simp only [List.getElem?_map, List.getElem?_modify]
    by_cases hj : k = j
    · subst hj
      simp [he, f3]
    · simp [hj]
  have hb2 : ∀ (a b : List MapEntry), a.map (·.born) = b.map (·.born) → b.Pairwise (fun a b => a.born < b.born) → a.Pairwise (fun a b => a.born < b.born) := fun a b e h => by
    rw [← List.pairwise_map (f := fun e : MapEntry => e.born) (R := (· < ·))] at h ⊢
    rwa [e]
  refine ⟨?_, ?_, hb2 _ _ hb h.born, fun x hx => ?_⟩
  · refine List.ext_getElem? fun j => ?_
    have e1 := congrArg (fun l => l[j]?) h.ent
    simp only [List.getElem?_map, List.getElem?_modify] at e1 ⊢
    by_cases hj : k = j
    · subst hj
      have hkl : k < l.length := (List.getElem?_eq_some_iff.1 hl).1
      simp [he, f1, f2, hkl]
    · rw [List.getElem?_set_ne hj]
      simpa [hj] using e1
  · have : (l.set k (z, w)).map (·.1) = l.map (·.1) := by
      refine List.ext_getElem? fun j => ?_
      simp only [List.getElem?_map]
      by_cases hj : k = j
      · subst hj
        have hkl : k < l.length := (List.getElem?_eq_some_iff.1 hl).1
        rw [List.getElem?_set_self hkl, hl]
        rfl
      · rw [List.getElem?_set_ne hj]
    rw [this]
    exact h.nd
  · have hx2 : x.born ∈ es.map (·.born) := by rw [← hb]; exact List.mem_map_of_mem hx
    obtain ⟨y, hy, e2⟩ := List.mem_map.1 hx2
    rw [← e2]
    exact h.lt y hy
theorem MapRep.push {kk : IntKind} {l : List (Int × Value)} {es : List MapEntry} {clock : Nat} (h : MapRep kk l es clock) {z : Int} (hz : z ∉ l.map (·.1)) (w : Value) : MapRep kk (l ++ [(z, w)]) (es ++ [⟨.int kk z, w, clock⟩]) (clock + 1) := by
  refine ⟨by simp [h.ent], by rw [List.map_append, List.nodup_append]; exact ⟨h.nd, by simp, fun a ha b hb => by simp at hb; subst hb; exact fun e => hz (e ▸ ha)⟩, ?_, ?_⟩
  · rw [List.pairwise_append]
    exact ⟨h.born, by simp, fun a ha b hb => by simp at hb; subst hb; exact h.lt a ha⟩
  · intro e he
    rcases List.mem_append.1 he with he | he
    · have := h.lt e he; omega
    · simp at he; subst he; simp
theorem MapRep.del {kk : IntKind} {l : List (Int × Value)} {es : List MapEntry} {clock : Nat} (h : MapRep kk l es clock) (k : Nat) : MapRep kk (l.eraseIdx k) (es.eraseIdx k) clock := by
  refine ⟨?_, ?_, h.born.sublist (List.eraseIdx_sublist ..), fun e he => h.lt e (List.mem_of_mem_eraseIdx he)⟩
  · rw [map_eraseIdx', map_eraseIdx', h.ent]
  · rw [map_eraseIdx']
    exact h.nd.sublist (List.eraseIdx_sublist ..)
/-- A map among the assertions. -/
class HasM (Γ : List Assn) (b : Nat) (kk : outParam IntKind) (l : outParam (List (Int × Value))) (Δ : outParam (List Assn)) : Prop where
  ent : Ent Γ (mapL b kk l :: Δ)
instance (priority := high) HasM.head {Γ : List Assn} {b : Nat} {kk : IntKind} {l : List (Int × Value)} : HasM (mapL b kk l :: Γ) b kk l Γ := ⟨Ent.refl _⟩
instance HasM.tail {P : Assn} {Γ Δ : List Assn} {b : Nat} {kk : IntKind} {l : List (Int × Value)} [h : HasM Γ b kk l Δ] : HasM (P :: Γ) b kk l (P :: Δ) := ⟨(h.ent.cons P).trans (Ent.swap _ _ _)⟩
class HasMB (Γ : List Assn) (b : Nat) (kk : outParam IntKind) (l : outParam (List (Int × Value))) (z : outParam Int) (s : outParam Nat) (Δ : outParam (List Assn)) : Prop where
  ent : Ent Γ (mapB b kk l z s :: Δ)
instance (priority := high) HasMB.head {Γ : List Assn} {b : Nat} {kk : IntKind} {l : List (Int × Value)} {z : Int} {s : Nat} : HasMB (mapB b kk l z s :: Γ) b kk l z s Γ := ⟨Ent.refl _⟩
instance HasMB.tail {P : Assn} {Γ Δ : List Assn} {b : Nat} {kk : IntKind} {l : List (Int × Value)} {z : Int} {s : Nat} [h : HasMB Γ b kk l z s Δ] : HasMB (P :: Γ) b kk l z s (P :: Δ) := ⟨(h.ent.cons P).trans (Ent.swap _ _ _)⟩
theorem Sat.isMap {w : World} {b : Nat} {kk : IntKind} {l : List (Int × Value)} {Γ : List Assn} (h : Sat w (mapL b kk l :: Γ)) : ∃ es clock, w.heap[b]? = some (.map es clock) ∧ MapRep kk l es.toList clock := by
  obtain ⟨x, le, es, clock, p, r⟩ := h.head
  exact ⟨es, clock, le b _ p, r⟩
/-- The keys of a map are all other. -/
theorem S.mapNodup {n : Nat} {md : Bool} {w0 : WM md} {ρ : Env} {Γ Δ : List Assn} {φ : Act → World → Prop} (b : Nat) {kk : IntKind} {l : List (Int × Value)} [h : HasM Γ b kk l Δ] (k : (l.map (·.1)).Nodup → S n w0 ρ Γ φ) : S n w0 ρ Γ φ := by
  intro a w ha hs hx
  obtain ⟨_, _, _, r⟩ := (hs.ent h.ent).isMap
  exact k r.nd a w ha hs hx
/-- A block's object is set anew. -/
theorem Sat.setObj {w : World} {A B : Assn} {b : Nat} {Γ : List Assn} (h : Sat w (A :: Γ)) (o : Obj) (hA : ∀ x, A x → ∃ o', x b = some o') (hB : B (HL.one b o)) : Sat ({ w with heap := w.heap.setIfInBounds b o } : World) (B :: Γ) := by
  refine h.upd fun x l p => ?_
  obtain ⟨o', ho⟩ := hA x p
  have hw := l b _ ho
  obtain ⟨h1, h2⟩ := heap_set (o' := o) hw
  refine ⟨HL.one b o, HL.one_le h1, hB, fun c hc _ => ?_⟩
  have hne : c ≠ b := fun e => by subst e; rw [ho] at hc; cases hc
  exact ⟨HL.one_none hne, h2 c hne⟩
theorem Ext.setObj {md : Bool} {a : WM md} {w : World} (h : Ext a w) (b : Nat) (o : Obj) : Ext a ({ w with heap := w.heap.setIfInBounds b o } : World) := h.trans ⟨rfl, rfl, rfl, by simp, Nat.le_refl _⟩
section
variable {P : Program} {n : Nat} {md : Bool} {w0 : WM md} {ρ : Env} {Γ : List Assn} {Q : Exit → Act → World → Prop} {K : Act → World → Prop} {ty : TypeId} {pos : String} {af : Array Edge} {gd : Option (Nat × Bool)} {d : Nat} {ds : Option Tmp}
theorem S.makeMap {t : TypeId} (kk : IntKind) (hn : Nat.blt d n = true) (k : ∀ b, S n w0 ((d, .map (some b)) :: ρ) (mapL b kk [] :: Γ) K) : S n w0 ρ Γ (Ow P Q ⟨some d, .makeMap t none, ty, pos, af, gd⟩ K) := by
  intro a w ha hs hx
  have hr : (execOp a.eval ⟨some d, .makeMap t none, ty, pos, af, gd⟩).run P w = .ok (.value (.map (some w.heap.size))) (w.alloc (.map #[] 0)) := by
    simp [execOp, run_makeMap]
  unfold Ow Oper.wp
  rw [hr, Oper.upon_value]
  refine k w.heap.size _ _ (ha.put hn _) ?_ (hx.alloc _)
  have h' : Sat w ((fun _ => True : Assn) :: Γ) := by
    obtain ⟨x, l, s⟩ := hs
    exact ⟨x, l, HL.emp, x, HL.emp_disj _, HL.emp_le _, HL.le.refl _, trivial, s⟩
  refine h'.upd fun x _ _ => ⟨HL.one w.heap.size (.map #[] 0), HL.one_le (hx_new rfl), ⟨#[], 0, HL.one_self _ _, rfl, by simp, by simp, by simp⟩, fun b _ hb => ?_⟩
  have hlt : b < w.heap.size := by
    rcases Nat.lt_or_ge b w.heap.size with h | h
    · exact h
    · simp [Array.getElem?_eq_none h] at hb
  exact ⟨HL.one_none (by omega), Below.heap_alloc _ _ _ hlt⟩
/-- len(m). -/
theorem q_lenM {x : Operand} {t kt et : TypeId} {b : Nat} {kk : IntKind} {l : List (Int × Value)} {Δ : List Assn} (ht : P.underlying t = some (.map kt et)) (hx : ev ρ x = some (.map (some b))) [h : HasM Γ b kk l Δ] : Qv P n ρ Γ ⟨ds, .call { callee := .builtin .len, args := #[x], argTypes := #[t] }, ty, pos, af, gd⟩ (.int .i64 l.length) := fun a w ha hs => by
  obtain ⟨es, clock, hb, r⟩ := (hs.ent h.ent).isMap
  have hl : es.size = l.length := by have := congrArg List.length r.ent; simpa using this
  simp [execOp, ha.ev hx, resolve, invoke, builtin, Builtin.len_, run_underlying ht, goInt, MapKept.run_getObj_map (P := P) hb, hl]
/-- v, ok := m[k]. -/
theorem q_lookupOk {t kt et : TypeId} {q : IntKind} {x y : Operand} {b : Nat} {kk : IntKind} {z : Int} {l : List (Int × Value)} {zv : Value} {Δ : List Assn} (v : Value) (ok : Bool) (ht : P.underlying t = some (.map kt et)) (hk : P.underlying kt = some (.int q)) (hzv : (P.info? et).bind (·.zero) = some zv)
    (hx : ev ρ x = some (.map (some b))) (hy : ev ρ y = some (.int kk z)) [h : HasM Γ b kk l Δ] (hq : q = kk) (hv : (v, ok) = match alGet z l with | some v => (v, true) | none => (zv, false)) : Qv P n ρ Γ ⟨ds, .lookup t x y true, ty, pos, af, gd⟩ (.tuple #[v, .bool ok]) := fun a w ha hs => by
  subst hq
  obtain ⟨es, clock, hb, r⟩ := (hs.ent h.ent).isMap
  have hf := run_findKey (P := P) (w := w) hk (MapRep.find (q := q) (kk := q) z r.ent 0)
  have hg := alFind_get z l 0
  have hz : (zeroValue et).run P w = .ok zv w := by
    cases hi : P.info? et with
    | none => simp [hi] at hzv
    | some i =>
      cases hz' : i.zero with
      | none => simp [hi, hz'] at hzv
      | some z0 =>
        simp only [hi, hz', Option.bind_some, Option.some.injEq] at hzv
        simp [zeroValue, typeInfo, hi, hz', hzv]
  have hc : ∀ e, (Instr.checkKey e 10000 kt (.int q z)).run P w = .ok () w := fun e => run_checkKey (P := P) (w := w) (k := .int q z) hk rfl e 9999
  cases hfi : alFind z l 0 with
  | none =>
    rw [hfi] at hg hf
    rw [← hg] at hv
    simp only [Option.map_none, Prod.mk.injEq] at hv
    simp [execOp, ha.ev hx, ha.ev hy, Instr.lookup, run_underlying ht, MapKept.run_getObj_map (P := P) hb, hc, hf, hz, hv, Result.andThen]
  | some p =>
    rw [hfi] at hg hf
    rw [← hg] at hv
    simp only [Option.map_some, Prod.mk.injEq] at hv
    simp [execOp, ha.ev hx, ha.ev hy, Instr.lookup, run_underlying ht, MapKept.run_getObj_map (P := P) hb, hc, hf, hv, Result.andThen]
/-- m[k]. -/
theorem q_lookup1 {t kt et : TypeId} {q : IntKind} {x y : Operand} {b : Nat} {kk : IntKind} {z : Int} {l : List (Int × Value)} {zv : Value} {Δ : List Assn} (v : Value) (ht : P.underlying t = some (.map kt et)) (hk : P.underlying kt = some (.int q)) (hzv : (P.info? et).bind (·.zero) = some zv)
    (hx : ev ρ x = some (.map (some b))) (hy : ev ρ y = some (.int kk z)) [h : HasM Γ b kk l Δ] (hq : q = kk) (hv : v = (alGet z l).getD zv) : Qv P n ρ Γ ⟨ds, .lookup t x y false, ty, pos, af, gd⟩ v := fun a w ha hs => by
  subst hq
  obtain ⟨es, clock, hb, r⟩ := (hs.ent h.ent).isMap
  have hf := run_findKey (P := P) (w := w) hk (MapRep.find (q := q) (kk := q) z r.ent 0)
  have hg := alFind_get z l 0
  have hz : (zeroValue et).run P w = .ok zv w := by
    cases hi : P.info? et with
    | none => simp [hi] at hzv
    | some i =>
      cases hz' : i.zero with
      | none => simp [hi, hz'] at hzv
      | some z0 =>
        simp only [hi, hz', Option.bind_some, Option.some.injEq] at hzv
        simp [zeroValue, typeInfo, hi, hz', hzv]
  have hc : ∀ e, (Instr.checkKey e 10000 kt (.int q z)).run P w = .ok () w := fun e => run_checkKey (P := P) (w := w) (k := .int q z) hk rfl e 9999
  cases hfi : alFind z l 0 with
  | none =>
    rw [hfi] at hg hf
    rw [← hg] at hv
    simp only [Option.map_none, Option.getD_none] at hv
    simp [execOp, ha.ev hx, ha.ev hy, Instr.lookup, run_underlying ht, MapKept.run_getObj_map (P := P) hb, hc, hf, hz, hv, Result.andThen]
  | some p =>
    rw [hfi] at hg hf
    rw [← hg] at hv
    simp only [Option.map_some, Option.getD_some] at hv
    simp [execOp, ha.ev hx, ha.ev hy, Instr.lookup, run_underlying ht, MapKept.run_getObj_map (P := P) hb, hc, hf, hv, Result.andThen]
/-- m[k] = v. -/
theorem S.mapUpdate {t kt et : TypeId} {q : IntKind} {x y v : Operand} {b : Nat} {kk : IntKind} {z : Int} {vv : Value} {l : List (Int × Value)} {Δ : List Assn} (ht : P.underlying t = some (.map kt et)) (hk : P.underlying kt = some (.int q))
    (hx : ev ρ x = some (.map (some b))) (hy : ev ρ y = some (.int kk z)) (hv : ev ρ v = some vv) [h : HasM Γ b kk l Δ] (hq : q = kk) (kK : S n w0 ρ (mapL b kk (alPut z vv l) :: Δ) K) : S n w0 ρ Γ (Ow P Q ⟨none, .mapUpdate t x y v, ty, pos, af, gd⟩ K) := by
  intro a w ha hs hxt
  subst hq
  have hs1 := hs.ent h.ent
  obtain ⟨es, clock, hb, r⟩ := hs1.isMap
  have hf := run_findKey (P := P) (w := w) hk (MapRep.find (q := q) (kk := q) z r.ent 0)
  have hc : ∀ e, (Instr.checkKey e 10000 kt (.int q z)).run P w = .ok () w := fun e => run_checkKey (P := P) (w := w) (k := .int q z) hk rfl e 9999
  have hA : ∀ x, mapL b q l x → ∃ o', x b = some o' := fun x ⟨es, c, e, _⟩ => ⟨_, e⟩
  cases hfi : alFind z l 0 with
  | none =>
    rw [hfi] at hf
    obtain ⟨p1, _, p3⟩ := alFind_none hfi
    have hr : (execOp a.eval ⟨none, .mapUpdate t x y v, ty, pos, af, gd⟩).run P w = .ok .skip ({ w with heap := w.heap.setIfInBounds b (.map (es.push ⟨.int q z, vv, clock⟩) (clock + 1)) } : World) := by
      simp [execOp, ha.ev hx, ha.ev hy, ha.ev hv, Instr.mapUpdate, run_underlying ht, MapKept.run_getObj_map (P := P) hb, hc, hf, MapKept.run_setObj_map (P := P) _ hb, Result.andThen]
    unfold Ow Oper.wp
    rw [hr, Oper.upon_skip]
    refine kK _ _ (ha.putNone _) (hs1.setObj _ hA ⟨_, _, HL.one_self _ _, ?_⟩) (hxt.setObj _ _)
    rw [p1]
    have := r.push p3 vv
    simpa using this
  | some p =>
    obtain ⟨j, v0⟩ := p
    rw [hfi] at hf
    obtain ⟨k0, p1, p2, p3, _⟩ := alFind_some hfi
    obtain ⟨e0, he0, hk0, _⟩ := r.at p2
    have hj : j = k0 := by omega
    subst hj
    have he1 : es[j]? = some e0 := by simpa using he0
    have hst := run_keyThatStays (P := P) (w := w) (d := .int q) (k := .int q z) rfl
    have hr : (execOp a.eval ⟨none, .mapUpdate t x y v, ty, pos, af, gd⟩).run P w = .ok .skip ({ w with heap := w.heap.setIfInBounds b (.map (es.modify j fun e => { e with key := .int q z, val := vv }) clock) } : World) := by
      simp [execOp, ha.ev hx, ha.ev hy, ha.ev hv, Instr.mapUpdate, run_underlying ht, MapKept.run_getObj_map (P := P) hb, hc, hf, MapKept.run_setObj_map (P := P) _ hb, Result.andThen, he1, hk0, hst]
    unfold Ow Oper.wp
    rw [hr, Oper.upon_skip]
    refine kK _ _ (ha.putNone _) (hs1.setObj _ hA ⟨_, _, HL.one_self _ _, ?_⟩) (hxt.setObj _ _)
    rw [p3, Array.toList_modify]
    exact r.set p2 vv _ fun e _ => ⟨rfl, rfl, rfl⟩
/-- delete(m, k). -/
theorem S.mapDelete {t kt et yt : TypeId} {q : IntKind} {x y : Operand} {b : Nat} {kk : IntKind} {z : Int} {l : List (Int × Value)} {Δ : List Assn} (ht : P.underlying t = some (.map kt et)) (hk : P.underlying kt = some (.int q))
    (hx : ev ρ x = some (.map (some b))) (hy : ev ρ y = some (.int kk z)) [h : HasM Γ b kk l Δ] (hq : q = kk) (kK : S n w0 ρ (mapL b kk (alDel z l) :: Δ) K) : S n w0 ρ Γ (Ow P Q ⟨none, .call { callee := .builtin .delete, args := #[x, y], argTypes := #[t, yt] }, ty, pos, af, gd⟩ K) := by
  intro a w ha hs hxt
  subst hq
  have hs1 := hs.ent h.ent
  obtain ⟨es, clock, hb, r⟩ := hs1.isMap
  have hf := run_findKey (P := P) (w := w) hk (MapRep.find (q := q) (kk := q) z r.ent 0)
  have hc : ∀ e, (Instr.checkKey e 10000 kt (.int q z)).run P w = .ok () w := fun e => run_checkKey (P := P) (w := w) (k := .int q z) hk rfl e 9999
  have hA : ∀ x, mapL b q l x → ∃ o', x b = some o' := fun x ⟨es, c, e, _⟩ => ⟨_, e⟩
  cases hfi : alFind z l 0 with
  | none =>
    rw [hfi] at hf
    obtain ⟨_, p2, _⟩ := alFind_none hfi
    have hr : (execOp a.eval ⟨none, .call { callee := .builtin .delete, args := #[x, y], argTypes := #[t, yt] }, ty, pos, af, gd⟩).run P w = .ok (.value (.tuple #[])) ({ w with heap := w.heap.setIfInBounds b (.map es clock) } : World) := by
      simp [execOp, ha.ev hx, ha.ev hy, resolve, invoke, builtin, Builtin.delete_, run_underlying ht, MapKept.run_getObj_map (P := P) hb, hc, hf, MapKept.run_setObj_map (P := P) _ hb, Result.andThen]
    unfold Ow Oper.wp
    rw [hr, Oper.upon_value]
    refine kK _ _ (ha.putNone _) (hs1.setObj _ hA ⟨_, _, HL.one_self _ _, ?_⟩) (hxt.setObj _ _)
    rw [p2]
    exact r
  | some p =>
    obtain ⟨j, v0⟩ := p
    rw [hfi] at hf
    obtain ⟨k0, p1, p2, _, p4⟩ := alFind_some hfi
    have hj : j = k0 := by omega
    subst hj
    have hr : (execOp a.eval ⟨none, .call { callee := .builtin .delete, args := #[x, y], argTypes := #[t, yt] }, ty, pos, af, gd⟩).run P w = .ok (.value (.tuple #[])) ({ w with heap := w.heap.setIfInBounds b (.map (es.eraseIdxIfInBounds j) clock) } : World) := by
      simp [execOp, ha.ev hx, ha.ev hy, resolve, invoke, builtin, Builtin.delete_, run_underlying ht, MapKept.run_getObj_map (P := P) hb, hc, hf, MapKept.run_setObj_map (P := P) _ hb, Result.andThen]
    unfold Ow Oper.wp
    rw [hr, Oper.upon_value]
    refine kK _ _ (ha.putNone _) (hs1.setObj _ hA ⟨_, _, HL.one_self _ _, ?_⟩) (hxt.setObj _ _)
    rw [p4, Array.toList_eraseIdxIfInBounds]
    exact r.del j
/-- The place of an entry that is there. -/
theorem S.mapEntry {t kt et : TypeId} {q : IntKind} {x y : Operand} {b : Nat} {kk : IntKind} {z : Int} {v : Value} {l : List (Int × Value)} {Δ : List Assn} (ht : P.underlying t = some (.map kt et)) (hk : P.underlying kt = some (.int q))
    (hx : ev ρ x = some (.map (some b))) (hy : ev ρ y = some (.int kk z)) [h : HasM Γ b kk l Δ] (hq : q = kk) (hv : alGet z l = some v) (hn : Nat.blt d n = true)
    (kK : ∀ s : Nat, S n w0 ((d, .tuple #[v, .int .i64 s]) :: ρ) (mapB b kk l z s :: Δ) K) : S n w0 ρ Γ (Ow P Q ⟨some d, .mapEntry t x y, ty, pos, af, gd⟩ K) := by
  intro a w ha hs hxt
  subst hq
  have hs1 := hs.ent h.ent
  obtain ⟨es, clock, hb, r⟩ := hs1.isMap
  have hf := run_findKey (P := P) (w := w) hk (MapRep.find (q := q) (kk := q) z r.ent 0)
  have hc : ∀ e, (Instr.checkKey e 10000 kt (.int q z)).run P w = .ok () w := fun e => run_checkKey (P := P) (w := w) (k := .int q z) hk rfl e 9999
  have hA : ∀ x, mapL b q l x → ∃ o', x b = some o' := fun x ⟨es, c, e, _⟩ => ⟨_, e⟩
  have hg := alFind_get z l 0
  cases hfi : alFind z l 0 with
  | none => rw [hfi, hv] at hg; cases hg
  | some p =>
    obtain ⟨j, v0⟩ := p
    rw [hfi, hv] at hg
    simp only [Option.map_some, Option.some.injEq] at hg
    subst hg
    rw [hfi] at hf
    obtain ⟨k0, p1, p2, p3, _⟩ := alFind_some hfi
    obtain ⟨e0, he0, hk0, hv0⟩ := r.at p2
    have hj : j = k0 := by omega
    subst hj
    have he1 : es[j]? = some e0 := by simpa using he0
    have hst := run_keyThatStays (P := P) (w := w) (d := .int q) (k := .int q z) rfl
    have hr : (execOp a.eval ⟨some d, .mapEntry t x y, ty, pos, af, gd⟩).run P w = .ok (.value (.tuple #[v0, .int .i64 e0.born])) ({ w with heap := w.heap.setIfInBounds b (.map (es.modify j fun e => { e with key := .int q z }) clock) } : World) := by
      simp [execOp, ha.ev hx, ha.ev hy, Instr.mapEntry, run_underlying ht, MapKept.run_getObj_map (P := P) hb, hc, hf, MapKept.run_setObj_map (P := P) _ hb, Result.andThen, he1, hk0, hst, goInt]
    unfold Ow Oper.wp
    rw [hr, Oper.upon_value]
    refine kK _ _ _ (ha.put hn _) (hs1.setObj _ hA ⟨_, _, HL.one_self _ _, ?_, j, { e0 with key := .int q z }, ?_, rfl, rfl⟩) (hxt.setObj _ _)
    · have hl : l.set j (z, v0) = l := by
        refine List.ext_getElem? fun i => ?_
        by_cases hi : j = i
        · subst hi; rw [List.getElem?_set_self (List.getElem?_eq_some_iff.1 p2).1, p2]
        · rw [List.getElem?_set_ne hi]
      rw [Array.toList_modify]
      have h2 := r.set p2 v0 (fun e => { e with key := .int q z }) 
      rw [hl] at h2
      refine ⟨?_, r.nd, ?_, ?_⟩
      · refine List.ext_getElem? fun i => ?_
        have e1 := congrArg (fun l => l[i]?) r.ent
        simp only [List.getElem?_map, List.getElem?_modify] at e1 ⊢
        by_cases hi : j = i
        · subst hi
          rw [he0] at e1 ⊢
          simp only [Option.map_some, if_true] at e1 ⊢
          rw [← e1, hk0]
          rfl
        · simpa [hi] using e1
      · rw [← List.pairwise_map (f := fun e : MapEntry => e.born) (R := (· < ·))]
        have hb : (es.toList.modify j fun e => { e with key := .int q z }).map (·.born) = es.toList.map (·.born) := by
          refine List.ext_getElem? fun i => ?_
          simp only [List.getElem?_map, List.getElem?_modify]
          by_cases hi : j = i
          · subst hi; simp [he0]
          · simp [hi]
        rw [hb, List.pairwise_map]
        exact r.born
      · intro x hx
        obtain ⟨i, hi⟩ := List.getElem?_of_mem hx
        rw [List.getElem?_modify] at hi
        by_cases hji : j = i
        · subst hji
          rw [he0] at hi
          simp at hi
          subst hi
          exact r.lt e0 (List.mem_of_getElem? he0)
        · simp only [if_neg hji, Option.map_eq_map, Option.map_id'] at hi
          exact r.lt x (List.mem_of_getElem? (by simpa using hi))
    · rw [Array.toList_modify, List.getElem?_modify, he0]
      simp
/-- .. is written. -/
theorem S.entryStore {t : TypeId} {x y v : Operand} {b : Nat} {kk : IntKind} {z : Int} {s : Nat} {vv : Value} {l : List (Int × Value)} {Δ : List Assn}
    (hx : ev ρ x = some (.map (some b))) [h : HasMB Γ b kk l z s Δ] (hy : ev ρ y = some (.int .i64 s)) (hv : ev ρ v = some vv) (kK : S n w0 ρ (mapL b kk (alPut z vv l) :: Δ) K) : S n w0 ρ Γ (Ow P Q ⟨none, .entryStore t x y v, ty, pos, af, gd⟩ K) := by
  intro a w ha hs hxt
  have hs1 := hs.ent h.ent
  obtain ⟨x0, le0, es, clock, p0, r, i, e0, he0, hk0, hb0⟩ := hs1.head
  have hb : w.heap[b]? = some (.map es clock) := le0 b _ p0
  have hA : ∀ x, mapB b kk l z s x → ∃ o', x b = some o' := fun x ⟨es, c, e, _⟩ => ⟨_, e⟩
  have he1 : es[i]? = some e0 := by simpa using he0
  have hil : i < es.toList.length := (List.getElem?_eq_some_iff.1 he0).1
  -- the entry's place
  have hfx : es.findIdx? (fun e => (e.born : Int) == (s : Int)) = some i := by
    rw [Array.findIdx?_eq_some_iff_getElem]
    have hei : es.toList[i] = e0 := by have := List.getElem?_eq_getElem hil; rw [this] at he0; exact Option.some.inj he0
    have hei2 : es[i]'(by simpa using hil) = e0 := by simpa using hei
    refine ⟨by simpa using hil, by rw [hei2, hb0]; simp, fun j hj => ?_⟩
    have := List.pairwise_iff_getElem.1 r.born j i (by omega) hil hj
    rw [hei, hb0, Array.getElem_toList] at this
    simp only [Bool.not_eq_true, beq_eq_false_iff_ne, ne_eq]
    omega
  -- its number in l
  have e1 := congrArg (fun l => l[i]?) r.ent
  simp only [List.getElem?_map, he0, Option.map_some] at e1
  cases hl : l[i]? with
  | none => rw [hl] at e1; cases e1
  | some p =>
    rw [hl] at e1
    simp only [Option.map_some, Option.some.injEq, Prod.mk.injEq] at e1
    rw [hk0] at e1
    obtain ⟨e2, e3⟩ := e1
    simp only [Value.int.injEq, true_and] at e2
    obtain ⟨z', v0⟩ := p
    simp only at e2 e3
    subst e2
    have hput : alPut z vv l = l.set i (z, vv) := by
      cases hfi : alFind z l 0 with
      | none => exact absurd (List.mem_map.2 ⟨_, List.mem_of_getElem? hl, rfl⟩) (alFind_none hfi).2.2
      | some p =>
        obtain ⟨j, v1⟩ := p
        obtain ⟨k0, p1, p2, p3, _⟩ := alFind_some hfi
        have hik : i = k0 := by
          have hnd := r.nd
          have a1 : (l.map (·.1))[i]? = some z := by rw [List.getElem?_map, hl]; rfl
          have a2 : (l.map (·.1))[k0]? = some z := by rw [List.getElem?_map, p2]; rfl
          exact (List.getElem?_inj (by have := (List.getElem?_eq_some_iff.1 a1).1; exact this) hnd).1 (a1.trans a2.symm)
        rw [p3, hik]
    have hr : (execOp a.eval ⟨none, .entryStore t x y v, ty, pos, af, gd⟩).run P w = .ok .skip ({ w with heap := w.heap.setIfInBounds b (.map (es.modify i fun e => { e with val := vv }) clock) } : World) := by
      simp [execOp, ha.ev hx, ha.ev hy, ha.ev hv, Instr.entryStore, MapKept.run_getObj_map (P := P) hb, asInt, asIntOf, hfx, MapKept.run_setObj_map (P := P) _ hb, Result.andThen]
    unfold Ow Oper.wp
    rw [hr, Oper.upon_skip]
    refine kK _ _ (ha.putNone _) (hs1.setObj _ hA ⟨_, _, HL.one_self _ _, ?_⟩) (hxt.setObj _ _)
    rw [hput, Array.toList_modify]
    exact r.set hl vv _ fun e he => ⟨he, rfl, rfl⟩
/-- A record is stored into an owned slice. -/
theorem S.storeOwS {t b o k : Nat} {x y : Operand} {e : TypeId} {sz : Nat} {xs xs' : List Value} {vs : Array Value} {Δ : List Assn} (s : SV) {off : Nat} (j : Nat) (ht : aggT P t = some k) (hx : ev ρ x = some (.pointer (some ⟨b, o, none⟩))) (hy : ev ρ y = some (.agg vs)) (hk : vs.size = k) (h1 : allOne vs.toList = true) [h : HasOw Γ s e sz xs Δ] (hp : s.a = some ⟨b, off, none⟩) (ho : o = off + j) (hj : j + vs.size ≤ xs.length) (hxs : xs.take j ++ vs.toList ++ xs.drop (j + vs.size) = xs')
    (kk : S n w0 ρ (own s e sz xs' :: Δ) K) : S n w0 ρ Γ (Ow P Q ⟨none, .store t x y, ty, pos, af, gd⟩ K) := by
  intro a w ha hs hxt
  subst ho hxs
  have hO := h.own hs
  obtain ⟨sa, sn, sc⟩ := s
  simp only at hp hO
  subst hp
  have hlen := hO.1
  rcases hO.2 with ⟨h0, _⟩ | ⟨b', off', c', cur, q1, q2, hB, q4, q5, q6, q7⟩
  · cases h0
  simp only [SV.v, Value.slice.injEq, Option.some.injEq, Addr.mk.injEq, and_true, true_and] at q1
  obtain ⟨⟨rfl, rfl⟩, rfl⟩ := q1
  have hcm : sn * sz ≤ sc * sz := Nat.mul_le_mul_right _ q4
  have hst := run_storeCells_at P b (off + j) e vs.toList 0 cur w hB (by simp; omega) (fun v hv => List.all_eq_true.1 h1 v hv)
  have hr : (execOp a.eval ⟨none, .store t x y, ty, pos, af, gd⟩).run P w = .ok .skip (w.setRow b (cur.toList.take (off + j) ++ vs.toList ++ cur.toList.drop (off + j + vs.toList.length)).toArray) := by
    simp only [Nat.add_zero] at hst
    simp [execOp, ha.ev hx, ha.ev hy, Instr.storeAt, Instr.sureAddr, storeVar, (run_isAgg_agg ht w).2, Value.cells, hk] at hst ⊢
    rw [hst]
    rfl
  unfold Ow Oper.wp
  rw [hr, Oper.upon_skip]
  refine kk _ _ (ha.putNone _) ?_ (hxt.trans ⟨rfl, rfl, rfl, by simp [World.setRow], Nat.le_refl _⟩)
  have hC : off + sn * sz ≤ cur.toList.length := by simp only [Array.length_toList]; omega
  refine (hs.ent h.ent).ownUpd (b := b) ⟨?_, .inr ⟨b, off, sc, _, rfl, rfl, setRow_heap w b cur _ e _ hB, q4, q5, ?_, ?_⟩⟩ rfl ⟨rfl, rfl, rfl, by simp [World.setRow], fun k _ hk => setRow_other w b k _ hk, Nat.le_refl _⟩
  · simp only [List.length_append, List.length_take, List.length_drop, Array.length_toList]
    omega
  · simp only [List.size_toArray, List.length_append, List.length_take, List.length_drop, Array.length_toList]
    omega
  · simp only
    have hvl : vs.toList.length = vs.size := Array.length_toList
    generalize vs.toList = V at *
    generalize cur.toList = C at *
    rw [hvl, List.append_assoc, List.drop_append_of_le_length (by rw [List.length_take]; omega)]
    have e1 : (C.take (off + j)).drop off = (C.drop off).take j := by rw [List.drop_take]; congr 1; omega
    have e2 : xs.take j = (C.drop off).take j := by rw [← q7, List.take_take, Nat.min_eq_left (by omega)]
    have e3 : xs.drop (j + vs.size) = (C.drop (off + j + vs.size)).take (sn * sz - (j + vs.size)) := by rw [← q7, List.drop_take, List.drop_drop]; congr 2; omega
    rw [e1, e2, e3]
    have l1 : ((C.drop off).take j).length = j := by rw [List.length_take, List.length_drop]; omega
    rw [List.take_append, l1, List.take_of_length_le (l := (C.drop off).take j) (by omega), List.take_append, hvl, List.take_of_length_le (l := V) (by omega), List.append_assoc]
    congr 3
    omega
/-- .. where records stand side by side. -/
theorem flat_put {α : Type} {enc : α → List Value} {sz : Nat} (he : ∀ x, (enc x).length = sz) {os : List α} {i : Nat} (hi : i < os.length) (y : α) : (os.flatMap enc).take (i * sz) ++ enc y ++ (os.flatMap enc).drop (i * sz + sz) = (os.set i y).flatMap enc := by
  rw [show i * sz + sz = (i + 1) * sz by rw [Nat.succ_mul], flat_drop he, List.set_eq_take_append_cons_drop, if_pos hi, List.flatMap_append, List.flatMap_cons, List.append_assoc]
  congr 1
  have h1 := flat_length he (os.take i)
  rw [List.length_take, Nat.min_eq_left (by omega)] at h1
  conv => lhs; rw [← List.take_append_drop i os, List.flatMap_append]
  rw [← h1, List.take_left]
/-! Interfaces. -/
theorem q_makeInterface {t : TypeId} {x : Operand} {v : Value} (ht : (match P.underlying t with | some (.interface _) => false | some _ => true | none => false) = true) (hx : ev ρ x = some v) : Qv P n ρ Γ ⟨ds, .makeInterface t x, ty, pos, af, gd⟩ (.iface t v) := fun a w ha _ => by
  cases hu : P.underlying t with
  | none => rw [hu] at ht; cases ht
  | some dd =>
    cases dd <;> first | (rw [hu] at ht; cases ht; done) | simp [execOp, ha.ev hx, Instr.makeInterface, run_underlying hu, Result.andThen]
/-- v, ok := x.(T), where x is of type T. -/
theorem q_assertOk {t s : TypeId} {x : Operand} {v : Value} (ht : (match P.underlying t with | some (.interface _) => false | some _ => true | none => false) = true) (hx : ev ρ x = some (.iface t v)) : Qv P n ρ Γ ⟨ds, .typeAssert x s t true, ty, pos, af, gd⟩ (.tuple #[v, .bool true]) := fun a w ha _ => by
  cases hu : P.underlying t with
  | none => rw [hu] at ht; cases ht
  | some dd =>
    cases dd <;> first | (rw [hu] at ht; cases ht; done) | simp [execOp, ha.ev hx, Instr.typeAssert, run_underlying hu, Result.andThen]
/-- The method of a pointer's type. -/
def methT (P : Program) (t : TypeId) (name : String) : Option FuncId := match P.info? t with
  | some i => match i.methods.find? (·.name == name) with
    | some m => match m.path.toList, m.func, P.underlying t with
      | [], some (f, true), some (.pointer _) => some f
      | _, _, _ => none
    | none => none
  | none => none
theorem run_invoke {t : TypeId} {v : Value} {name : String} {f : FuncId} {r : Operand} {xs : List Operand} {ats : Array TypeId} {vs : List Value} {a : Act} (hm : methT P t name = some f) (he : enterT P f = true) (hr : a.eval r = .iface t v) (hargs : xs.map a.eval = vs) (w : World) :
    (execOp a.eval ⟨ds, .call { callee := .invoke r name, args := xs.toArray, argTypes := ats }, ty, pos, af, gd⟩).run P w = .ok (.enter f (v :: vs).toArray) w := by
  unfold methT at hm
  split at hm
  · rename_i i hi
    split at hm
    · rename_i m hfm
      split at hm
      · rename_i f' dd h1 h2 h3
        cases hm
        unfold enterT at he
        split at he
        · rename_i fn hfn
          simp only [Bool.and_eq_true, bne_iff_ne, ne_eq] at he
          obtain ⟨g1, g2⟩ := he
          have g2' : ¬ fn.body = none := by cases hb : fn.body <;> simp [hb] at g2 ⊢
          obtain ⟨k, hk⟩ : ∃ k, P.types.size + Made.depth = k + 1 := ⟨P.types.size + 99, by unfold Made.depth; omega⟩
          have hme : (method (k + 1) t v name).run P w = .ok (f, v) w := by
            unfold method
            simp [typeInfo, hi, hfm, h1, follow, h2, receiverAt, run_underlying h3, Place.get, Result.andThen]
          have hxs : (xs.toArray.map a.eval) = vs.toArray := by rw [← hargs]; simp
          have hcm : (callMethod (.iface t v) name vs.toArray).run P w = .ok (.enter f (v :: vs).toArray) w := by
            unfold callMethod
            simp [hk, hme, callFunc, hfn, g1, g2', Result.andThen]
          have hex : (#[(Value.iface t v)] ++ vs.toArray).extract 1 (#[(Value.iface t v)] ++ vs.toArray).size = vs.toArray := by simp
          simp only [execOp, resolve, hr, hxs, invoke]
          simpa [Result.andThen] using hcm
        · cases he
      · cases hm
    · cases hm
  · cases hm
theorem S.callI {f : FuncId} {t : TypeId} {v : Value} {name : String} {r : Operand} {xs : List Operand} {ats : Array TypeId} {vs : List Value} {pre Δ : List Assn} {post : List Assn → Value → List Assn → Prop} (hm : methT P t name = some f) (he : enterT P f = true) (hr : ev ρ r = some (.iface t v)) (hargs : EvL ρ xs vs)
    (hs : Spec P f (v :: vs) pre post md) [hp : Picks pre Γ Δ] (hn : Nat.blt d n = true)
    (k : ∀ v Θ, post Δ v Θ → S n w0 ((d, v) :: ρ) Θ K) : S n w0 ρ Γ (Ow P Q ⟨some d, .call { callee := .invoke r name, args := xs.toArray, argTypes := ats }, ty, pos, af, gd⟩ K) := by
  intro a w ha hsat hx
  have hr := run_invoke (P := P) (ty := ty) (pos := pos) (af := af) (gd := gd) (ds := some d) (ats := ats) (vs := vs) hm he (ha.ev hr) (hargs.map ha) w
  unfold Ow Oper.wp
  rw [hr, Oper.upon_enter]
  refine (hs Δ w (hsat.ent hp.ent)).mono ?_
  rintro e w' ⟨v, Θ, rfl, hpost, hsat', hx'⟩
  exact k v Θ hpost _ _ (ha.put hn v) hsat' (hx.transM hx')
end
/-! Guards that themselves weren't wanted. -/
section
variable {n : Nat} {md : Bool} {w0 : WM md} {ρ : Env} {Γ : List Assn} {P : Program} {Q : Exit → Act → World → Prop} {ops : Array Oper} {d : Nat} {Hs : List Assn} {late : List Nat} {fuel : Nat} {listed : Array Bool}
theorem yielded_undef {a : Act} (ha : EnvOk n ρ a) {g t : Nat} (hd : (ops[g]?).bind (·.dst) = some t) (hb : Env.get ρ t = some undef) : yielded ops a.tmps g = none := by
  have h := ha.get t _ hb
  unfold yielded
  rw [hd]
  cases ht : a.tmps[t]? with
  | none => simp [ht]
  | some v =>
    have : a.tmps.getD t undef = v := by simp [Array.getD_eq_getD_getElem?, ht]
    rw [this] at h
    subst h
    simp [ht, undef]
theorem S.g_noU {o : Oper} {rest : List Oper} {g t : Nat} {want : Bool} (hg : o.guard = some (g, want)) (hd : (ops[g]?).bind (·.dst) = some t) (hb : Env.get ρ t = some undef) (hds : o.dst = some d) (hn : Nat.blt d n = true)
    (h : S n w0 ((d, undef) :: ρ) Γ (wpG P ops Q rest)) : S n w0 ρ Γ (wpG P ops Q (o :: rest)) := by
  intro a w ha hs hx
  unfold wpG
  rw [if_neg (by simp [Region.wanted, hg, yielded_undef ha hd hb])]
  rw [hds]
  exact h _ _ (ha.put hn _) hs hx
theorem S.dr_takeNU {o : Oper} {g t : Nat} {want : Bool} (i : Nat) (D : List Nat) (hi : ops[i]? = some o) (hok : takeOk ops listed i late D = true) (hg : o.guard = some (g, want)) (hgd : (ops[g]?).bind (·.dst) = some t) (hb : Env.get ρ t = some undef) (hd : o.dst = some d) (hn : Nat.blt d n = true) (hH : Ent Γ Hs)
    (k : S n w0 ((d, undef) :: ρ) Γ (Dr P ops Q Hs late fuel (listed.setIfInBounds i true))) : S n w0 ρ Γ (Dr P ops Q Hs late (fuel + 1) listed) := by
  intro a w ha hs hx
  unfold takeOk at hok
  simp only [Bool.and_eq_true, List.all_eq_true] at hok
  obtain ⟨⟨⟨⟨h1, h2⟩, h3⟩, h4⟩, h5⟩ := hok
  have hY : YieldsIf P ops (fun w => Sat w Hs) o undef a := .inr ⟨by simp [Region.wanted, hg, yielded_undef ha hgd hb], rfl⟩
  unfold Dr
  refine wpT_first (D := D) hi (Region.noSelect_spec h1) (fun _ _ _ h => h) (fun j hj => by simpa using h4 j (by simpa using hj)) (fun j hj o ho => ?_) fuel listed a w (Region.free_spec hi h2) (fun j hj => ?_) (by simpa using h3) hY (hs.ent hH) ?_
  · have := h5 j hj
    simp only [ho] at this
    obtain ⟨e, he, hb⟩ := Array.any_eq_true'.1 this.2
    simp only [Bool.and_eq_true, Bool.or_eq_true, beq_iff_eq, List.contains_iff_mem] at hb
    exact ⟨e, he, hb.1, hb.2⟩
  · have := h5 j hj
    simp only [bne_iff_ne, ne_eq, Bool.not_eq_true'] at this
    exact ⟨this.1.1, this.1.2⟩
  · rw [hd]
    exact k _ _ (ha.put hn _) hs hx
end
end Go.Proofs.YtbhnbnecaejjiaaDoor
