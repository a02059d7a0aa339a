/- Owned slices whose value stays a name; lists of records in their cells. Of no program. -/
import Derived.Test.YtbhnbnecaejjiaaDoorMore
namespace Go.Proofs.YtbhnbnecaejjiaaDoor
open Go.RowKit
/-- An owned slice among the assertions. -/
class HasOw (Γ : List Assn) (s : SV) (e : outParam TypeId) (sz : outParam Nat) (xs : outParam (List Value)) (Δ : outParam (List Assn)) : Prop where
  ent : Ent Γ (own s e sz xs :: Δ)
instance (priority := high) HasOw.head {Γ : List Assn} {s : SV} {e : TypeId} {sz : Nat} {xs : List Value} : HasOw (own s e sz xs :: Γ) s e sz xs Γ := ⟨Ent.refl _⟩
instance HasOw.tail {A : Assn} {Γ Δ : List Assn} {s : SV} {e : TypeId} {sz : Nat} {xs : List Value} [h : HasOw Γ s e sz xs Δ] : HasOw (A :: Γ) s e sz xs (A :: Δ) := ⟨(h.ent.cons A).trans (Ent.swap _ _ _)⟩
theorem HasOw.own {Γ Δ : List Assn} {s : SV} {e : TypeId} {sz : Nat} {xs : List Value} (h : HasOw Γ s e sz xs Δ) {w : World} (hs : Sat w Γ) : Own w e sz s.v s.n xs (s.a.map (·.block)) := by
  obtain ⟨x, l, p⟩ := (hs.ent h.ent).head
  exact (p.mono l).toOwn
theorem HasOw.slAt {Γ Δ : List Assn} {s : SV} {e : TypeId} {sz : Nat} {xs : List Value} (h : HasOw Γ s e sz xs Δ) {w : World} (hs : Sat w Γ) : SlAt w s.v s.n sz xs := (h.own hs).sl
theorem HasOw.hasO {Γ Δ : List Assn} {s : SV} {e : TypeId} {sz : Nat} {xs : List Value} (h : HasOw Γ s e sz xs Δ) {b off : Nat} (hp : s.a = some ⟨b, off, none⟩) : HasO Γ b off s.n s.c e sz xs Δ :=
  ⟨by have := h.ent; obtain ⟨sa, sn, sc⟩ := s; simp only at hp; subst hp; exact this⟩
section
variable {P : Program} {n : Nat} {md : Bool} {w0 : WM md} {ρ : Env} {Γ : List Assn} {Q : Exit → Act → World → Prop} {K : Act → World → Prop} {ty : TypeId} {pos : String} {af : Array Edge} {gd : Option (Nat × Bool)} {d : Nat} {ds : Option Tmp}
theorem S.ownLen {φ : Act → World → Prop} (s : SV) {e : TypeId} {sz : Nat} {xs : List Value} {Δ : List Assn} [h : HasOw Γ s e sz xs Δ] (k : xs.length = s.n * sz → s.n ≤ s.c → s.c ≤ maxLen → S n w0 ρ Γ φ) : S n w0 ρ Γ φ := by
  intro a w ha hs hx
  obtain ⟨x, _, p1, p2⟩ := (hs.ent h.ent).head
  rcases p2 with ⟨_, e2, e3⟩ | ⟨b, off, cur, e1, _, h3, h4, _⟩
  · exact k p1 (by omega) (by rw [e3]; exact Nat.zero_le _) a w ha hs hx
  · exact k p1 h3 h4 a w ha hs hx
theorem S.ownSome {φ : Act → World → Prop} (s : SV) {e : TypeId} {sz : Nat} {xs : List Value} {Δ : List Assn} [h : HasOw Γ s e sz xs Δ] (hn : 0 < s.n) (k : ∀ b off, s.a = some ⟨b, off, none⟩ → xs.length = s.n * sz → s.n ≤ s.c → s.c ≤ maxLen → S n w0 ρ Γ φ) : S n w0 ρ Γ φ := by
  intro a w ha hs hx
  obtain ⟨x, _, p1, p2⟩ := (hs.ent h.ent).head
  rcases p2 with ⟨_, e2, _⟩ | ⟨b, off, cur, e1, _, h3, h4, _⟩
  · omega
  · exact k b off e1 p1 h3 h4 a w ha hs hx
theorem q_indexO {t : TypeId} {x y : Operand} {e sz b o l c : Nat} {k : IntKind} {z : Int} {p : Option Addr} (i : Nat) (ht : elemT P t = some (e, sz)) (hx : ev ρ x = some (.slice p l c)) (hp : p = some ⟨b, o, none⟩) (hy : ev ρ y = some (.int k z)) (hz : z = ((i : Nat) : Int)) (h : i < l) : Qv P n ρ Γ ⟨ds, .indexAddr t x y, ty, pos, af, gd⟩ (.pointer (some ⟨b, o + i * sz, none⟩)) := by
  subst hp hz
  exact q_index (i := (i : Int)) ht hx hy ⟨by omega, by omega⟩
theorem q_loadOw {t b o : Nat} {x : Operand} {e : TypeId} {sz : Nat} {xs : List Value} {v : Value} {Δ : List Assn} (s : SV) {off : Nat} (j : Nat) (ht : atomT P t = true) (hx : ev ρ x = some (.pointer (some ⟨b, o, none⟩))) [h : HasOw Γ s e sz xs Δ] (hp : s.a = some ⟨b, off, none⟩) (ho : o = off + j) (hv : xs[j]? = some v) :
    Qv P n ρ Γ ⟨ds, .load t x, ty, pos, af, gd⟩ v := by
  have := h.hasO hp
  exact q_loadO j ht hx ho hv
theorem q_loadOwS {t b o k : Nat} {x : Operand} {e : TypeId} {sz : Nat} {xs : List Value} {Δ : List Assn} (s : SV) {off : Nat} (j : Nat) (vs : List Value) (ht : aggT P t = some k) (hx : ev ρ x = some (.pointer (some ⟨b, o, none⟩))) [h : HasOw Γ s e sz xs Δ] (hp : s.a = some ⟨b, off, none⟩) (ho : o = off + j) (hk : vs.length = k) (hv : ∀ i u, vs[i]? = some u → xs[j + i]? = some u) :
    Qv P n ρ Γ ⟨ds, .load t x, ty, pos, af, gd⟩ (.agg vs.toArray) := by
  have := h.hasO hp
  exact q_loadOS j vs ht hx ho hk hv
theorem S.storeOw {t b o : Nat} {x y : Operand} {e : TypeId} {sz : Nat} {xs xs' : List Value} {v : Value} {Δ : List Assn} (s : SV) {off : Nat} (j : Nat) (ht : atomT P t = true) (hx : ev ρ x = some (.pointer (some ⟨b, o, none⟩))) (hy : ev ρ y = some v) (hv : v.oneCell' = true) [h : HasOw Γ s e sz xs Δ] (hp : s.a = some ⟨b, off, none⟩) (ho : o = off + j) (hj : j < xs.length) (hxs : xs.set j v = xs')
    (k : S n w0 ρ (own s e sz xs' :: Δ) K) : S n w0 ρ Γ (Ow P Q ⟨none, .store t x y, ty, pos, af, gd⟩ K) := by
  have := h.hasO hp
  subst hxs
  refine S.storeO j ht hx hy hv ho hj ?_
  obtain ⟨sa, sn, sc⟩ := s
  simp only at hp
  subst hp
  exact k
/-- x[k:] -/
theorem S.sliceDrop {t e sz : Nat} {x y : Operand} {s : SV} {xs : List Value} {kk : IntKind} {z : Int} {Δ : List Assn} (m : Nat) (ht : elemT P t = some (e, sz)) (hx : ev ρ x = some s.v) [h : HasOw Γ s e sz xs Δ] (hy : ev ρ y = some (.int kk z)) (hz : z = ((m : Nat) : Int)) (hm : m ≤ s.n) (hn : Nat.blt d n = true)
    (k : ∀ s' : SV, s'.n = s.n - m → S n w0 ((d, s'.v) :: ρ) (own s' e sz (xs.drop (m * sz)) :: Δ) K) : S n w0 ρ Γ (Ow P Q ⟨some d, .slice t x (some y) none none, ty, pos, af, gd⟩ K) := by
  intro a w ha hs hxt
  subst hz
  obtain ⟨hu, i, hi, rfl⟩ := elemT_info ht
  have hO := h.own hs
  obtain ⟨x0, l0, p0⟩ := (hs.ent h.ent).head
  -- the value
  have hnc : s.n ≤ s.c := by
    rcases p0.2 with ⟨_, e2, e3⟩ | ⟨_, _, _, _, _, h3, _⟩
    · omega
    · exact h3
  have hr : (execOp a.eval ⟨some d, .slice t x (some y) none none, ty, pos, af, gd⟩).run P w = .ok (.value (.slice (if s.c = m then s.a else s.a.map (·.add (m * i.size))) (s.n - m) (s.c - m))) w := by
    have hmi : (m : Int) ≤ (s.n : Int) := by omega
    simp [execOp, ha.ev hx, ha.ev hy, Instr.sliceAt, Instr.slice, run_underlying hu, Instr.sliceBounds, Instr.sliceBound, asIntOf, hm, sizeOf, typeInfo, hi]
  unfold Ow Oper.wp
  rw [hr, Oper.upon_value]
  have hmul : (s.n - m) * i.size + m * i.size = s.n * i.size := by rw [← Nat.add_mul]; congr 1; omega
  refine k ⟨if s.c = m then s.a else s.a.map (·.add (m * i.size)), s.n - m, s.c - m⟩ rfl _ _ (ha.put hn _) ?_ hxt
  refine (hs.ent h.ent).upd fun q l p => ⟨q, l, ?_, fun b hb _ => ⟨hb, rfl⟩⟩
  refine ⟨by rw [List.length_drop, p.1]; simp only; omega, ?_⟩
  rcases p.2 with ⟨e1, e2, e3⟩ | ⟨b, off, cur, e1, e2, e3, e4, e5, e6⟩
  · exact .inl ⟨by simp [e1], by simp only; omega, by simp only; omega⟩
  · by_cases hc : s.c = m
    · refine .inr ⟨b, off, cur, by simp [hc, e1], e2, by simp only; omega, by simp only; omega, ?_, ?_⟩
      · simp only [hc, Nat.sub_self, Nat.zero_mul]; have : 0 ≤ s.c * i.size := Nat.zero_le _; omega
      · have h0 : s.n - m = 0 := by omega
        simp only [h0, Nat.zero_mul, List.take_zero]
        rw [List.drop_eq_nil_of_le (by rw [p.1]; exact Nat.mul_le_mul_right _ (by omega))]
    · have hcm : (s.c - m) * i.size + m * i.size = s.c * i.size := by rw [← Nat.add_mul]; congr 1; omega
      refine .inr ⟨b, off + m * i.size, cur, by simp [hc, e1, Addr.add_lit], e2, by simp only; omega, by simp only; omega, by simp only; omega, ?_⟩
      rw [← e6, List.drop_take, List.drop_drop]
      congr 1
      simp only
      omega
/-- append, onto a slice that is named. -/
theorem S.appendOw {t e sz by_ : Nat} {x y : Operand} {s : SV} {xs zs : List Value} {yv : Value} {Δ : List Assn} (m : Nat) (news : List Value) (hu : P.underlying t = some (.slice e)) (hi : infoT P e = some (zs, sz, by_)) (hzl : Nat.beq zs.length sz = true) (hx : ev ρ x = some s.v) [h : HasOw Γ s e sz xs Δ]
    (hy : ev ρ y = some yv) (hsrc : ∀ w, Sat w Γ → SlAt w yv m sz news) (h1 : allOne news = true) (hby : (s.n + m) * by_ ≤ 140737488355328 ∧ s.n + m ≤ 140737488355328) (hn : Nat.blt d n = true)
    (k : ∀ s' : SV, s'.n = s.n + m → S n w0 ((d, s'.v) :: ρ) (own s' e sz (xs ++ news) :: Δ) K) :
    S n w0 ρ Γ (Ow P Q ⟨some d, .call { callee := .builtin .append, args := #[x, y], argTypes := #[t, t] }, ty, pos, af, gd⟩ K) := by
  have hent := h.ent
  have : Pick (own s e sz xs) Γ Δ := ⟨hent⟩
  exact S.append hu hi hzl hx hy hsrc h1 (by unfold maxLen; omega) hby.1 hn k
end
/-- What holds of anything. -/
theorem S.addTrue {n : Nat} {md : Bool} {w0 : WM md} {ρ : Env} {Γ : List Assn} {φ : Act → World → Prop} (k : S n w0 ρ ((fun _ => True) :: Γ) φ) : S n w0 ρ Γ φ :=
  S.ent (Δ := (fun _ => True) :: Γ) (fun h hs => ⟨HL.emp, h, HL.emp_disj _, HL.emp_le _, HL.le.refl _, trivial, hs⟩) k
/-- Something among the assertions, turned. -/
theorem S.conv {n : Nat} {md : Bool} {w0 : WM md} {ρ : Env} {Γ : List Assn} {φ : Act → World → Prop} (A : Assn) {Δ Θ : List Assn} [p : Pick A Γ Δ] (h : Ent (A :: Δ) Θ) (k : S n w0 ρ Θ φ) : S n w0 ρ Γ φ := S.ent (p.ent.trans h) k
theorem S.conv2 {n : Nat} {md : Bool} {w0 : WM md} {ρ : Env} {Γ : List Assn} {φ : Act → World → Prop} (A B : Assn) {Δ Δ' Θ : List Assn} [p : Pick A Γ Δ] [q : Pick B Δ Δ'] (h : Ent (A :: B :: Δ') Θ) (k : S n w0 ρ Θ φ) : S n w0 ρ Γ φ := S.ent ((p.ent.trans (q.ent.cons A)).trans h) k
theorem S.conv3 {n : Nat} {md : Bool} {w0 : WM md} {ρ : Env} {Γ : List Assn} {φ : Act → World → Prop} (A B C : Assn) {Δ Δ' Δ'' Θ : List Assn} [p : Pick A Γ Δ] [q : Pick B Δ Δ'] [r : Pick C Δ' Δ''] (h : Ent (A :: B :: C :: Δ'') Θ) (k : S n w0 ρ Θ φ) : S n w0 ρ Γ φ := S.ent ((p.ent.trans ((q.ent.trans (r.ent.cons B)).cons A)).trans h) k
/-! Records in their cells. -/
theorem flat_length {α : Type} {enc : α → List Value} {sz : Nat} (he : ∀ x, (enc x).length = sz) : ∀ (os : List α), (os.flatMap enc).length = os.length * sz
  | [] => by simp
  | x :: os => by rw [List.flatMap_cons, List.length_append, he, flat_length he os, List.length_cons, Nat.succ_mul]; omega
theorem flat_get {α : Type} {enc : α → List Value} {sz : Nat} (he : ∀ x, (enc x).length = sz) : ∀ {os : List α} {i k : Nat} {x : α} {v : Value}, os[i]? = some x → (enc x)[k]? = some v → (os.flatMap enc)[i * sz + k]? = some v
  | [], _, _, _, _, h, _ => by simp at h
  | y :: os, 0, k, x, v, h, hv => by
    simp only [List.getElem?_cons_zero, Option.some.injEq] at h
    subst h
    rw [List.flatMap_cons, Nat.zero_mul, Nat.zero_add, List.getElem?_append_left (List.getElem?_eq_some_iff.1 hv).1]
    exact hv
  | y :: os, i + 1, k, x, v, h, hv => by
    rw [List.flatMap_cons, List.getElem?_append_right (by rw [he, Nat.succ_mul]; omega), he]
    have := flat_get he (os := os) (i := i) (k := k) (by simpa using h) hv
    rwa [show (i + 1) * sz + k - sz = i * sz + k by rw [Nat.succ_mul]; omega]
theorem flat_set {α : Type} {enc : α → List Value} {sz : Nat} (he : ∀ x, (enc x).length = sz) : ∀ {os : List α} {i k : Nat} {x x' : α} {v : Value}, os[i]? = some x → k < sz → enc x' = (enc x).set k v → (os.flatMap enc).set (i * sz + k) v = (os.set i x').flatMap enc
  | [], _, _, _, _, _, h, _, _ => by simp at h
  | y :: os, 0, k, x, x', v, h, hk, hv => by
    simp only [List.getElem?_cons_zero, Option.some.injEq] at h
    subst h
    rw [List.flatMap_cons, Nat.zero_mul, Nat.zero_add, List.set_append_left _ _ (by rw [he]; exact hk), List.set_cons_zero, List.flatMap_cons, hv]
  | y :: os, i + 1, k, x, x', v, h, hk, hv => by
    rw [List.flatMap_cons, List.set_append_right _ _ (by rw [he, Nat.succ_mul]; omega), he, List.set_cons_succ, List.flatMap_cons]
    have := flat_set he (os := os) (i := i) (k := k) (by simpa using h) hk hv
    rw [show (i + 1) * sz + k - sz = i * sz + k by rw [Nat.succ_mul]; omega, this]
theorem flat_snoc {α : Type} (enc : α → List Value) (os : List α) (x : α) : os.flatMap enc ++ enc x = (os ++ [x]).flatMap enc := by simp
theorem flat_drop {α : Type} {enc : α → List Value} {sz : Nat} (he : ∀ x, (enc x).length = sz) (os : List α) (k : Nat) : (os.flatMap enc).drop (k * sz) = (os.drop k).flatMap enc := by
  induction k generalizing os with
  | zero => simp
  | succ k ih =>
    cases os with
    | nil => simp
    | cons x os =>
      rw [List.flatMap_cons, List.drop_succ_cons, ← ih os, Nat.succ_mul, Nat.add_comm, ← List.drop_drop, List.drop_append_of_le_length (by rw [he]; exact Nat.le_refl _), (List.drop_eq_nil_of_le (by rw [he x]; exact Nat.le_refl _) : (enc x).drop sz = []), List.nil_append]
theorem flat_seg {α : Type} {enc : α → List Value} {sz : Nat} (he : ∀ x, (enc x).length = sz) {os : List α} {i : Nat} {x : α} (h : os[i]? = some x) : ∀ k v, (enc x)[k]? = some v → (os.flatMap enc)[i * sz + k]? = some v := fun _ _ hv => flat_get he h hv
/-! Families of assertions. -/
def alls {α : Type} (os : List α) (F : α → Assn) : Assn := stars (os.map F)
theorem Ent.allsNil {α : Type} (F : α → Assn) (Γ : List Assn) : Ent Γ (alls [] F :: Γ) := fun h hs => ⟨HL.emp, h, HL.emp_disj _, HL.emp_le _, HL.le.refl _, trivial, hs⟩
theorem Ent.allsCons {α : Type} (F : α → Assn) (x : α) (os : List α) (Γ : List Assn) : Ent (F x :: alls os F :: Γ) (alls (x :: os) F :: Γ) := fun _ hs => (stars_append (Γ := (x :: os).map F) (Δ := Γ)).1 (by
  obtain ⟨h1, h2, d, l1, l2, p, s⟩ := hs
  exact ⟨h1, h2, d, l1, l2, p, stars_append.2 s⟩)
theorem Ent.allsUncons {α : Type} (F : α → Assn) (x : α) (os : List α) (Γ : List Assn) : Ent (alls (x :: os) F :: Γ) (F x :: alls os F :: Γ) := fun _ hs => by
  obtain ⟨h1, h2, d, l1, l2, p, s⟩ := (stars_append (Γ := (x :: os).map F) (Δ := Γ)).2 hs
  exact ⟨h1, h2, d, l1, l2, p, stars_append.1 s⟩
theorem Ent.allsAppend {α : Type} (F : α → Assn) (os ps : List α) (Γ : List Assn) : Ent (alls os F :: alls ps F :: Γ) (alls (os ++ ps) F :: Γ) := fun _ hs => by
  have h1 := (stars_append (Γ := os.map F)).2 hs
  have h2 : Ent (os.map F ++ (alls ps F :: Γ)) (os.map F ++ (ps.map F ++ Γ)) := Ent.append _ fun _ h => stars_append.2 h
  refine (stars_append (Γ := (os ++ ps).map F)).1 ?_
  rw [List.map_append, List.append_assoc]
  exact h2 _ h1
theorem Ent.allsSplit {α : Type} (F : α → Assn) (os ps : List α) (Γ : List Assn) : Ent (alls (os ++ ps) F :: Γ) (alls os F :: alls ps F :: Γ) := fun _ hs => by
  have h1 := (stars_append (Γ := (os ++ ps).map F)).2 hs
  rw [List.map_append, List.append_assoc] at h1
  have h2 : Ent (os.map F ++ (ps.map F ++ Γ)) (os.map F ++ (alls ps F :: Γ)) := Ent.append _ fun _ h => stars_append.1 h
  exact (stars_append (Γ := os.map F)).1 (h2 _ h1)
theorem Ent.allsOne {α : Type} (F : α → Assn) (x : α) (Γ : List Assn) : Ent (F x :: Γ) (alls [x] F :: Γ) := ((Ent.allsNil F Γ).cons (F x)).trans (Ent.allsCons F x [] Γ)
theorem Ent.allsSnoc {α : Type} (F : α → Assn) (os : List α) (x : α) (Γ : List Assn) : Ent (F x :: alls os F :: Γ) (alls (os ++ [x]) F :: Γ) := ((Ent.swap _ _ _).trans ((Ent.allsOne F x Γ).cons _)).trans (Ent.allsAppend F os [x] Γ)
theorem Ent.allsDrop {α : Type} (F : α → Assn) (os : List α) (k : Nat) (Γ : List Assn) : Ent (alls os F :: Γ) (alls (os.drop k) F :: Γ) := by
  have h := Ent.allsSplit F (os.take k) (os.drop k) Γ
  rw [List.take_append_drop] at h
  exact h.trans (Ent.drop _ _)
theorem Ent.allsCongr {α β : Type} {F : α → Assn} {G : β → Assn} {os : List α} {ps : List β} (h : os.map F = ps.map G) (Γ : List Assn) : Ent (alls os F :: Γ) (alls ps G :: Γ) := by
  unfold alls
  rw [h]
  exact Ent.refl _
/-- One of them, and the others. -/
theorem Ent.allsAt {α : Type} (F : α → Assn) {os : List α} {i : Nat} {x : α} (hx : os[i]? = some x) (Γ : List Assn) : Ent (alls os F :: Γ) (F x :: alls (os.take i) F :: alls (os.drop (i + 1)) F :: Γ) := by
  obtain ⟨hi, rfl⟩ := List.getElem?_eq_some_iff.1 hx
  have h := Ent.allsSplit F (os.take i) (os.drop i) Γ
  rw [List.take_append_drop, List.drop_eq_getElem_cons hi] at h
  exact (h.trans ((Ent.allsUncons F _ _ Γ).cons _)).trans (Ent.swap _ _ _)
theorem Ent.allsBack {α : Type} (F : α → Assn) {os : List α} {i : Nat} {x x' : α} (hx : os[i]? = some x) (Γ : List Assn) : Ent (F x' :: alls (os.take i) F :: alls (os.drop (i + 1)) F :: Γ) (alls (os.set i x') F :: Γ) := by
  obtain ⟨hi, rfl⟩ := List.getElem?_eq_some_iff.1 hx
  have h : os.set i x' = os.take i ++ (x' :: os.drop (i + 1)) := by
    rw [List.set_eq_take_append_cons_drop, if_pos hi]
  rw [h]
  exact ((Ent.swap _ _ _).trans ((Ent.allsCons F x' _ Γ).cons _)).trans (Ent.allsAppend F _ _ Γ)
theorem Ent.allsBack' {α : Type} (F : α → Assn) {os : List α} {i : Nat} {x : α} (hx : os[i]? = some x) (Γ : List Assn) : Ent (F x :: alls (os.take i) F :: alls (os.drop (i + 1)) F :: Γ) (alls os F :: Γ) := by
  have h := Ent.allsBack F (x' := x) hx Γ
  obtain ⟨hi, rfl⟩ := List.getElem?_eq_some_iff.1 hx
  rwa [List.set_getElem_self] at h
/-- The first k done. -/
def bump {α : Type} (f : α → α) (k : Nat) (os : List α) : List α := (os.take k).map f ++ os.drop k
theorem bump_zero {α : Type} (f : α → α) (os : List α) : bump f 0 os = os := by simp [bump]
theorem bump_all {α : Type} (f : α → α) (os : List α) : bump f os.length os = os.map f := by simp [bump]
theorem bump_length {α : Type} (f : α → α) (k : Nat) (os : List α) : (bump f k os).length = os.length := by simp [bump]; omega
theorem bump_get {α : Type} (f : α → α) (k : Nat) (os : List α) (x : α) (hx : os[k]? = some x) : (bump f k os)[k]? = some x := by
  obtain ⟨h, rfl⟩ := List.getElem?_eq_some_iff.1 hx
  rw [bump, List.getElem?_append_right (by simp; omega)]
  simp [Nat.min_eq_left (Nat.le_of_lt h)]
theorem bump_succ {α : Type} (f : α → α) (k : Nat) (os : List α) (x : α) (hx : os[k]? = some x) : bump f (k + 1) os = (bump f k os).set k (f x) := by
  obtain ⟨h, rfl⟩ := List.getElem?_eq_some_iff.1 hx
  rw [bump, bump, List.set_append_right _ _ (by simp; omega), List.take_succ_eq_append_getElem h, List.map_append, List.append_assoc]
  congr 1
  have hl : k - ((os.take k).map f).length = 0 := by simp; omega
  rw [hl, List.drop_eq_getElem_cons h]
  rfl
theorem getE {α : Type} {l : List α} {i : Nat} (h : i < l.length) : ∃ x, l[i]? = some x := ⟨l[i], List.getElem?_eq_getElem h⟩
theorem take_snoc {α β : Type} (f : α → β) (l : List α) (i : Nat) (x : α) (h : l[i]? = some x) : (l.take (i + 1)).map f = (l.take i).map f ++ [f x] := by
  obtain ⟨hi, rfl⟩ := List.getElem?_eq_some_iff.1 h
  rw [List.take_succ_eq_append_getElem hi, List.map_append]
  rfl
end Go.Proofs.YtbhnbnecaejjiaaDoor
