/- Returns, aggregates, slices: rules in the states of XSep. Of no program. -/
import Derived.Test.YtbhnbnecaejjiaaDoorOps
import Derived.Laws.Tables
import Derived.Great.BuildSlice
namespace Go.Proofs.YtbhnbnecaejjiaaDoor
open Go.RowKit
/-! Returns. -/
def Lod (P : Program) (Γ : List Assn) (t : TypeId) (b o : Nat) (v : Value) : Prop := ∀ w, Sat w Γ → (loadVar t ⟨b, o, none⟩).run P w = .ok v w
theorem lod_atom {P : Program} {Γ Δ : List Assn} {t b o : Nat} {e : TypeId} {cs : Array Value} {v : Value} (ht : atomT P t = true) [hb : HasB Γ b e cs Δ] (hv : lg cs.toList o = some v) : Lod P Γ t b o v := by
  intro w hs
  have hc : w.cell? ⟨b, o, none⟩ = some v := by rw [(hb.blk hs).cell]; exact lg_arr hv
  unfold loadVar
  rw [Sem.run_bind, (run_isAgg_atom ht w).1]
  exact run_load_at hc
theorem lod_agg {P : Program} {Γ Δ : List Assn} {t b o k : Nat} {e : TypeId} {cs : Array Value} (vs : List Value) (ht : aggT P t = some k) [hb : HasB Γ b e cs Δ] (hk : vs.length = k) (hv : Seg cs o vs) : Lod P Γ t b o (.agg vs.toArray) := by
  intro w hs
  have hc : ∀ j u, vs[j]? = some u → w.cell? ((⟨b, o, none⟩ : Addr).add j) = some u := fun j u hu => by rw [Addr.add_lit, (hb.blk hs).cell]; exact hv.get j u hu
  have := run_loadCells_list (P := P) (w := w) ⟨b, o, none⟩ vs hc
  rw [hk] at this
  simp [loadVar, (run_isAgg_agg ht w).1, (run_isAgg_agg ht w).2, this]
def ResL (P : Program) (ρ : Env) (Γ : List Assn) : List ResultVar → List Value → Prop
  | [], [] => True
  | .tmp t :: rs, v :: vs => Env.get ρ t = some v ∧ ResL P ρ Γ rs vs
  | .cell t ty :: rs, v :: vs => (∃ b o, Env.get ρ t = some (.pointer (some ⟨b, o, none⟩)) ∧ Lod P Γ ty b o v) ∧ ResL P ρ Γ rs vs
  | _, _ => False
def resOne (a : Act) : ResultVar → Sem Value
  | .tmp t => pure (a.tmps.getD t undef)
  | .cell x t => do loadVar t (← asAddr (a.tmps.getD x undef))
theorem ResL.run {P : Program} {n : Nat} {ρ : Env} {Γ : List Assn} {a : Act} {w : World} (ha : EnvOk n ρ a) (hs : Sat w Γ) : ∀ {rs : List ResultVar} {vs : List Value}, ResL P ρ Γ rs vs →
    (rs.mapM (resOne a)).run P w = Result.ok vs w
  | [], [], _ => by simp
  | .tmp t :: rs, v :: vs, h => by
    have := ResL.run ha hs h.2
    have hg := ha.get _ _ h.1
    have h1 : (resOne a (.tmp t)).run P w = .ok v w := by simp only [resOne, Sem.run_pure, hg]
    simp only [List.mapM_cons, Sem.run_bind, Sem.run_pure, Result.andThen_ok, this, h1]
  | .cell t ty :: rs, v :: vs, h => by
    obtain ⟨⟨b, o, h1, h2⟩, h3⟩ := h
    have := ResL.run ha hs h3
    have hg := ha.get _ _ h1
    have h1 : (resOne a (.cell t ty)).run P w = .ok v w := by simp only [resOne, hg, asAddr, Sem.run_bind, Sem.run_pure, Result.andThen_ok, h2 w hs]
    simp only [List.mapM_cons, Sem.run_bind, Sem.run_pure, Result.andThen_ok, this, h1]
  | [], _ :: _, h => h.elim
  | .tmp _ :: _, [], h => h.elim
  | .cell _ _ :: _, [], h => h.elim
def resV : List Value → Value
  | [v] => v
  | vs => .tuple vs.toArray
section
variable {P : Program} {n : Nat} {md : Bool} {w0 : WM md} {ρ : Env} {Γ : List Assn} {Q : Exit → Act → World → Prop} {K : Act → World → Prop} {rest : List Oper} {ty : TypeId} {pos : String} {af : Array Edge} {gd : Option (Nat × Bool)} {d : Nat} {ds : Option Tmp}
theorem run_results {fn : Func} {rs : List ResultVar} {vs : List Value} {a : Act} {w : World} (hr : fn.results = rs.toArray) (hl : ResL P ρ Γ rs vs) (ha : EnvOk n ρ a) (hs : Sat w Γ) : (results fn a.tmps).run P w = .ok (resV vs) w := by
  have h := hl.run ha hs
  have e : results fn a.tmps = (do
      let us ← fn.results.mapM (resOne a)
      pure (if h : us.size = 1 then us[0] else .tuple us)) := by
    unfold results
    congr 1
  rw [e, hr]
  simp only [List.mapM_toArray, Sem.run_bind]
  rw [← bind_pure_comp, Sem.run_bind]
  rw [h]
  simp only [Result.andThen_ok, Sem.run_pure, Result.ok.injEq, and_true]
  unfold resV
  match vs with
  | [] => simp
  | [v] => simp
  | _ :: _ :: _ => simp
theorem S.fin {fn : Func} {post : List Assn → Value → List Assn → Prop} {Γf Θ : List Assn} {rs : List ResultVar} {vs : List Value} (hr : fn.results = rs.toArray) (hl : ResL P ρ Γ rs vs) (hp : post Γf (resV vs) Θ) (he : Ent Γ Θ) : S n w0 ρ Γ (Fin P fn post Γf w0 .ret) := by
  intro a w ha hs hx
  exact ⟨ha.defers, _, run_results hr hl ha hs, _, Θ, rfl, hp, hs.ent he, hx⟩
theorem S.finN {fn : Func} {post : List Assn → Value → List Assn → Prop} {Γf Θ : List Assn} {rs : List ResultVar} {vs : List Value} (hr : fn.results = rs.toArray) (hl : ResL P ρ Γ rs vs) (hp : post Γf (resV vs) Θ) (he : Ent Γ Θ) : S n w0 ρ Γ (Fin P fn post Γf w0 .normal) := by
  intro a w ha hs hx
  exact ⟨ha.defers, _, run_results hr hl ha hs, _, Θ, rfl, hp, hs.ent he, hx⟩
/-! Aggregates. -/
def fillL (place : Nat → Option (Nat × Nat)) (cells : List Value) : List (Nat × Value) → Option (List Value)
  | [] => some cells
  | (i, v) :: rest => match place i with
    | none => none
    | some (off, size) => bif Nat.beq v.cells.toList.length size && Nat.ble (off + v.cells.toList.length) cells.length then fillL place (cells.take off ++ (v.cells.toList ++ cells.drop (off + v.cells.toList.length))) rest else none
theorem foldl_sets (off : Nat) : ∀ (vs : List Value) (k : Nat) (cs : List Value), off + k + vs.length ≤ cs.length →
    ((vs.zipIdx k).foldl (fun (a : Array Value) (x : Value × Nat) => a.setIfInBounds (off + x.2) x.1) cs.toArray).toList = cs.take (off + k) ++ (vs ++ cs.drop (off + k + vs.length)) := by
  intro vs
  induction vs with
  | nil => intro k cs _; simp
  | cons v vs ih =>
    intro k cs h
    simp only [List.length_cons] at h
    simp only [List.zipIdx_cons, List.foldl_cons, List.setIfInBounds_toArray]
    rw [ih (k + 1) (cs.set (off + k) v) (by simp; omega)]
    have e1 : off + (k + 1) = off + k + 1 := by omega
    rw [e1, List.take_set, List.take_succ_eq_append_getElem (show off + k < cs.length by omega), List.set_append_right _ _ (by rw [List.length_take]; omega), List.drop_set_of_lt (by omega)]
    simp only [List.length_take, List.length_cons, List.append_assoc]
    have e2 : off + k - min (off + k) cs.length = 0 := by rw [Nat.min_eq_left (by omega)]; omega
    rw [e2]
    simp only [List.set_cons_zero, List.cons_append, List.nil_append, List.append_cancel_left_eq, List.cons.injEq, true_and]
    rw [show off + k + 1 + vs.length = off + k + (vs.length + 1) by omega]
theorem fillL_fill (place : Nat → Option (Nat × Nat)) : ∀ (parts : List (Nat × Value)) (cells : List Value) (r : List Value), fillL place cells parts = some r → Instr.fill place cells.toArray parts = some r.toArray := by
  intro parts
  induction parts with
  | nil => intro cells r h; unfold fillL at h; cases h; rfl
  | cons p parts ih =>
    intro cells r h
    obtain ⟨i, v⟩ := p
    unfold fillL at h
    unfold Instr.fill
    cases hp : place i with
    | none => rw [hp] at h; cases h
    | some q =>
      obtain ⟨off, size⟩ := q
      rw [hp] at h
      simp only at h ⊢
      cases hb : (Nat.beq v.cells.toList.length size && Nat.ble (off + v.cells.toList.length) cells.length) with
      | false => rw [hb] at h; cases h
      | true =>
        rw [hb] at h
        simp only [cond_true] at h
        simp only [Bool.and_eq_true] at hb
        have e1 := Nat.eq_of_beq_eq_true hb.1
        have e2 := Nat.le_of_ble_eq_true hb.2
        simp only [Array.length_toList] at e1 e2
        rw [if_neg (by simp [e1]; omega)]
        have hf := foldl_sets off v.cells.toList 0 cells (by simpa using e2)
        have : (v.cells.zipIdx.foldl (fun cs (x : Value × Nat) => cs.setIfInBounds (off + x.2) x.1) cells.toArray) = (cells.take off ++ (v.cells.toList ++ cells.drop (off + v.cells.toList.length))).toArray := by
          apply Array.toList_inj.1
          rw [← Array.foldl_toList, Array.toList_zipIdx, hf]
          simp
        have h2 := ih _ _ h
        rw [← this] at h2
        exact h2
def EvP (ρ : Env) : List (Nat × Operand) → List (Nat × Value) → Prop
  | [], [] => True
  | (i, x) :: xs, (j, v) :: vs => (i = j ∧ ev ρ x = some v) ∧ EvP ρ xs vs
  | _, _ => False
theorem EvP.map {ρ : Env} {a : Act} (ha : EnvOk n ρ a) : ∀ {xs : List (Nat × Operand)} {vs : List (Nat × Value)}, EvP ρ xs vs → xs.map (fun (i, x) => (i, a.eval x)) = vs
  | [], [], _ => rfl
  | (i, x) :: _, (j, v) :: _, h => by
    obtain ⟨⟨rfl, h1⟩, h2⟩ := h
    simp only [List.map_cons, ha.ev h1, EvP.map ha h2]
  | [], _ :: _, h => h.elim
  | _ :: _, [], h => h.elim
theorem q_build {t : TypeId} {xs : List (Nat × Operand)} {pvs : List (Nat × Value)} {zs : List Value} {places : List (Nat × Nat)} (vs : List Value) (hz : zeroT P t = some zs) (hp : partsT P t = some places) (he : EvP ρ xs pvs) (hf : fillL (fun i => places[i]?) zs pvs = some vs) :
    Qv P n ρ Γ ⟨ds, .build t xs.toArray, ty, pos, af, gd⟩ (.agg vs.toArray) := by
  intro a w ha _
  have hb : P.built t pvs = some vs.toArray := by
    unfold zeroT at hz
    unfold partsT at hp
    unfold Program.built
    cases hi : P.info? t with
    | none => simp [hi] at hz
    | some i =>
      cases hz' : i.zero with
      | none => simp [hi, hz'] at hz
      | some z =>
        simp only [hi, hz', Option.bind_some, Option.map_some, Option.some.injEq] at hz
        cases hu : P.underlying t with
        | none => simp [hu] at hp
        | some dd =>
          cases dd <;> simp [hu] at hp
          case struct fs =>
            simp only [hz']
            have hp' : List.mapM (fun f => (P.info? f.type).map fun i => (f.offset, i.size)) fs.toList = some places := by simpa using hp
            rw [hp']
            have := fillL_fill _ pvs zs vs hf
            rw [← hz] at this
            simpa using this
  have hr := run_build (P := P) w t pvs.toArray vs.toArray hb
  have hm : (xs.toArray.map fun x : Nat × Operand => (x.1, a.eval x.2)) = pvs.toArray := by
    have := he.map ha
    simpa using congrArg List.toArray this
  simp only [execOp, hm, Sem.run_bind, hr, Result.andThen_ok, Sem.run_pure]
/-- A part of a struct that stands by itself. -/
theorem q_fieldV {t f : Nat} {x : Operand} {vs : Array Value} {v : Value} {fs : Array Field} {fd : Field} (hu : P.underlying t = some (.struct fs)) (hf : fs[f]? = some fd) (ht : atomT P fd.type = true) (hx : ev ρ x = some (.agg vs)) (hv : vs[fd.offset]? = some v) : Qv P n ρ Γ ⟨ds, .field t x f, ty, pos, af, gd⟩ v := by
  intro a w ha _
  simp [execOp, ha.ev hx, Instr.field, run_underlying hu, hf, asAgg, part, (run_isAgg_atom ht w).1, hv]
/-! Slices that are owned. -/
structure SV where
  a : Option Addr
  n : Nat
  c : Nat
abbrev SV.v (s : SV) : Value := .slice s.a s.n s.c
abbrev SV.nil : SV := ⟨none, 0, 0⟩
def own (s : SV) (e : TypeId) (sz : Nat) (xs : List Value) : Assn := fun h => xs.length = s.n * sz ∧ ((s.a = none ∧ s.n = 0 ∧ s.c = 0) ∨
  ∃ b off cur, s.a = some ⟨b, off, none⟩ ∧ h b = some (.cells cur e (0, 0)) ∧ s.n ≤ s.c ∧ s.c ≤ maxLen ∧ off + s.c * sz ≤ cur.size ∧ (cur.toList.drop off).take (s.n * sz) = xs)
theorem own.mono {s : SV} {e : TypeId} {sz : Nat} {xs : List Value} {h k : HL} (p : own s e sz xs h) (l : HL.le h k) : own s e sz xs k :=
  ⟨p.1, p.2.imp id fun ⟨b, off, cur, h1, h2, r⟩ => ⟨b, off, cur, h1, l b _ h2, r⟩⟩
theorem own.toOwn {s : SV} {e : TypeId} {sz : Nat} {xs : List Value} {w : World} (p : own s e sz xs (HL.of w)) : Own w e sz s.v s.n xs (s.a.map (·.block)) := by
  refine ⟨p.1, ?_⟩
  rcases p.2 with ⟨h1, h2, h3⟩ | ⟨b, off, cur, h1, h2, h3, h4, h5, h6⟩
  · exact .inl ⟨by simp [SV.v, h1, h2, h3], h2, by simp [h1]⟩
  · exact .inr ⟨b, off, s.c, cur, by simp [SV.v, h1], by simp [h1], h2, h3, h4, h5, h6⟩
theorem own.ofOwn {s : SV} {e : TypeId} {sz : Nat} {xs : List Value} {w : World} {g : Option Nat} (p : Own w e sz s.v s.n xs g) : g = s.a.map (·.block) ∧ own s e sz xs (HL.of w) := by
  obtain ⟨sa, sn, sc⟩ := s
  rcases p.2 with ⟨h1, h2, h3⟩ | ⟨b, off, c, cur, h1, h2, h3, h4, h5, h6, h7⟩
  · simp only [SV.v, Value.slice.injEq] at h1
    obtain ⟨rfl, rfl, rfl⟩ := h1
    exact ⟨by simp [h3], p.1, .inl ⟨rfl, rfl, rfl⟩⟩
  · simp only [SV.v, Value.slice.injEq] at h1
    obtain ⟨rfl, _, rfl⟩ := h1
    exact ⟨by simp [h2], p.1, .inr ⟨b, off, cur, rfl, h3, h4, h5, h6, h7⟩⟩
theorem own.nil' (e : TypeId) (sz : Nat) (h : HL) : own SV.nil e sz [] h := ⟨by simp, .inl ⟨rfl, rfl, rfl⟩⟩
theorem Ent.ownNil (e : TypeId) (sz : Nat) : Ent Γ (own SV.nil e sz [] :: Γ) := fun h hs => ⟨HL.emp, h, HL.emp_disj _, HL.emp_le _, HL.le.refl _, own.nil' _ _ _, hs⟩
theorem S.ownNil {φ : Act → World → Prop} (e : TypeId) (sz : Nat) (h : S n w0 ρ (own SV.nil e sz [] :: Γ) φ) : S n w0 ρ Γ φ := S.ent (Ent.ownNil e sz) h
/-- Whether an owned slice is nil. -/
theorem S.ownCases {φ : Act → World → Prop} {s : SV} {e : TypeId} {sz : Nat} {xs : List Value} {Δ : List Assn} [hp : Pick (own s e sz xs) Γ Δ] (h0 : s = SV.nil → xs = [] → S n w0 ρ Γ φ)
    (h1 : ∀ b off m c, s = ⟨some ⟨b, off, none⟩, m, c⟩ → m ≤ c → c ≤ maxLen → xs.length = m * sz → S n w0 ρ Γ φ) : S n w0 ρ Γ φ := by
  intro a w ha hs hx
  obtain ⟨x, _, p1, p2⟩ := (hs.ent hp.ent).head
  obtain ⟨sa, sn, sc⟩ := s
  rcases p2 with ⟨e1, e2, e3⟩ | ⟨b, off, cur, e1, _, h3, h4, _⟩
  · simp only at e1 e2 e3
    subst e1 e2 e3
    exact h0 rfl (List.eq_nil_of_length_eq_zero (by simpa using p1)) a w ha hs hx
  · simp only at e1 h3 h4 p1
    subst e1
    exact h1 b off sn sc rfl h3 h4 p1 a w ha hs hx
class HasO (Γ : List Assn) (b : Nat) (off m c : outParam Nat) (e : outParam TypeId) (sz : outParam Nat) (xs : outParam (List Value)) (Δ : outParam (List Assn)) : Prop where
  ent : Ent Γ (own ⟨some ⟨b, off, none⟩, m, c⟩ e sz xs :: Δ)
instance (priority := high) HasO.head {b off m c : Nat} {e : TypeId} {sz : Nat} {xs : List Value} : HasO (own ⟨some ⟨b, off, none⟩, m, c⟩ e sz xs :: Γ) b off m c e sz xs Γ := ⟨Ent.refl _⟩
instance HasO.tail {A : Assn} {Δ : List Assn} {b off m c : Nat} {e : TypeId} {sz : Nat} {xs : List Value} [h : HasO Γ b off m c e sz xs Δ] : HasO (A :: Γ) b off m c e sz xs (A :: Δ) := ⟨(h.ent.cons A).trans (Ent.swap _ _ _)⟩
theorem HasO.slAt {Δ : List Assn} {b off m c : Nat} {e : TypeId} {sz : Nat} {xs : List Value} (h : HasO Γ b off m c e sz xs Δ) {w : World} (hs : Sat w Γ) : Own w e sz (.slice (some ⟨b, off, none⟩) m c) m xs (some b) := by
  obtain ⟨x, l, p⟩ := (hs.ent h.ent).head
  exact (p.mono l).toOwn
theorem HasO.cell {Δ : List Assn} {b off m c : Nat} {e : TypeId} {sz : Nat} {xs : List Value} (h : HasO Γ b off m c e sz xs Δ) {w : World} (hs : Sat w Γ) {j : Nat} {v : Value} (hj : xs[j]? = some v) : w.cell? ⟨b, off + j, none⟩ = some v := by
  have := h.slAt hs
  rcases this.cases with ⟨h1, _⟩ | ⟨b', off', c', h1, _, _, _, _, h2, _⟩
  · cases h1
  · simp only [Value.slice.injEq, Option.some.injEq, Addr.mk.injEq, and_true, true_and] at h1
    obtain ⟨⟨rfl, rfl⟩, rfl⟩ := h1
    rw [h2 j (by rw [← this.1]; exact (List.getElem?_eq_some_iff.1 hj).1)]
    exact hj
/-- A load through an owned slice, at number j of its cells. -/
theorem q_loadO {t b o off m c : Nat} {x : Operand} {e : TypeId} {sz : Nat} {xs : List Value} {v : Value} {Δ : List Assn} (j : Nat) (ht : atomT P t = true) (hx : ev ρ x = some (.pointer (some ⟨b, o, none⟩))) [hb : HasO Γ b off m c e sz xs Δ] (ho : o = off + j) (hv : xs[j]? = some v) :
    Qv P n ρ Γ ⟨ds, .load t x, ty, pos, af, gd⟩ v := by
  intro a w ha hs
  subst ho
  have hc := hb.cell hs hv
  have hl : (loadVar t ⟨b, off + j, none⟩).run P w = .ok v w := by
    unfold loadVar
    rw [Sem.run_bind, (run_isAgg_atom ht w).1]
    exact run_load_at hc
  simp only [execOp, ha.ev hx, Instr.loadAt, Instr.sureAddr, Sem.run_bind, Sem.run_pure, Result.andThen_ok, hl]
theorem q_loadOS {t b o off m c k : Nat} {x : Operand} {e : TypeId} {sz : Nat} {xs : List Value} {Δ : List Assn} (j : Nat) (vs : List Value) (ht : aggT P t = some k) (hx : ev ρ x = some (.pointer (some ⟨b, o, none⟩))) [hb : HasO Γ b off m c e sz xs Δ] (ho : o = off + j) (hk : vs.length = k) (hv : ∀ i u, vs[i]? = some u → xs[j + i]? = some u) :
    Qv P n ρ Γ ⟨ds, .load t x, ty, pos, af, gd⟩ (.agg vs.toArray) := by
  intro a w ha hs
  subst ho
  have hc : ∀ i u, vs[i]? = some u → w.cell? ((⟨b, off + j, none⟩ : Addr).add i) = some u := fun i u hu => by rw [Addr.add_lit, Nat.add_assoc]; exact hb.cell hs (hv i u hu)
  have := run_loadCells_list (P := P) (w := w) ⟨b, off + j, none⟩ vs hc
  rw [hk] at this
  simp [execOp, ha.ev hx, Instr.loadAt, Instr.sureAddr, loadVar, (run_isAgg_agg ht w).1, (run_isAgg_agg ht w).2, this]
theorem S.storeO {t b o off m c : Nat} {x y : Operand} {e : TypeId} {sz : Nat} {xs : List Value} {v : Value} {Δ : List Assn} (j : Nat) (ht : atomT P t = true) (hx : ev ρ x = some (.pointer (some ⟨b, o, none⟩))) (hy : ev ρ y = some v) (hv : v.oneCell' = true) [hb : HasO Γ b off m c e sz xs Δ] (ho : o = off + j) (hj : j < xs.length)
    (k : S n w0 ρ (own ⟨some ⟨b, off, none⟩, m, c⟩ e sz (xs.set j v) :: Δ) K) : S n w0 ρ Γ (Ow P Q ⟨none, .store t x y, ty, pos, af, gd⟩ K) := by
  intro a w ha hs hxt
  subst ho
  have hO := hb.slAt hs
  have hcell := hb.cell hs (List.getElem?_eq_getElem hj)
  have hcells : v.cells = #[v] := by cases v <;> first | rfl | simp [Value.oneCell'] at hv
  have hfr : w.frozen? ⟨b, off + j, none⟩ = false := by
    rcases hO.cases with ⟨h1, _⟩ | ⟨b', off', c', h1, _, _, _, _, _, h2⟩
    · cases h1
    · simp only [Value.slice.injEq, Option.some.injEq, Addr.mk.injEq, and_true, true_and] at h1
      obtain ⟨⟨rfl, rfl⟩, rfl⟩ := h1
      exact h2 _
  have hst : (Go.store (⟨b, off + j, none⟩ : Addr) v).run P w = .ok () (w.setCell ⟨b, off + j, none⟩ v) := by rw [run_store P w _ v _ hv, hcell]; simp [hfr]
  have hr : (execOp a.eval ⟨none, .store t x y, ty, pos, af, gd⟩).run P w = .ok .skip (w.setCell ⟨b, off + j, none⟩ v) := by
    have h0 : (⟨b, off + j, none⟩ : Addr).add 0 = ⟨b, off + j, none⟩ := by simp [Addr.add]
    simp [execOp, ha.ev hx, ha.ev hy, Instr.storeAt, Instr.sureAddr, storeVar, (run_isAgg_atom ht w).2, hcells, storeCells]
    rw [h0, hst]
    rfl
  unfold Ow Oper.wp
  rw [hr, Oper.upon_skip]
  refine k _ _ (ha.putNone _) ?_ (hxt.setCell _ _)
  refine (hs.ent hb.ent).upd fun y l p => ?_
  have hO' := hO.stored j v
  obtain ⟨_, hown⟩ := own.ofOwn (s := ⟨some ⟨b, off, none⟩, m, c⟩) hO'
  rcases p.2 with ⟨h1, _⟩ | ⟨b', off', cur, h1, h2, h3, h4, h5, h6⟩
  · cases h1
  · simp only [Option.some.injEq, Addr.mk.injEq, and_true] at h1
    obtain ⟨rfl, rfl⟩ := h1
    have hB : Blk w b e cur := l b _ h2
    refine ⟨HL.one b (.cells (cur.setIfInBounds (off + j) v) e), HL.one_le (hB.set _ _), ⟨hown.1, .inr ⟨b, off, _, rfl, HL.one_self _ _, h3, h4, by simpa using h5, ?_⟩⟩, fun z hz _ => ?_⟩
    · rcases hown.2 with ⟨h, _⟩ | ⟨b', off', cur', h, hc, _, _, _, h7⟩
      · cases h
      · simp only [Option.some.injEq, Addr.mk.injEq, and_true] at h
        obtain ⟨rfl, rfl⟩ := h
        have : cur' = cur.setIfInBounds (off + j) v := by
          have e1 : (w.setCell ⟨b, off + j, none⟩ v).heap[b]? = some (.cells (cur.setIfInBounds (off + j) v) e (0, 0)) := hB.set _ _
          unfold HL.of at hc
          rw [e1] at hc
          cases hc
          rfl
        rw [← this]; exact h7
    · have hne : z ≠ b := fun e => by subst e; rw [h2] at hz; cases hz
      exact ⟨HL.one_none hne, Below.heap_setCell _ _ _ _ hne⟩
/-! append -/
theorem elemT_info {t e sz : Nat} (h : elemT P t = some (e, sz)) : P.underlying t = some (.slice e) ∧ ∃ i, P.info? e = some i ∧ i.size = sz := by
  unfold elemT at h
  split at h
  · rename_i e' he
    cases hi : P.info? e' with
    | none => simp [hi] at h
    | some i =>
      simp only [hi, Option.map_some, Option.some.injEq, Prod.mk.injEq] at h
      obtain ⟨rfl, rfl⟩ := h
      exact ⟨he, i, hi, rfl⟩
  · cases h
def infoT (P : Program) (e : TypeId) : Option (List Value × Nat × Nat) := match P.info? e with
  | some i => match i.zero with
    | some z => some (z.cells.toList, i.size, i.bytes)
    | none => none
  | none => none
theorem S.append {t e sz by_ : Nat} {x y : Operand} {s : SV} {xs news zs : List Value} {yv : Value} {m : Nat} {Δ : List Assn} (hu : P.underlying t = some (.slice e)) (hi : infoT P e = some (zs, sz, by_)) (hzl : Nat.beq zs.length sz = true) (hx : ev ρ x = some s.v) [hp : Pick (own s e sz xs) Γ Δ]
    (hy : ev ρ y = some yv) (hsrc : ∀ w, Sat w Γ → SlAt w yv m sz news) (h1 : allOne news = true) (h63 : s.n + m ≤ maxLen) (hby : (s.n + m) * by_ ≤ 140737488355328) (hn : Nat.blt d n = true)
    (k : ∀ s' : SV, s'.n = s.n + m → S n w0 ((d, s'.v) :: ρ) (own s' e sz (xs ++ news) :: Δ) K) :
    S n w0 ρ Γ (Ow P Q ⟨some d, .call { callee := .builtin .append, args := #[x, y], argTypes := #[t, t] }, ty, pos, af, gd⟩ K) := by
  intro a w ha hs hxt
  unfold infoT at hi
  split at hi
  case h_2 => cases hi
  rename_i i hi'
  split at hi
  case h_2 => cases hi
  rename_i z hz
  simp only [Option.some.injEq, Prod.mk.injEq] at hi
  obtain ⟨rfl, rfl, rfl⟩ := hi
  have hzs : z.cells.size = i.size := by simpa using Nat.eq_of_beq_eq_true hzl
  obtain ⟨y0, l0, p0⟩ := (hs.ent hp.ent).head
  have hO := (p0.mono l0).toOwn
  unfold Ow
  refine wp_append_Own x y t rfl e i z i.size i.bytes hu hi' hz rfl rfl hzs s.v s.n xs _ hO (ha.ev hx) yv m news (ha.ev hy) (hsrc w hs) (fun v hv => List.all_eq_true.1 h1 v hv) h63 hby ?_
  intro v' w' g' own' keep hg
  obtain ⟨ao, c, rfl⟩ : ∃ ao c, v' = .slice ao (s.n + m) c := by obtain ⟨_, ao, c, h1, _⟩ := own'.sl; exact ⟨ao, c, h1⟩
  obtain ⟨hg', ow⟩ := own.ofOwn (s := ⟨ao, s.n + m, c⟩) own'
  refine k ⟨ao, s.n + m, c⟩ rfl _ _ (ha.put hn _) ?_ (hxt.trans ⟨keep.os, keep.tape, keep.output, keep.size, keep.drawn⟩)
  refine (hs.ent hp.ent).upd fun q l p => ?_
  -- blocks that q does not hold are not s's
  have hq : ∀ b, q b = none → w.heap[b]? ≠ none → s.a.map (·.block) ≠ some b := by
    intro b hb _ e1
    rcases p.2 with ⟨h, _⟩ | ⟨b', off, cur, h, h2, _⟩
    · rw [h] at e1; cases e1
    · rw [h] at e1
      simp only [Option.map_some, Option.some.injEq] at e1
      subst e1
      rw [h2] at hb; cases hb
  have hlt : ∀ b, w.heap[b]? ≠ none → b < w.heap.size := fun b hb => by
    rcases Nat.lt_or_ge b w.heap.size with h | h
    · exact h
    · simp [Array.getElem?_eq_none h] at hb
  rcases ow.2 with ⟨h1, h2, h3⟩ | ⟨b, off, cur, h1, h2, r⟩
  · exact ⟨HL.emp, HL.emp_le _, ⟨ow.1, .inl ⟨h1, h2, h3⟩⟩, fun b hb hw => ⟨rfl, keep.block b (hlt b hw) (hq b hb hw)⟩⟩
  · refine ⟨HL.one b (.cells cur e), HL.one_le h2, ⟨ow.1, .inr ⟨b, off, cur, h1, HL.one_self _ _, r⟩⟩, fun c' hc hw => ⟨HL.one_none fun e1 => ?_, keep.block c' (hlt c' hw) (hq c' hc hw)⟩⟩
    subst e1
    simp only at h1
    rw [h1] at hg'
    simp only [Option.map_some] at hg'
    rcases hg with h | h
    · exact hq c' hc hw (by rw [← h, hg'])
    · rw [h] at hg'; cases hg'; exact absurd (hlt _ hw) (Nat.lt_irrefl _)
end
end Go.Proofs.YtbhnbnecaejjiaaDoor
