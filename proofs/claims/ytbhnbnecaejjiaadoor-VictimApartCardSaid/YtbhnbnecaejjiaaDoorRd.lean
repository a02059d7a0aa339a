/- Slices that are only read, whatever holds them: an assertion R that gives their cells. -/
import Derived.Test.YtbhnbnecaejjiaaDoorTake
import Derived.Test.YtbhnbnecaejjiaaDoorPure
namespace Go.Proofs.YtbhnbnecaejjiaaDoor
open Go.RowKit
section
variable {P : Program} {n : Nat} {md : Bool} {w0 : WM md} {ρ : Env} {Γ : List Assn} {φ : Act → World → Prop} {ty : TypeId} {pos : String} {af : Array Edge} {gd : Option (Nat × Bool)} {ds : Option Tmp}
/-- R gives the slice s of m cells (sz each). -/
def RdS (R : Assn) (s : SV) (m sz : Nat) (xs : List Value) : Prop := ∀ Γ w, Sat w (R :: Γ) → SlAt w s.v m sz xs
theorem RdS.own {s : SV} {e : TypeId} {sz : Nat} {xs : List Value} : RdS (own s e sz xs) s s.n sz xs := fun _ _ hs => (HasOw.head).slAt hs
theorem RdS.old {W : World} {s : SV} {m sz : Nat} {xs : List Value} (h : SlAt W s.v m sz xs) : RdS (old W) s m sz xs := fun _ _ hs => (HasOld.head).slAt hs h
theorem RdS.at_ {R : Assn} {s : SV} {m sz : Nat} {xs : List Value} (h : RdS R s m sz xs) {Δ : List Assn} [p : Pick R Γ Δ] {w : World} (hs : Sat w Γ) : SlAt w s.v m sz xs := h _ _ (hs.ent p.ent)
theorem RdS.alls {α : Type} {F : α → Assn} {os : List α} {i : Nat} {x : α} (hx : os[i]? = some x) {s : SV} {m sz : Nat} {xs : List Value} (h : RdS (F x) s m sz xs) : RdS (alls os F) s m sz xs := fun Γ _ hs => h _ _ (hs.ent (Ent.allsAt F hx Γ))
theorem RdS.take {α : Type} {enc : α → List Value} {sz : Nat} (he : ∀ x, (enc x).length = sz) (h0 : 0 < sz) {R : Assn} {s : SV} {os : List α} (h : RdS R s s.n sz (os.flatMap enc)) {i : Nat} (hi : i ≤ s.n) : RdS R ⟨s.a, i, s.c⟩ i sz ((os.take i).flatMap enc) := fun Γ w hs => own_takeG he h0 (h Γ w hs) hi
theorem S.rSome {R : Assn} {s : SV} {m sz : Nat} {xs : List Value} (h : RdS R s m sz xs) {Δ : List Assn} [p : Pick R Γ Δ] (hm : 0 < m) (k : ∀ b off, s.a = some ⟨b, off, none⟩ → S n w0 ρ Γ φ) : S n w0 ρ Γ φ := by
  intro a w ha hs hx
  obtain ⟨b, off, hb, _⟩ := slAt_some (h.at_ hs) hm
  exact k b off hb a w ha hs hx
theorem S.rCap {R : Assn} {s : SV} {m sz : Nat} {xs : List Value} (h : RdS R s m sz xs) {Δ : List Assn} [p : Pick R Γ Δ] (k : s.n = m → s.n ≤ s.c → s.c ≤ 9223372036854775807 → S n w0 ρ Γ φ) : S n w0 ρ Γ φ := by
  intro a w ha hs hx
  obtain ⟨h1, h2, h3⟩ := slAt_cap (h.at_ hs)
  unfold maxLen at h3
  exact k h1 h2 (by omega) a w ha hs hx
theorem q_loadR {t b o : Nat} {x : Operand} {R : Assn} {s : SV} {m sz off : Nat} {xs : List Value} {v : Value} (h : RdS R s m sz xs) {Δ : List Assn} [p : Pick R Γ Δ] (j : Nat) (ht : atomT P t = true) (hx : ev ρ x = some (.pointer (some ⟨b, o, none⟩))) (hp : s.a = some ⟨b, off, none⟩) (hm : 0 < m) (ho : o = off + j) (hv : xs[j]? = some v) :
    Qv P n ρ Γ ⟨ds, .load t x, ty, pos, af, gd⟩ v := by
  intro a w ha hs
  obtain ⟨b', off', hb, hcell⟩ := slAt_some (h.at_ hs) hm
  rw [hp] at hb
  cases hb
  have hc := hcell _ _ hv
  have hl : (loadVar t ⟨b, o, none⟩).run P w = .ok v w := by
    unfold loadVar
    rw [Sem.run_bind, (run_isAgg_atom ht w).1, ho]
    exact run_load_at hc
  simp only [execOp, ha.ev hx, Instr.loadAt, Instr.sureAddr, Sem.run_bind, Sem.run_pure, Result.andThen_ok, hl]
theorem q_loadRS {t k b o : Nat} {x : Operand} {R : Assn} {s : SV} {m sz off : Nat} {xs : List Value} (h : RdS R s m sz xs) {Δ : List Assn} [p : Pick R Γ Δ] (j : Nat) (vs : List Value) (ht : aggT P t = some k) (hx : ev ρ x = some (.pointer (some ⟨b, o, none⟩))) (hp : s.a = some ⟨b, off, none⟩) (hm : 0 < m) (ho : o = off + j) (hk : vs.length = k) (hv : ∀ i u, vs[i]? = some u → xs[j + i]? = some u) :
    Qv P n ρ Γ ⟨ds, .load t x, ty, pos, af, gd⟩ (.agg vs.toArray) := by
  intro a w ha hs
  obtain ⟨b', off', hb, hcell⟩ := slAt_some (h.at_ hs) hm
  rw [hp] at hb
  cases hb
  have hc : ∀ j u, vs[j]? = some u → w.cell? ((⟨b, o, none⟩ : Addr).add j) = some u := fun i u hu => by
    rw [Addr.add_lit, ho, Nat.add_assoc]
    exact hcell _ _ (hv i u hu)
  have hl0 := run_loadCells_list (P := P) (w := w) ⟨b, o, none⟩ vs hc
  rw [hk] at hl0
  have hl : (loadVar t ⟨b, o, none⟩).run P w = .ok (.agg vs.toArray) w := by simp [loadVar, (run_isAgg_agg ht w).1, (run_isAgg_agg ht w).2, hl0]
  simp only [execOp, ha.ev hx, Instr.loadAt, Instr.sureAddr, Sem.run_bind, Sem.run_pure, Result.andThen_ok, hl]
end
theorem Ent.ownTake (s : SV) (e sz : Nat) (xs : List Value) {k : Nat} (hk : k ≤ s.n) (Γ : List Assn) : Ent (own s e sz xs :: Γ) (own ⟨s.a, k, s.c⟩ e sz (xs.take (k * sz)) :: Γ) := Ent.mono1 Γ fun h p => by
  have hm : k * sz ≤ s.n * sz := Nat.mul_le_mul_right _ hk
  refine ⟨by rw [List.length_take, p.1]; exact Nat.min_eq_left hm, ?_⟩
  rcases p.2 with ⟨h1, h2, h3⟩ | ⟨b, off, cur, h1, h2, h3, h4, h5, h6⟩
  · exact .inl ⟨h1, by simp only; omega, h3⟩
  · exact .inr ⟨b, off, cur, h1, h2, by simp only; omega, h4, h5, by rw [← h6, List.take_take, Nat.min_eq_left hm]⟩
theorem S.ownNone {n : Nat} {md : Bool} {w0 : WM md} {ρ : Env} {Γ : List Assn} {φ : Act → World → Prop} (s : SV) {e : TypeId} {sz : Nat} {xs : List Value} {Δ : List Assn} [h : HasOw Γ s e sz xs Δ] (k : (s.a.isNone = true → s.n = 0) → S n w0 ρ Γ φ) : S n w0 ρ Γ φ := by
  intro a w ha hs hx
  obtain ⟨x, _, p⟩ := (hs.ent h.ent).head
  refine k (fun hn => ?_) a w ha hs hx
  rcases p.2 with ⟨_, h2, _⟩ | ⟨_, _, _, h1, _⟩
  · exact h2
  · rw [h1] at hn; cases hn
/-- One assertion for several. -/
theorem Ent.pack (Θ Γ : List Assn) : Ent (Θ ++ Γ) (stars Θ :: Γ) := fun _ hs => stars_append.1 hs
theorem Ent.unpack (Θ Γ : List Assn) : Ent (stars Θ :: Γ) (Θ ++ Γ) := fun _ hs => stars_append.2 hs
/-- Numbers. -/
abbrev ints (l : List Int) : List Value := l.map (Value.int .i64)
theorem ints_flat (l : List Int) : ints l = l.flatMap fun x => [Value.int .i64 x] := by
  induction l with
  | nil => rfl
  | cons x l ih => simp only [ints, List.map_cons, List.flatMap_cons] at *; rw [ih]; rfl
theorem ints_one (l : List Int) : allOne (ints l) = true := List.all_eq_true.2 fun u hu => by
  obtain ⟨x, _, h⟩ := List.mem_map.1 hu
  subst h
  rfl
theorem ints_get {l : List Int} {i : Nat} {x : Int} (h : l[i]? = some x) : (ints l)[i]? = some (.int .i64 x) := by rw [List.getElem?_map, h]; rfl
end Go.Proofs.YtbhnbnecaejjiaaDoor
