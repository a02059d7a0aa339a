/- Contracts of functions that only read (and make). -/
import Derived.Test.YtbhnbnecaejjiaaDoorLaw
namespace Go.Proofs.YtbhnbnecaejjiaaDoor
open Go.RowKit
/-- At memory W the call returns v and changes nothing that was there. -/
def PureS (P : Program) (f : FuncId) (args : List Value) (W : World) (v : Value) : Prop := Spec P f args [old W] (fun Γ r Θ => r = v ∧ Θ = old W :: Γ) true
theorem pure_run {P : Program} {f : FuncId} {args : List Value} {W : World} {v : Value} (h : PureS P f args W v) : Calls P f args.toArray W fun e W' => e = .returned v ∧ Below W.heap.size W W' ∧ W.drawn ≤ W'.drawn := by
  have hs : Sat W ([old W] ++ []) := ⟨HL.of W, HL.le.refl _, HL.of W, HL.emp, fun b => .inr rfl, HL.le.refl _, HL.emp_le _, fun _ _ h => h, trivial⟩
  refine (h [] W hs).mono ?_
  rintro e w' ⟨v, Θ, rfl, ⟨rfl, rfl⟩, hs', hx⟩
  refine ⟨rfl, ⟨hx.os, hx.tape, hx.output, hx.size, fun k hk => ?_⟩, hx.drawn rfl⟩
  have ho : HasOld [old W] W := inferInstance
  have := ho.sat w' hs' k W.heap[k] (Array.getElem?_eq_getElem hk)
  rw [this, Array.getElem?_eq_getElem hk]
theorem Sat.belowP {w w' : World} {Γ : List Assn} (h : Sat w Γ) (hb : Below w.heap.size w w') : Sat w' Γ := by
  obtain ⟨x, l, s⟩ := h
  refine ⟨x, fun b o e => ?_, s⟩
  have h1 := l b o e
  unfold HL.of at h1 ⊢
  rw [hb.block b (Array.getElem?_eq_some_iff.1 h1).1]
  exact h1
section
variable {P : Program} {n : Nat} {md : Bool} {w0 : WM md} {ρ : Env} {Γ : List Assn} {Q : Exit → Act → World → Prop} {K : Act → World → Prop} {ty : TypeId} {pos : String} {af : Array Edge} {gd : Option (Nat × Bool)} {d : Nat}
theorem S.callP {f : FuncId} {xs : List Operand} {ats : Array TypeId} {vs : List Value} {v : Value} (he : enterT P f = true) (hargs : EvL ρ xs vs) (h : ∀ w, Sat w Γ → PureS P f vs w v) (hn : Nat.blt d n = true)
    (k : S n w0 ((d, v) :: ρ) Γ K) : S n w0 ρ Γ (Ow P Q ⟨some d, .call { callee := .value (.func f), args := xs.toArray, argTypes := ats }, ty, pos, af, gd⟩ K) := by
  intro a w ha hsat hx
  have hr := run_enter (ty := ty) (pos := pos) (af := af) (gd := gd) (c := { callee := .value (.func f), args := xs.toArray, argTypes := ats }) (a := a) (ds := some d) (vs := vs) he rfl ⟨_, rfl⟩ (by simp [hargs.map ha]) w
  unfold Ow Oper.wp
  rw [hr, Oper.upon_enter]
  refine (pure_run (h w hsat)).mono ?_
  rintro e w' ⟨rfl, hb, hdr⟩
  exact k _ _ (ha.put hn v) (hsat.belowP hb) (hx.trans ⟨hb.os, hb.tape, hb.output, hb.size, hdr⟩)
end
/-! Bytes as strings. -/
theorem u8_inj {a b : Int} (ha : 0 ≤ a ∧ a ≤ 255) (hb : 0 ≤ b ∧ b ≤ 255) (h : UInt8.ofNat a.toNat = UInt8.ofNat b.toNat) : a = b := by
  have := congrArg UInt8.toNat h
  simp at this
  omega
def Rng (l : List Int) : Prop := ∀ x ∈ l, 0 ≤ x ∧ x ≤ 255
theorem Rng.nil : Rng [] := fun _ h => by cases h
theorem strOfNums_inj {l m : List Int} (hl : Rng l) (hm : Rng m) (h : strOfNums l = strOfNums m) : l = m := by
  replace h : (l.map fun n => UInt8.ofNat n.toNat) = (m.map fun n => UInt8.ofNat n.toNat) := by
    have := congrArg (fun s => s.data.toList) h
    simpa [strOfNums] using this
  induction l generalizing m with
  | nil => cases m <;> simp_all
  | cons a l ih =>
    cases m with
    | nil => simp at h
    | cons b m =>
      simp only [List.map_cons, List.cons.injEq] at h
      rw [u8_inj (hl a (by simp)) (hm b (by simp)) h.1, ih (fun x hx => hl x (by simp [hx])) (fun x hx => hm x (by simp [hx])) h.2]
theorem str_eq {l m : List Int} (hl : Rng l) (hm : Rng m) : ((strOfNums l).toList == (strOfNums m).toList) = decide (l = m) := by
  by_cases h : l = m
  · subst h; simp
  · rw [decide_eq_false h]
    have : strOfNums l ≠ strOfNums m := fun e => h (strOfNums_inj hl hm e)
    rw [beq_eq_false_iff_ne]
    intro e
    apply this
    have h1 : (strOfNums l).data.toList = (strOfNums m).data.toList := by
      rw [← ByteArray.toList_eq, ← ByteArray.toList_eq]; exact e
    cases hs : strOfNums l with
    | mk d => cases hs' : strOfNums m with
      | mk d' => rw [hs, hs'] at h1; simp at h1; rw [h1]
theorem take_at {R : Assn} {Γ Δ : List Assn} {s : SV} {l : List Int} [p : Pick R Γ Δ] (hR : ∀ Γ w, Sat w (R :: Γ) → BytesAt w s.v l) {w : World} (hs : Sat w Γ) (k : Nat) (hk : k ≤ l.length) : SlAt w (SV.v ⟨s.a, k, s.c⟩) k 1 (bcells (l.take k)) := by
  have h := (hR _ w (hs.ent p.ent)).take k hk
  unfold BytesAt at h
  rwa [List.length_take, Nat.min_eq_left hk] at h
end Go.Proofs.YtbhnbnecaejjiaaDoor
