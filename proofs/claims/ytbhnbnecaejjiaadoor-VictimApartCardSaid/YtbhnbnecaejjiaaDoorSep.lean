/- Separation logic over the walk's rules: heaplets, states, contracts. Of no program. -/
import Derived.Test.YtbhnbnecaejjiaaDoorOwn
namespace Go.Proofs.YtbhnbnecaejjiaaDoor
open Go.RowKit
def HL : Type := Nat → Option Obj
namespace HL
def le (h k : HL) : Prop := ∀ b o, h b = some o → k b = some o
def disj (h k : HL) : Prop := ∀ b, h b = none ∨ k b = none
def of (w : World) : HL := fun b => w.heap[b]?
def join (h k : HL) : HL := fun b => match h b with | some o => some o | none => k b
def one (b : Nat) (o : Obj) : HL := fun x => if x = b then some o else none
def emp : HL := fun _ => none
theorem le.refl (h : HL) : le h h := fun _ _ e => e
theorem le.trans {a b c : HL} (h : le a b) (k : le b c) : le a c := fun x o e => k x o (h x o e)
theorem disj.symm {a b : HL} (h : disj a b) : disj b a := fun x => (h x).symm
theorem disj.mono {a b a' b' : HL} (h : disj a b) (ha : le a' a) (hb : le b' b) : disj a' b' := by
  intro x
  cases ea : a' x with
  | none => exact .inl rfl
  | some o =>
    refine .inr ?_
    cases eb : b' x with
    | none => rfl
    | some p => rcases h x with h | h <;> simp [ha x _ ea, hb x _ eb] at h
theorem le_join_left (a b : HL) : le a (join a b) := fun x o e => by simp [join, e]
theorem le_join_right {a b : HL} (h : disj a b) : le b (join a b) := fun x o e => by
  rcases h x with h | h
  · simp [join, h, e]
  · rw [h] at e; cases e
theorem join_le {a b c : HL} (ha : le a c) (hb : le b c) : le (join a b) c := fun x o e => by
  unfold join at e
  cases h : a x with
  | none => rw [h] at e; exact hb x o e
  | some p => rw [h] at e; cases e; exact ha x _ h
theorem join_none {a b : HL} {x : Nat} (ha : a x = none) (hb : b x = none) : join a b x = none := by simp [join, ha, hb]
theorem disj_join {a b c : HL} (hb : disj a b) (hc : disj a c) : disj a (join b c) := by
  intro x
  rcases hb x with h | h
  · exact .inl h
  · rcases hc x with h' | h'
    · exact .inl h'
    · exact .inr (join_none h h')
theorem emp_le (a : HL) : le emp a := fun _ _ e => by cases e
theorem emp_disj (a : HL) : disj emp a := fun _ => .inl rfl
theorem one_le {b : Nat} {o : Obj} {h : HL} (e : h b = some o) : le (one b o) h := fun x p hx => by
  unfold one at hx
  split at hx
  · rename_i hb; cases hx; rw [hb]; exact e
  · cases hx
theorem one_self (b : Nat) (o : Obj) : one b o b = some o := by simp [one]
theorem one_none {b x : Nat} {o : Obj} (h : x ≠ b) : one b o x = none := by simp [one, h]
end HL
abbrev Assn := HL → Prop
def stars : List Assn → HL → Prop
  | [], _ => True
  | P :: Γ, h => ∃ h1 h2, HL.disj h1 h2 ∧ HL.le h1 h ∧ HL.le h2 h ∧ P h1 ∧ stars Γ h2
theorem stars_mono {Γ : List Assn} {h k : HL} (hs : stars Γ h) (hk : HL.le h k) : stars Γ k := by
  cases Γ with
  | nil => trivial
  | cons P Γ =>
    obtain ⟨h1, h2, d, l1, l2, p, s⟩ := hs
    exact ⟨h1, h2, d, l1.trans hk, l2.trans hk, p, s⟩
theorem stars_swap {P Q : Assn} {Γ : List Assn} {h : HL} (hs : stars (P :: Q :: Γ) h) : stars (Q :: P :: Γ) h := by
  obtain ⟨h1, h2, d, l1, l2, p, h3, h4, d', l3, l4, q, s⟩ := hs
  have d14 : HL.disj h1 h4 := d.mono (HL.le.refl _) l4
  exact ⟨h3, HL.join h1 h4, HL.disj_join (d.mono (HL.le.refl _) l3).symm d', l3.trans l2, HL.join_le l1 (l4.trans l2), q, h1, h4, d14, HL.le_join_left _ _, HL.le_join_right d14, p, s⟩
/-- Entailment. -/
def Ent (Γ Δ : List Assn) : Prop := ∀ h, stars Γ h → stars Δ h
theorem Ent.refl (Γ : List Assn) : Ent Γ Γ := fun _ h => h
theorem Ent.trans {Γ Δ Θ : List Assn} (h : Ent Γ Δ) (k : Ent Δ Θ) : Ent Γ Θ := fun x hx => k x (h x hx)
theorem Ent.cons {Γ Δ : List Assn} (P : Assn) (h : Ent Γ Δ) : Ent (P :: Γ) (P :: Δ) := fun _ ⟨h1, h2, d, l1, l2, p, s⟩ => ⟨h1, h2, d, l1, l2, p, h _ s⟩
theorem Ent.swap (P Q : Assn) (Γ : List Assn) : Ent (P :: Q :: Γ) (Q :: P :: Γ) := fun _ h => stars_swap h
theorem Ent.drop (P : Assn) (Γ : List Assn) : Ent (P :: Γ) Γ := fun _ ⟨_, _, _, _, l2, _, s⟩ => stars_mono s l2
theorem Ent.mono1 {P Q : Assn} (Γ : List Assn) (h : ∀ x, P x → Q x) : Ent (P :: Γ) (Q :: Γ) := fun _ ⟨h1, h2, d, l1, l2, p, s⟩ => ⟨h1, h2, d, l1, l2, h _ p, s⟩
theorem Ent.append {Γ Δ : List Assn} (Θ : List Assn) (h : Ent Γ Δ) : Ent (Θ ++ Γ) (Θ ++ Δ) := by
  induction Θ with
  | nil => exact h
  | cons P Θ ih => exact ih.cons P
/-- Some assertions as one. -/
theorem stars_append {Γ Δ : List Assn} {h : HL} : stars (Γ ++ Δ) h ↔ stars (stars Γ :: Δ) h := by
  induction Γ generalizing h with
  | nil => exact ⟨fun hs => ⟨HL.emp, h, HL.emp_disj _, HL.emp_le _, HL.le.refl _, trivial, hs⟩, fun ⟨_, _, _, _, l2, _, s⟩ => stars_mono s l2⟩
  | cons P Γ ih =>
    constructor
    · rintro ⟨h1, h2, d, l1, l2, p, s⟩
      obtain ⟨h3, h4, d', l3, l4, q, s'⟩ := ih.1 s
      have d13 : HL.disj h1 h3 := d.mono (HL.le.refl _) l3
      refine ⟨HL.join h1 h3, h4, (HL.disj_join (d.mono (HL.le.refl _) l4).symm d'.symm).symm, HL.join_le l1 (l3.trans l2), l4.trans l2, ⟨h1, h3, d13, HL.le_join_left _ _, HL.le_join_right d13, p, q⟩, s'⟩
    · rintro ⟨h1, h2, d, l1, l2, ⟨h3, h4, d', l3, l4, p, q⟩, s⟩
      have d42 : HL.disj h4 h2 := d.mono l4 (HL.le.refl _)
      exact ⟨h3, HL.join h4 h2, HL.disj_join d' (d.mono l3 (HL.le.refl _)), l3.trans l1, HL.join_le (l4.trans l1) l2, p, ih.2 ⟨h4, h2, d42, HL.le_join_left _ _, HL.le_join_right d42, q, s⟩⟩
theorem Ent.appendR {Γ Δ : List Assn} (Θ : List Assn) (h : Ent Γ Δ) : Ent (Γ ++ Θ) (Δ ++ Θ) := fun x hx => stars_append.2 (Ent.mono1 (P := stars Γ) (Q := stars Δ) Θ h x (stars_append.1 hx))
/-! Choosing an assertion. -/
class Pick (P : Assn) (Γ : List Assn) (Δ : outParam (List Assn)) : Prop where
  ent : Ent Γ (P :: Δ)
instance (priority := high) Pick.head {P : Assn} {Γ : List Assn} : Pick P (P :: Γ) Γ := ⟨Ent.refl _⟩
instance Pick.tail {P Q : Assn} {Γ Δ : List Assn} [h : Pick P Γ Δ] : Pick P (Q :: Γ) (Q :: Δ) := ⟨(h.ent.cons Q).trans (Ent.swap _ _ _)⟩
class Tail (Δ Γ : List Assn) : Prop where
  ent : Ent Γ Δ
instance (priority := high) Tail.refl {Γ : List Assn} : Tail Γ Γ := ⟨Ent.refl _⟩
instance Tail.drop {P : Assn} {Δ Γ : List Assn} [h : Tail Δ Γ] : Tail Δ (P :: Γ) := ⟨(Ent.drop P Γ).trans h.ent⟩
/-- Γ entails Δ by choosing and leaving. -/
class Sub (Δ Γ : List Assn) : Prop where
  ent : Ent Γ Δ
instance (priority := high) Sub.nil {Γ : List Assn} : Sub [] Γ := ⟨fun _ _ => trivial⟩
instance Sub.cons {P : Assn} {Δ Γ Θ : List Assn} [p : Pick P Γ Θ] [s : Sub Δ Θ] : Sub (P :: Δ) Γ := ⟨p.ent.trans (s.ent.cons P)⟩
instance (priority := low) Sub.tail {Δ Γ : List Assn} [h : Tail Δ Γ] : Sub Δ Γ := ⟨h.ent⟩
/-- Γ is Δ and a rest. -/
class Picks (Δ Γ : List Assn) (Θ : outParam (List Assn)) : Prop where
  ent : Ent Γ (Δ ++ Θ)
instance (priority := high) Picks.nil {Γ : List Assn} : Picks [] Γ Γ := ⟨Ent.refl _⟩
instance Picks.cons {P : Assn} {Δ Γ Θ Ξ : List Assn} [p : Pick P Γ Θ] [s : Picks Δ Θ Ξ] : Picks (P :: Δ) Γ Ξ := ⟨p.ent.trans (s.ent.cons P)⟩
/-! Worlds. -/
def Sat (w : World) (Γ : List Assn) : Prop := ∃ h, HL.le h (HL.of w) ∧ stars Γ h
theorem Sat.ent {w : World} {Γ Δ : List Assn} (h : Sat w Γ) (e : Ent Γ Δ) : Sat w Δ := h.imp fun _ ⟨l, s⟩ => ⟨l, e _ s⟩
theorem Sat.of_heap {w w' : World} {Γ : List Assn} (h : Sat w Γ) (e : w'.heap = w.heap) : Sat w' Γ := by
  obtain ⟨h, l, s⟩ := h
  exact ⟨h, fun b o hb => by have := l b o hb; unfold HL.of at *; rw [e]; exact this, s⟩
theorem Sat.head {w : World} {P : Assn} {Γ : List Assn} (h : Sat w (P :: Γ)) : ∃ x, HL.le x (HL.of w) ∧ P x := by
  obtain ⟨h, l, h1, h2, d, l1, l2, p, s⟩ := h
  exact ⟨h1, l1.trans l, p⟩
theorem Sat.upd {w w' : World} {P P' : Assn} {Γ : List Assn} (hs : Sat w (P :: Γ))
    (h : ∀ x, HL.le x (HL.of w) → P x → ∃ x', HL.le x' (HL.of w') ∧ P' x' ∧ (∀ b, x b = none → w.heap[b]? ≠ none → x' b = none ∧ w'.heap[b]? = w.heap[b]?)) : Sat w' (P' :: Γ) := by
  obtain ⟨h0, l, h1, h2, d, l1, l2, p, s⟩ := hs
  obtain ⟨x', lx, px, fx⟩ := h h1 (l1.trans l) p
  have l2' : HL.le h2 (HL.of w') := fun b o e => by
    have hb := l2.trans l b o e
    have hn : h1 b = none := (d b).resolve_right (by rw [e]; simp)
    have := (fx b hn (by unfold HL.of at hb; rw [hb]; simp)).2
    unfold HL.of at *
    rw [this]; exact hb
  have dd : HL.disj x' h2 := fun b => by
    cases e : h2 b with
    | none => exact .inr rfl
    | some o =>
      have hb := l2.trans l b o e
      have hn : h1 b = none := (d b).resolve_right (by rw [e]; simp)
      exact .inl (fx b hn (by unfold HL.of at hb; rw [hb]; simp)).1
  exact ⟨HL.join x' h2, HL.join_le lx l2', x', h2, dd, HL.le_join_left _ _, HL.le_join_right dd, px, s⟩
/-- A block that is known whole, writable. -/
def blk (b : Nat) (e : TypeId) (cs : Array Value) : Assn := fun h => h b = some (.cells cs e (0, 0))
theorem Sat.isBlk {w : World} {b : Nat} {e : TypeId} {cs : Array Value} {Γ : List Assn} (h : Sat w (blk b e cs :: Γ)) : Blk w b e cs := by
  obtain ⟨x, l, p⟩ := h.head
  exact l b _ p
theorem Sat.alloc {w : World} {Γ : List Assn} (h : Sat w Γ) (e : TypeId) (cs : Array Value) : Sat (w.alloc (.cells cs e)) (blk w.heap.size e cs :: Γ) := by
  have h' : Sat w ((fun _ => True : Assn) :: Γ) := by
    obtain ⟨x, l, s⟩ := h
    exact ⟨x, l, HL.emp, x, HL.emp_disj _, HL.emp_le _, HL.le.refl _, trivial, s⟩
  refine h'.upd fun x _ _ => ⟨HL.one w.heap.size (.cells cs e), HL.one_le (hx_new rfl), HL.one_self _ _, fun b _ hb => ?_⟩
  have hlt : b < w.heap.size := by
    rcases Nat.lt_or_ge b w.heap.size with h | h
    · exact h
    · simp [Array.getElem?_eq_none h] at hb
  exact ⟨HL.one_none (by omega), Below.heap_alloc _ _ _ hlt⟩
theorem Sat.setCell {w : World} {Γ : List Assn} {b : Nat} {e : TypeId} {cs : Array Value} (h : Sat w (blk b e cs :: Γ)) (o : Nat) (v : Value) :
    Sat (w.setCell ⟨b, o, none⟩ v) (blk b e (cs.setIfInBounds o v) :: Γ) := by
  refine h.upd fun x l p => ⟨HL.one b (.cells (cs.setIfInBounds o v) e), HL.one_le ((show Blk w b e cs from l b _ p).set o v), HL.one_self _ _, fun c hc _ => ?_⟩
  have hne : c ≠ b := fun e => by subst e; rw [p] at hc; cases hc
  exact ⟨HL.one_none hne, Below.heap_setCell _ _ _ _ hne⟩
/-- The world's streams are as they were; no block has gone. -/
structure Ext0 (w w' : World) : Prop where
  os : w'.os = w.os
  tape : w'.tape = w.tape
  output : w'.output = w.output
  size : w.heap.size ≤ w'.heap.size
  drawn : w.drawn ≤ w'.drawn
/-- Where a walk began; md: is what was drawn to be reckoned with too? (Contracts of the kit's own say nothing of it.) -/
structure WM (md : Bool) where
  w : World
structure Ext {md : Bool} (a : WM md) (w' : World) : Prop where
  os : w'.os = a.w.os
  tape : w'.tape = a.w.tape
  output : w'.output = a.w.output
  size : a.w.heap.size ≤ w'.heap.size
  drawn : md = true → a.w.drawn ≤ w'.drawn
theorem Ext.refl {md : Bool} (w : World) : Ext (⟨w⟩ : WM md) w := ⟨rfl, rfl, rfl, Nat.le_refl _, fun _ => Nat.le_refl _⟩
theorem Ext.trans {md : Bool} {a : WM md} {b c : World} (h : Ext a b) (k : Ext0 b c) : Ext a c := ⟨k.os.trans h.os, k.tape.trans h.tape, k.output.trans h.output, Nat.le_trans h.size k.size, fun e => Nat.le_trans (h.drawn e) k.drawn⟩
theorem Ext.transM {md : Bool} {a : WM md} {b c : World} (h : Ext a b) (k : Ext (⟨b⟩ : WM md) c) : Ext a c := ⟨k.os.trans h.os, k.tape.trans h.tape, k.output.trans h.output, Nat.le_trans h.size k.size, fun e => Nat.le_trans (h.drawn e) (k.drawn e)⟩
theorem Ext.alloc {md : Bool} {a : WM md} {w : World} (h : Ext a w) (o : Obj) : Ext a (w.alloc o) := h.trans ⟨rfl, rfl, rfl, by simp, Nat.le_refl _⟩
theorem Ext.setCell {md : Bool} {a : WM md} {w : World} (h : Ext a w) (p : Addr) (v : Value) : Ext a (w.setCell p v) := h.trans ⟨rfl, rfl, rfl, by simp [World.setCell], Nat.le_refl _⟩
theorem Ext.drew {md : Bool} {a : WM md} {w : World} (h : Ext a w) : Ext a w.drew := ⟨h.os, h.tape, h.output, h.size, fun e => Nat.le_succ_of_le (h.drawn e)⟩
/-! The frame's slots: what is known of them. -/
abbrev Env := List (Nat × Value)
def Env.get : Env → Nat → Option Value
  | [], _ => none
  | (t, v) :: ρ, x => match Nat.beq t x with
    | true => some v
    | false => Env.get ρ x
def ev (ρ : Env) : Operand → Option Value
  | .tmp t => Env.get ρ t
  | .const v => some v
  | .global g => some (.pointer (some ⟨g, 0, none⟩))
  | .func f => some (.func (.func f) #[] #[])
structure EnvOk (n : Nat) (ρ : Env) (a : Act) : Prop where
  size : a.tmps.size = n
  defers : a.defers = []
  get : ∀ t v, Env.get ρ t = some v → a.tmps.getD t undef = v
theorem EnvOk.ev {n : Nat} {ρ : Env} {a : Act} (h : EnvOk n ρ a) {x : Operand} {v : Value} (hx : ev ρ x = some v) : a.eval x = v := by
  cases x with
  | tmp t => exact h.get t v hx
  | const u => simpa [Act.eval, Go.Proofs.YtbhnbnecaejjiaaDoor.ev] using hx
  | global g => simpa [Act.eval, Go.Proofs.YtbhnbnecaejjiaaDoor.ev] using hx
  | func f => simpa [Act.eval, Go.Proofs.YtbhnbnecaejjiaaDoor.ev] using hx
theorem EnvOk.put {n : Nat} {ρ : Env} {a : Act} (h : EnvOk n ρ a) {d : Nat} (hd : Nat.blt d n = true) (v : Value) : EnvOk n ((d, v) :: ρ) (a.put (some d) v) := by
  have hd' : d < a.tmps.size := by rw [h.size]; have := hd; simp [Nat.blt] at this; omega
  refine ⟨by simp [Act.put, h.size], h.defers, fun t u hu => ?_⟩
  unfold Env.get at hu
  cases hb : Nat.beq d t with
  | true =>
    rw [hb] at hu
    have := Nat.eq_of_beq_eq_true hb
    subst this
    cases hu
    simp [Act.put, hd']
  | false =>
    rw [hb] at hu
    have hne : d ≠ t := fun e => by subst e; simp [Nat.beq_refl] at hb
    have := h.get t u hu
    simpa [Act.put, Array.getElem?_setIfInBounds_ne hne] using this
def EnvSub : Env → Env → Prop
  | [], _ => True
  | (t, v) :: σ, ρ => Env.get ρ t = some v ∧ EnvSub σ ρ
theorem EnvSub.get {σ ρ : Env} (h : EnvSub σ ρ) : ∀ t v, Env.get σ t = some v → Env.get ρ t = some v := by
  induction σ with
  | nil => intro t v hv; cases hv
  | cons p σ ih =>
    intro t v hv
    obtain ⟨t', v'⟩ := p
    unfold Env.get at hv
    cases hb : Nat.beq t' t with
    | true =>
      rw [hb] at hv
      have := Nat.eq_of_beq_eq_true hb
      subst this
      cases hv
      exact h.1
    | false => rw [hb] at hv; exact ih h.2 t v hv
theorem EnvOk.sub {n : Nat} {σ ρ : Env} {a : Act} (h : EnvOk n ρ a) (hs : EnvSub σ ρ) : EnvOk n σ a := ⟨h.size, h.defers, fun t v hv => h.get t v (hs.get t v hv)⟩
/-! States. -/
def S {md : Bool} (n : Nat) (w0 : WM md) (ρ : Env) (Γ : List Assn) (φ : Act → World → Prop) : Prop := ∀ a w, EnvOk n ρ a → Sat w Γ → Ext w0 w → φ a w
/-- A contract: from pre to post, whatever else there is. -/
def Spec (P : Program) (f : FuncId) (args : List Value) (pre : List Assn) (post : List Assn → Value → List Assn → Prop) (md : Bool := false) : Prop :=
  ∀ (Γ : List Assn) (w : World), Sat w (pre ++ Γ) → Calls P f args.toArray w fun e w' => ∃ v Θ, e = .returned v ∧ post Γ v Θ ∧ Sat w' Θ ∧ Ext (⟨w⟩ : WM md) w'
def Fin {md : Bool} (P : Program) (fn : Func) (post : List Assn → Value → List Assn → Prop) (Γ : List Assn) (w0 : WM md) : Exit → Act → World → Prop :=
  bodyPost P fn fun e w' => ∃ v Θ, e = .returned v ∧ post Γ v Θ ∧ Sat w' Θ ∧ Ext w0 w'
def argEnv : Nat → List Value → Env
  | _, [] => []
  | k, v :: l => (k, v) :: argEnv (k + 1) l
theorem argEnv_get (l : List Value) : ∀ k t v, Env.get (argEnv k l) t = some v → k ≤ t ∧ l[t - k]? = some v := by
  induction l with
  | nil => intro k t v h; cases h
  | cons u l ih =>
    intro k t v h
    unfold argEnv Env.get at h
    cases hb : Nat.beq k t with
    | true =>
      rw [hb] at h
      have := Nat.eq_of_beq_eq_true hb
      subst this
      cases h
      simp
    | false =>
      rw [hb] at h
      obtain ⟨h1, h2⟩ := ih (k + 1) t v h
      refine ⟨by omega, ?_⟩
      rw [show t - k = (t - (k + 1)) + 1 by omega]
      simpa using h2
section
variable {P : Program} {n : Nat} {md : Bool} {w0 : WM md} {ρ : Env} {Γ : List Assn} {Q : Exit → Act → World → Prop}
theorem Spec.of_body {f : FuncId} {fn : Func} {c : Code} {l : List Value} {pre : List Assn} {post : List Assn → Value → List Assn → Prop} (hf : P.funcs[f]? = some fn) (hb : fn.body = some c) (hn : fn.ntmps = n) (hl : Nat.ble l.length n = true)
    (h : ∀ (w0 : WM md) Γ, S n w0 (argEnv 0 l) (pre ++ Γ) (c.wp P (Fin P fn post Γ w0))) : Spec P f l pre post md := by
  intro Γ w hs
  refine calls_of_wp hf hb (h ⟨w⟩ Γ _ w ⟨?_, rfl, fun t v hv => ?_⟩ hs (Ext.refl _))
  · have := Nat.le_of_ble_eq_true hl
    simp [hn]; omega
  · obtain ⟨_, h2⟩ := argEnv_get l 0 t v hv
    simp only [Nat.sub_zero] at h2
    have hlt : t < l.length := (List.getElem?_eq_some_iff.1 h2).1
    have := (List.getElem?_eq_some_iff.1 h2).2
    simp [Array.getElem?_append_left, hlt, this]
theorem S.mono {φ ψ : Act → World → Prop} (h : S n w0 ρ Γ φ) (k : ∀ a w, φ a w → ψ a w) : S n w0 ρ Γ ψ := fun a w ha hs hx => k _ _ (h a w ha hs hx)
theorem S.ent {φ : Act → World → Prop} {Δ : List Assn} (e : Ent Γ Δ) (h : S n w0 ρ Δ φ) : S n w0 ρ Γ φ := fun a w ha hs hx => h a w ha (hs.ent e) hx
theorem S.sub {φ : Act → World → Prop} (Δ : List Assn) [e : Sub Δ Γ] (h : S n w0 ρ Δ φ) : S n w0 ρ Γ φ := S.ent e.ent h
theorem S.env {φ : Act → World → Prop} {σ : Env} (e : EnvSub σ ρ) (h : S n w0 σ Γ φ) : S n w0 ρ Γ φ := fun a w ha hs hx => h a w (ha.sub e) hs hx
theorem S.seq {x y : Code} (h : ∀ K : Act → World → Prop, (∀ ρ Γ, S n w0 ρ Γ (y.wp P Q) → S n w0 ρ Γ K) → S n w0 ρ Γ (x.wp P (Exit.then K Q))) : S n w0 ρ Γ ((Code.seq x y).wp P Q) :=
  fun a w ha hs hx => wp_seq (h _ (fun _ _ h => h) a w ha hs hx)
theorem S.skip (h : S n w0 ρ Γ (Q .normal)) : S n w0 ρ Γ (Code.skip.wp P Q) := fun a w ha hs hx => wp_skip (h a w ha hs hx)
theorem S.block {id : Nat} {c : Code} (h : S n w0 ρ Γ (c.wp P (Exit.inBlock id Q))) : S n w0 ρ Γ ((Code.block id c).wp P Q) := fun a w ha hs hx => wp_block (h a w ha hs hx)
theorem S.exit {id : Nat} (h : S n w0 ρ Γ (Q (.exit id))) : S n w0 ρ Γ ((Code.exit id).wp P Q) := fun a w ha hs hx => wp_exit (h a w ha hs hx)
theorem S.ret (h : S n w0 ρ Γ (Q .ret)) : S n w0 ρ Γ (Code.ret.wp P Q) := fun a w ha hs hx => wp_ret (h a w ha hs hx)
theorem S.scope {c : Code} (h : S n w0 ρ Γ (c.wp P (Exit.noGoto Q))) : S n w0 ρ Γ ((Code.scope c).wp P Q) := fun a w ha hs hx => wp_scope_straight (h a w ha hs hx)
theorem S.cond {c : Operand} {x y : Code} {t : Bool} (hc : ev ρ c = some (.bool t)) (h1 : t = true → S n w0 ρ Γ (x.wp P Q)) (h2 : t = false → S n w0 ρ Γ (y.wp P Q)) : S n w0 ρ Γ ((Code.cond c x y).wp P Q) :=
  fun a w ha hs hx => wp_cond_split (ha.ev hc) (fun e => h1 e a w ha hs hx) (fun e => h2 e a w ha hs hx)
theorem S.condD {c : Operand} {x y : Code} {p : Prop} [d : Decidable p] (hc : ev ρ c = some (.bool (decide p))) (h1 : p → S n w0 ρ Γ (x.wp P Q)) (h2 : ¬ p → S n w0 ρ Γ (y.wp P Q)) : S n w0 ρ Γ ((Code.cond c x y).wp P Q) :=
  S.cond hc (fun e => h1 (of_decide_eq_true e)) (fun e => h2 (of_decide_eq_false e))
theorem S.condT {c : Operand} {x y : Code} (hc : ev ρ c = some (.bool true)) (h : S n w0 ρ Γ (x.wp P Q)) : S n w0 ρ Γ ((Code.cond c x y).wp P Q) := fun a w ha hs hx => wp_cond_true (ha.ev hc) (h a w ha hs hx)
theorem S.condF {c : Operand} {x y : Code} (hc : ev ρ c = some (.bool false)) (h : S n w0 ρ Γ (y.wp P Q)) : S n w0 ρ Γ ((Code.cond c x y).wp P Q) := fun a w ha hs hx => wp_cond_false (ha.ev hc) (h a w ha hs hx)
/-! Exits. -/
theorem S.then_n {K : Act → World → Prop} (h : S n w0 ρ Γ K) : S n w0 ρ Γ (Exit.then K Q .normal) := h
theorem S.then_x {K : Act → World → Prop} {i : Nat} (h : S n w0 ρ Γ (Q (.exit i))) : S n w0 ρ Γ (Exit.then K Q (.exit i)) := h
theorem S.then_r {K : Act → World → Prop} (h : S n w0 ρ Γ (Q .ret)) : S n w0 ρ Γ (Exit.then K Q .ret) := h
theorem S.inBlock_n {i : Nat} (h : S n w0 ρ Γ (Q .normal)) : S n w0 ρ Γ (Exit.inBlock i Q .normal) := h
theorem S.inBlock_r {i : Nat} (h : S n w0 ρ Γ (Q .ret)) : S n w0 ρ Γ (Exit.inBlock i Q .ret) := h
theorem S.inBlock_s {i : Nat} (h : S n w0 ρ Γ (Q .normal)) : S n w0 ρ Γ (Exit.inBlock i Q (.exit i)) := fun a w ha hs hx => by simpa [Exit.inBlock] using h a w ha hs hx
theorem S.inBlock_x {i j : Nat} (hne : Nat.beq j i = false) (h : S n w0 ρ Γ (Q (.exit j))) : S n w0 ρ Γ (Exit.inBlock i Q (.exit j)) := fun a w ha hs hx => by
  have hne' : j ≠ i := fun e => by subst e; simp [Nat.beq_refl] at hne
  simpa [Exit.inBlock, hne'] using h a w ha hs hx
/-! Loops. -/
def Next {md : Bool} (n : Nat) (w0 : WM md) (I : Nat → Env → List Assn → Prop) (m : Nat) : Act → World → Prop := fun a w => ∃ m', m' < m ∧ ∃ ρ Γ, I m' ρ Γ ∧ EnvOk n ρ a ∧ Sat w Γ ∧ Ext w0 w
theorem S.loop {c : Code} (I : Nat → Env → List Assn → Prop) {m : Nat} {ρ0 : Env} {Γ0 : List Assn} (h0 : I m ρ0 Γ0) (hρ : EnvSub ρ0 ρ) (hΓ : Ent Γ Γ0)
    (round : ∀ m ρ Γ, I m ρ Γ → S n w0 ρ Γ (c.wp P (Exit.then (Next n w0 I m) Q))) : S n w0 ρ Γ ((Code.loop c).wp P Q) := by
  intro a w ha hs hx
  refine wp_loop_ghost (fun k a w => ∃ ρ Γ, I k ρ Γ ∧ EnvOk n ρ a ∧ Sat w Γ ∧ Ext w0 w) m ⟨ρ0, Γ0, h0, ha.sub hρ, hs.ent hΓ, hx⟩ ?_
  rintro k a w ⟨ρ, Γ, hI, ha, hs, hx⟩
  exact round k ρ Γ hI a w ha hs hx
theorem S.next {I : Nat → Env → List Assn → Prop} {m : Nat} (m' : Nat) {ρ' : Env} {Γ' : List Assn} (hI : I m' ρ' Γ') (hm : m' < m) (hρ : EnvSub ρ' ρ) (hΓ : Ent Γ Γ') : S n w0 ρ Γ (Next n w0 I m) :=
  fun _ _ ha hs hx => ⟨m', hm, ρ', Γ', hI, ha.sub hρ, hs.ent hΓ, hx⟩
end
end Go.Proofs.YtbhnbnecaejjiaaDoor
