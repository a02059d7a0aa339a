/- Regions that draw their order, guarded operations, cuts: rules in the states of XSep. Of no program. -/
import Derived.Test.YtbhnbnecaejjiaaDoorSl
import Derived.OrdersHeld
namespace Go.Proofs.YtbhnbnecaejjiaaDoor
open Go.RowKit
/-- Whatever order: H holds behind every operation up to the first late one. -/
def wpT (P : Program) (ops : Array Oper) (Q : Exit → Act → World → Prop) (H : World → Prop) (late : Nat → Bool) : Nat → Array Bool → Act → World → Prop
  | 0, listed, a, w => Region.ready .any ops listed = [] ∧ Q .normal a w
  | fuel + 1, listed, a, w =>
    (Region.ready .any ops listed = [] → Q .normal a w) ∧
    ∀ i ∈ Region.ready .any ops listed, wpOp P ops Q i (fun a' w' => if late i = true then wpAny P .any ops Q fuel (listed.setIfInBounds i true) a' w' else H w' ∧ wpT P ops Q H late fuel (listed.setIfInBounds i true) a' w') a w
section
variable {P : Program} {ops : Array Oper} {Q : Exit → Act → World → Prop} {H : World → Prop} {late : Nat → Bool}
theorem wpAny_of_wpT : ∀ (fuel : Nat) (listed : Array Bool) (a : Act) (w : World), wpT P ops Q H late fuel listed a w → wpAny P .any ops Q fuel listed a w
  | 0, _, _, _, h => h
  | fuel + 1, _, _, _, h => ⟨h.1, fun i hi => wpOp_mono (fun a' w' h' => by
      split at h'
      · exact h'
      · exact wpAny_of_wpT fuel _ a' w' h'.2) (h.2 i hi)⟩
theorem wpT_first {i : Nat} {oi : Oper} {v : Value} (D : List Nat) (hi : ops[i]? = some oi) (hsel : ∀ (j : Nat) (o : Oper) cs b, ops[j]? = some o → o.op ≠ .select cs b)
    (hQ : ∀ c a w, Q (.panic c) (a.put oi.dst v) w → Q (.panic c) a w) (hlate : ∀ j, late j = true → j ∈ D)
    (hD : ∀ j ∈ D, ∀ o, ops[j]? = some o → ∃ e ∈ o.after, Region.binds .any e = true ∧ (e.on = i ∨ e.on ∈ D)) :
    ∀ (fuel : Nat) (listed : Array Bool) (a : Act) (w : World),
      (∀ j oj, ops[j]? = some oj → j ≠ i → listed.getD j true = false → (∀ e ∈ oj.after, Region.binds .any e = true → e.on ≠ i) → oi.apart ops oj = true) →
      (∀ j ∈ D, j ≠ i ∧ listed.getD j false = false) →
      i ∈ Region.ready .any ops listed → YieldsIf P ops H oi v a → H w →
      wpT P ops Q H late fuel (listed.setIfInBounds i true) (a.put oi.dst v) w → wpT P ops Q H late (fuel + 1) listed a w := by
  have yes : ∀ (fuel : Nat) (listed : Array Bool) (a : Act) (w : World), (∀ j ∈ D, j ≠ i ∧ listed.getD j false = false) → YieldsIf P ops H oi v a → H w → wpT P ops Q H late fuel (listed.setIfInBounds i true) (a.put oi.dst v) w →
      wpOp P ops Q i (fun a' w' => if late i = true then wpAny P .any ops Q fuel (listed.setIfInBounds i true) a' w' else H w' ∧ wpT P ops Q H late fuel (listed.setIfInBounds i true) a' w') a w := by
    intro fuel listed a w hDl hy hS hh
    have hni : late i ≠ true := fun e => (hDl i (hlate i e)).1 rfl
    refine hy.wpOp hi hS ?_
    simp only [hni]
    exact ⟨hS, hh⟩
  intro fuel
  induction fuel with
  | zero =>
    intro listed a w _ hDl hr hy hS hh
    refine ⟨fun h => (by rw [h] at hr; cases hr), fun j hj => ?_⟩
    by_cases hji : j = i
    · subst hji; exact yes 0 listed a w hDl hy hS hh
    · have := ready_mono hj hji
      rw [hh.1] at this
      cases this
  | succ fuel ih =>
    intro listed a w hfree hDl hr hy hS hh
    refine ⟨fun h => (by rw [h] at hr; cases hr), fun j hj => ?_⟩
    by_cases hji : j = i
    · subst hji; exact yes (fuel + 1) listed a w hDl hy hS hh
    · have h1 := hh.2 j (ready_mono hj hji)
      obtain ⟨hjun, oj, hoj, hall⟩ := mem_ready.1 hj
      have iun : listed.getD i true = false := (mem_ready.1 hr).1
      have hnot : ∀ e ∈ oj.after, Region.binds .any e = true → e.on ≠ i := fun e he hb heq => by
        have h1 := hall e he hb
        rw [heq] at h1
        rcases Nat.lt_or_ge i listed.size with h' | h'
        · simp [h'] at iun h1; rw [iun] at h1; cases h1
        · simp [Array.getElem?_eq_none h'] at h1
      have hjD : j ∉ D := fun hjd => by
        obtain ⟨e, he, hb, h2⟩ := hD j hjd oj hoj
        rcases h2 with h2 | h2
        · exact hnot e he hb h2
        · have := hall e he hb
          rw [(hDl _ h2).2] at this
          cases this
      have hlj : late j ≠ true := fun e => hjD (hlate j e)
      have h1' : wpOp P ops Q j (fun a' w' => H w' ∧ wpT P ops Q H late fuel ((listed.setIfInBounds i true).setIfInBounds j true) a' w') (a.put oi.dst v) w := by
        refine wpOp_mono (fun a' w' h => ?_) h1
        simp only [hlj] at h
        exact h
      have h2 := wpOp_putIf hoj (hfree j oj hoj hji hjun hnot) (fun cs b => hsel i oi cs b hi) (fun cs b => hsel j oj cs b hoj) hQ hy h1'
      have hfree' : ∀ k ok, ops[k]? = some ok → k ≠ i → (listed.setIfInBounds j true).getD k true = false →
          (∀ e ∈ ok.after, Region.binds .any e = true → e.on ≠ i) → oi.apart ops ok = true := fun k ok hk hki hun hno => by
        refine hfree k ok hk hki ?_ hno
        by_cases hjk : j = k
        · subst hjk; exact hjun
        · rw [getD_set_ne true hjk] at hun; exact hun
      have hDl' : ∀ k ∈ D, k ≠ i ∧ (listed.setIfInBounds j true).getD k false = false := fun k hk => by
        refine ⟨(hDl k hk).1, ?_⟩
        rw [getD_set_ne false (fun e : j = k => hjD (by rw [e]; exact hk))]
        exact (hDl k hk).2
      refine wpOp_mono (fun a' w' h3 => ?_) h2
      simp only [hlj]
      refine ⟨h3.2.1, ih (listed.setIfInBounds j true) a' w' hfree' hDl' (ready_mono hr (Ne.symm hji)) h3.1 h3.2.1 ?_⟩
      rw [Array.setIfInBounds_comm _ _ hji]
      exact h3.2.2
/-- The side conditions, to be reckoned. -/
def takeOk (ops : Array Oper) (listed : Array Bool) (i : Nat) (late D : List Nat) : Bool :=
  Region.noSelect ops && Region.free .any ops listed i && (Region.ready .any ops listed).contains i && late.all (fun j => D.contains j) &&
  D.all fun j => j != i && !listed.getD j false && match ops[j]? with
    | some o => o.after.any fun e => Region.binds .any e && (e.on == i || D.contains e.on)
    | none => true
end
section
variable {P : Program} {n : Nat} {md : Bool} {w0 : WM md} {ρ : Env} {Γ : List Assn} {Q : Exit → Act → World → Prop} {K : Act → World → Prop} {ops : Array Oper} {d : Nat} {Hs : List Assn} {late : List Nat} {fuel : Nat} {listed : Array Bool}
/-- The state inside a drawn region. -/
def Dr (P : Program) (ops : Array Oper) (Q : Exit → Act → World → Prop) (Hs : List Assn) (late : List Nat) (fuel : Nat) (listed : Array Bool) : Act → World → Prop :=
  wpT P ops (NoPanic Q) (fun w => Sat w Hs) (fun j => late.contains j) fuel listed
/-- Behind operation i. -/
def DrK (P : Program) (ops : Array Oper) (Q : Exit → Act → World → Prop) (Hs : List Assn) (late : List Nat) (fuel : Nat) (listed : Array Bool) (i : Nat) : Act → World → Prop := fun a w =>
  if late.contains i = true then wpAny P .any ops (NoPanic Q) fuel (listed.setIfInBounds i true) a w else Sat w Hs ∧ Dr P ops Q Hs late fuel (listed.setIfInBounds i true) a w
theorem S.draw {id : Nat} (Hs : List Assn) (late : List Nat) (hm : P.follows .mixedOrders = true) (h : S n w0 ρ Γ (Dr P ops Q Hs late ops.size (Array.replicate ops.size false))) : S n w0 ρ Γ ((Code.region id ops true).wp P Q) :=
  fun a w ha hs hx => wp_region_noPanic (wp_region_any hm (wpAny_of_wpT _ _ _ _ (h a { w with drawn := w.drawn + 1 } ha (hs.of_heap rfl) ⟨hx.os, hx.tape, hx.output, hx.size, fun e => Nat.le_succ_of_le (hx.drawn e)⟩)))
theorem S.again (Hs' : List Assn) (late' : List Nat) (h : S n w0 ρ Γ (Dr P ops Q Hs' late' fuel listed)) : S n w0 ρ Γ (wpAny P .any ops (NoPanic Q) fuel listed) :=
  fun a w ha hs hx => wpAny_of_wpT _ _ _ _ (h a w ha hs hx)
theorem S.dr_take {o : Oper} {v : Value} (i : Nat) (D : List Nat) (hi : ops[i]? = some o) (hok : takeOk ops listed i late D = true) (hg : o.guard = none) (hd : o.dst = some d) (hn : Nat.blt d n = true) (hy : Qv P n ρ Hs o v) (hH : Ent Γ Hs)
    (k : S n w0 ((d, v) :: ρ) Γ (Dr P ops Q Hs late fuel (listed.setIfInBounds i true))) : S n w0 ρ Γ (Dr P ops Q Hs late (fuel + 1) listed) := by
  intro a w ha hs hx
  unfold takeOk at hok
  simp only [Bool.and_eq_true, List.all_eq_true] at hok
  obtain ⟨⟨⟨⟨h1, h2⟩, h3⟩, h4⟩, h5⟩ := hok
  have hY : YieldsIf P ops (fun w => Sat w Hs) o v a := .inl ⟨by simp [Region.wanted, hg], fun w hw => hy a w ha hw⟩
  unfold Dr
  refine wpT_first (D := D) hi (Region.noSelect_spec h1) (fun _ _ _ h => h) (fun j hj => by simpa using h4 j (by simpa using hj)) (fun j hj o ho => ?_) fuel listed a w (Region.free_spec hi h2) (fun j hj => ?_) (by simpa using h3) hY (hs.ent hH) ?_
  · have := h5 j hj
    simp only [ho] at this
    obtain ⟨e, he, hb⟩ := Array.any_eq_true'.1 this.2
    simp only [Bool.and_eq_true, Bool.or_eq_true, beq_iff_eq, List.contains_iff_mem] at hb
    exact ⟨e, he, hb.1, hb.2⟩
  · have := h5 j hj
    simp only [bne_iff_ne, ne_eq, Bool.not_eq_true'] at this
    exact ⟨this.1.1, this.1.2⟩
  · rw [hd]
    exact k _ _ (ha.put hn v) hs hx
theorem S.dr_run {o : Oper} {i : Nat} (hi : ops[i]? = some o) (hg : o.guard = none) (h : S n w0 ρ Γ (Ow P (NoPanic Q) o (DrK P ops Q Hs late fuel listed i))) :
    ∀ a w, EnvOk n ρ a → Sat w Γ → Ext w0 w → wpOp P ops (NoPanic Q) i (DrK P ops Q Hs late fuel listed i) a w := by
  intro a w ha hs hx
  unfold wpOp
  simp only [hi, Region.wanted, hg, if_true]
  exact .inl (h a w ha hs hx)
theorem S.dr_1 {i : Nat} {o : Oper} (hr : Region.ready .any ops listed = [i]) (hi : ops[i]? = some o) (hg : o.guard = none) (h : S n w0 ρ Γ (Ow P (NoPanic Q) o (DrK P ops Q Hs late fuel listed i))) : S n w0 ρ Γ (Dr P ops Q Hs late (fuel + 1) listed) := by
  intro a w ha hs hx
  refine ⟨fun e => (by rw [hr] at e; cases e), fun j hj => ?_⟩
  rw [hr] at hj
  obtain rfl := List.mem_singleton.1 hj
  exact S.dr_run hi hg h a w ha hs hx
theorem S.dr_2 {i j : Nat} {o p : Oper} (hr : Region.ready .any ops listed = [i, j]) (hi : ops[i]? = some o) (hg : o.guard = none) (hj : ops[j]? = some p) (hg' : p.guard = none)
    (h1 : S n w0 ρ Γ (Ow P (NoPanic Q) o (DrK P ops Q Hs late fuel listed i))) (h2 : S n w0 ρ Γ (Ow P (NoPanic Q) p (DrK P ops Q Hs late fuel listed j))) : S n w0 ρ Γ (Dr P ops Q Hs late (fuel + 1) listed) := by
  intro a w ha hs hx
  refine ⟨fun e => (by rw [hr] at e; cases e), fun k hk => ?_⟩
  rw [hr] at hk
  simp only [List.mem_cons, List.not_mem_nil, or_false] at hk
  rcases hk with rfl | rfl
  · exact S.dr_run hi hg h1 a w ha hs hx
  · exact S.dr_run hj hg' h2 a w ha hs hx
theorem S.dr_3 {i j l : Nat} {o p q : Oper} (hr : Region.ready .any ops listed = [i, j, l]) (hi : ops[i]? = some o) (hg : o.guard = none) (hj : ops[j]? = some p) (hg' : p.guard = none) (hl : ops[l]? = some q) (hg'' : q.guard = none)
    (h1 : S n w0 ρ Γ (Ow P (NoPanic Q) o (DrK P ops Q Hs late fuel listed i))) (h2 : S n w0 ρ Γ (Ow P (NoPanic Q) p (DrK P ops Q Hs late fuel listed j))) (h3 : S n w0 ρ Γ (Ow P (NoPanic Q) q (DrK P ops Q Hs late fuel listed l))) : S n w0 ρ Γ (Dr P ops Q Hs late (fuel + 1) listed) := by
  intro a w ha hs hx
  refine ⟨fun e => (by rw [hr] at e; cases e), fun k hk => ?_⟩
  rw [hr] at hk
  simp only [List.mem_cons, List.not_mem_nil, or_false] at hk
  rcases hk with rfl | rfl | rfl
  · exact S.dr_run hi hg h1 a w ha hs hx
  · exact S.dr_run hj hg' h2 a w ha hs hx
  · exact S.dr_run hl hg'' h3 a w ha hs hx
/-- Behind an operation that is not late. -/
theorem S.dr_k {i : Nat} (hl : late.contains i = false) (hH : Ent Γ Hs) (h : S n w0 ρ Γ (Dr P ops Q Hs late fuel (listed.setIfInBounds i true))) : S n w0 ρ Γ (DrK P ops Q Hs late fuel listed i) := by
  intro a w ha hs hx
  unfold DrK
  rw [hl, if_neg (by simp)]
  exact ⟨hs.ent hH, h a w ha hs hx⟩
/-- Behind a late one: new cells to be held, if any. -/
theorem S.dr_late {i : Nat} (Hs' : List Assn) (late' : List Nat) (hl : late.contains i = true) (h : S n w0 ρ Γ (Dr P ops Q Hs' late' fuel (listed.setIfInBounds i true))) : S n w0 ρ Γ (DrK P ops Q Hs late fuel listed i) := by
  intro a w ha hs hx
  unfold DrK
  rw [hl, if_pos rfl]
  exact wpAny_of_wpT _ _ _ _ (h a w ha hs hx)
theorem S.dr_done (hr : Region.ready .any ops listed = []) (h : S n w0 ρ Γ (Q .normal)) : S n w0 ρ Γ (Dr P ops Q Hs late fuel listed) := by
  intro a w ha hs hx
  cases fuel with
  | zero => exact ⟨hr, h a w ha hs hx⟩
  | succ fuel => exact ⟨fun _ => h a w ha hs hx, by rw [hr]; simp⟩
theorem S.dr_doneK (hr : Region.ready .any ops listed = []) (h : S n w0 ρ Γ K) : S n w0 ρ Γ (Dr P ops (Exit.then K Q) Hs late fuel listed) := S.dr_done hr h
/-! Guarded operations in a region that draws no order. -/
def wpG (P : Program) (ops : Array Oper) (Q : Exit → Act → World → Prop) : List Oper → Act → World → Prop
  | [], a, w => Q .normal a w
  | o :: rest, a, w => if Region.wanted o (yielded ops a.tmps) then o.wp P a w (wpG P ops Q rest) Q else wpG P ops Q rest (a.put o.dst undef) w
theorem wpG_sound : ∀ (l : List Oper), ∀ a w, wpG P ops Q l a w → wpList P ops Q l a w := by
  intro l
  induction l with
  | nil => intro a w h; exact h
  | cons o l ih =>
    intro a w h
    unfold wpList
    unfold wpG at h
    split
    · rename_i hw
      rw [if_pos hw] at h
      exact .inl (Oper.wp_mono ih h)
    · rename_i hw
      rw [if_neg hw] at h
      exact ih _ _ h
theorem S.regionG {id : Nat} {l : List Oper} (h : S n w0 ρ Γ (wpG P l.toArray Q l)) : S n w0 ρ Γ ((Code.region id l.toArray false).wp P Q) :=
  fun a w ha hs hx => wp_region_lit (wpG_sound l a w (h a w ha hs hx))
theorem S.g_nil (h : S n w0 ρ Γ (Q .normal)) : S n w0 ρ Γ (wpG P ops Q []) := h
theorem S.g_nilK (h : S n w0 ρ Γ K) : S n w0 ρ Γ (wpG P ops (Exit.then K Q) []) := h
theorem S.g_op {o : Oper} {rest : List Oper} (hg : o.guard = none) (h : S n w0 ρ Γ (Ow P Q o (wpG P ops Q rest))) : S n w0 ρ Γ (wpG P ops Q (o :: rest)) := by
  intro a w ha hs hx
  unfold wpG
  rw [if_pos (by simp [Region.wanted, hg])]
  exact h a w ha hs hx
theorem yielded_env {a : Act} (ha : EnvOk n ρ a) {g t : Nat} {b : Bool} (hd : (ops[g]?).bind (·.dst) = some t) (hb : Env.get ρ t = some (.bool b)) : yielded ops a.tmps g = some b := by
  have h := ha.get t _ hb
  unfold yielded
  rw [hd]
  cases ht : a.tmps[t]? with
  | none => simp [Array.getD, undef] at h; rw [Array.getElem?_eq_none_iff] at ht; rw [dif_neg (by omega)] at h; cases h
  | some v =>
    have : a.tmps.getD t undef = v := by simp [Array.getD_eq_getD_getElem?, ht]
    rw [this] at h
    subst h
    simp [ht]
theorem S.g_yes {o : Oper} {rest : List Oper} {g t : Nat} {b want : Bool} (hg : o.guard = some (g, want)) (hd : (ops[g]?).bind (·.dst) = some t) (hb : Env.get ρ t = some (.bool b)) (hw : b = want) (h : S n w0 ρ Γ (Ow P Q o (wpG P ops Q rest))) : S n w0 ρ Γ (wpG P ops Q (o :: rest)) := by
  intro a w ha hs hx
  unfold wpG
  rw [if_pos (by simp [Region.wanted, hg, yielded_env ha hd hb, hw])]
  exact h a w ha hs hx
theorem S.g_no {o : Oper} {rest : List Oper} {g t : Nat} {b want : Bool} (hg : o.guard = some (g, want)) (hd : (ops[g]?).bind (·.dst) = some t) (hb : Env.get ρ t = some (.bool b)) (hw : b = !want) (hds : o.dst = some d) (hn : Nat.blt d n = true)
    (h : S n w0 ((d, undef) :: ρ) Γ (wpG P ops Q rest)) : S n w0 ρ Γ (wpG P ops Q (o :: rest)) := by
  intro a w ha hs hx
  unfold wpG
  rw [if_neg (by simp [Region.wanted, hg, yielded_env ha hd hb, hw])]
  rw [hds]
  exact h _ _ (ha.put hn _) hs hx
theorem q_pickT {ds : Option Tmp} {ty : TypeId} {pos : String} {af : Array Edge} {gd : Option (Nat × Bool)} {c x y : Operand} {v : Value} {b : Bool} (hc : ev ρ c = some (.bool b)) (hb : b = true) (hx : ev ρ x = some v) : Qv P n ρ Γ ⟨ds, .pick c x y, ty, pos, af, gd⟩ v := fun a w ha _ => by
  subst hb
  simp [execOp, ha.ev hc, ha.ev hx, asBool]
theorem q_pickF {ds : Option Tmp} {ty : TypeId} {pos : String} {af : Array Edge} {gd : Option (Nat × Bool)} {c x y : Operand} {v : Value} {b : Bool} (hc : ev ρ c = some (.bool b)) (hb : b = false) (hy : ev ρ y = some v) : Qv P n ρ Γ ⟨ds, .pick c x y, ty, pos, af, gd⟩ v := fun a w ha _ => by
  subst hb
  simp [execOp, ha.ev hc, ha.ev hy, asBool]
/-! Guarded operations in a drawn region. -/
theorem S.dr_takeY {o : Oper} {v : Value} {g t : Nat} {b want : Bool} (i : Nat) (D : List Nat) (hi : ops[i]? = some o) (hok : takeOk ops listed i late D = true) (hg : o.guard = some (g, want)) (hgd : (ops[g]?).bind (·.dst) = some t) (hb : Env.get ρ t = some (.bool b)) (hw : b = want) (hd : o.dst = some d) (hn : Nat.blt d n = true) (hy : Qv P n ρ Hs o v) (hH : Ent Γ Hs)
    (k : S n w0 ((d, v) :: ρ) Γ (Dr P ops Q Hs late fuel (listed.setIfInBounds i true))) : S n w0 ρ Γ (Dr P ops Q Hs late (fuel + 1) listed) := by
  intro a w ha hs hx
  unfold takeOk at hok
  simp only [Bool.and_eq_true, List.all_eq_true] at hok
  obtain ⟨⟨⟨⟨h1, h2⟩, h3⟩, h4⟩, h5⟩ := hok
  have hY : YieldsIf P ops (fun w => Sat w Hs) o v a := .inl ⟨by simp [Region.wanted, hg, yielded_env ha hgd hb, hw], fun w hw => hy a w ha hw⟩
  unfold Dr
  refine wpT_first (D := D) hi (Region.noSelect_spec h1) (fun _ _ _ h => h) (fun j hj => by simpa using h4 j (by simpa using hj)) (fun j hj o ho => ?_) fuel listed a w (Region.free_spec hi h2) (fun j hj => ?_) (by simpa using h3) hY (hs.ent hH) ?_
  · have := h5 j hj
    simp only [ho] at this
    obtain ⟨e, he, hb⟩ := Array.any_eq_true'.1 this.2
    simp only [Bool.and_eq_true, Bool.or_eq_true, beq_iff_eq, List.contains_iff_mem] at hb
    exact ⟨e, he, hb.1, hb.2⟩
  · have := h5 j hj
    simp only [bne_iff_ne, ne_eq, Bool.not_eq_true'] at this
    exact ⟨this.1.1, this.1.2⟩
  · rw [hd]
    exact k _ _ (ha.put hn v) hs hx
theorem S.dr_takeN {o : Oper} {g t : Nat} {b want : Bool} (i : Nat) (D : List Nat) (hi : ops[i]? = some o) (hok : takeOk ops listed i late D = true) (hg : o.guard = some (g, want)) (hgd : (ops[g]?).bind (·.dst) = some t) (hb : Env.get ρ t = some (.bool b)) (hw : b = !want) (hd : o.dst = some d) (hn : Nat.blt d n = true) (hH : Ent Γ Hs)
    (k : S n w0 ((d, undef) :: ρ) Γ (Dr P ops Q Hs late fuel (listed.setIfInBounds i true))) : S n w0 ρ Γ (Dr P ops Q Hs late (fuel + 1) listed) := by
  intro a w ha hs hx
  unfold takeOk at hok
  simp only [Bool.and_eq_true, List.all_eq_true] at hok
  obtain ⟨⟨⟨⟨h1, h2⟩, h3⟩, h4⟩, h5⟩ := hok
  have hY : YieldsIf P ops (fun w => Sat w Hs) o undef a := .inr ⟨by simp [Region.wanted, hg, yielded_env ha hgd hb, hw], rfl⟩
  unfold Dr
  refine wpT_first (D := D) hi (Region.noSelect_spec h1) (fun _ _ _ h => h) (fun j hj => by simpa using h4 j (by simpa using hj)) (fun j hj o ho => ?_) fuel listed a w (Region.free_spec hi h2) (fun j hj => ?_) (by simpa using h3) hY (hs.ent hH) ?_
  · have := h5 j hj
    simp only [ho] at this
    obtain ⟨e, he, hb⟩ := Array.any_eq_true'.1 this.2
    simp only [Bool.and_eq_true, Bool.or_eq_true, beq_iff_eq, List.contains_iff_mem] at hb
    exact ⟨e, he, hb.1, hb.2⟩
  · have := h5 j hj
    simp only [bne_iff_ne, ne_eq, Bool.not_eq_true'] at this
    exact ⟨this.1.1, this.1.2⟩
  · rw [hd]
    exact k _ _ (ha.put hn _) hs hx
theorem S.dr_1Y {i g t : Nat} {b want : Bool} {o : Oper} (hr : Region.ready .any ops listed = [i]) (hi : ops[i]? = some o) (hg : o.guard = some (g, want)) (hgd : (ops[g]?).bind (·.dst) = some t) (hb : Env.get ρ t = some (.bool b)) (hw : b = want) (h : S n w0 ρ Γ (Ow P (NoPanic Q) o (DrK P ops Q Hs late fuel listed i))) : S n w0 ρ Γ (Dr P ops Q Hs late (fuel + 1) listed) := by
  intro a w ha hs hx
  refine ⟨fun e => (by rw [hr] at e; cases e), fun j hj => ?_⟩
  rw [hr] at hj
  obtain rfl := List.mem_singleton.1 hj
  unfold wpOp
  simp only [hi]
  rw [if_pos (by simp [Region.wanted, hg, yielded_env ha hgd hb, hw])]
  exact .inl (h a w ha hs hx)
/-! Cuts. -/
def Cut {md : Bool} (n : Nat) (w0 : WM md) (I : Env → List Assn → Prop) : Act → World → Prop := fun a w => ∃ ρ Γ, I ρ Γ ∧ EnvOk n ρ a ∧ Sat w Γ ∧ Ext w0 w
theorem S.cut {x : Code} (I : Env → List Assn → Prop) (h : S n w0 ρ Γ (x.wp P (Exit.then (Cut n w0 I) Q))) (k : ∀ ρ Γ, I ρ Γ → S n w0 ρ Γ K) : S n w0 ρ Γ (x.wp P (Exit.then K Q)) := by
  intro a w ha hs hx
  refine Code.wp_mono (fun e a w hq => ?_) (h a w ha hs hx)
  cases e with
  | normal => obtain ⟨ρ, Γ, hI, h1, h2, h3⟩ := hq; exact k ρ Γ hI a w h1 h2 h3
  | _ => exact hq
theorem S.meet {I : Env → List Assn → Prop} {ρ' : Env} {Γ' : List Assn} (hI : I ρ' Γ') (hρ : EnvSub ρ' ρ) (hΓ : Ent Γ Γ') : S n w0 ρ Γ (Cut n w0 I) := fun _ _ ha hs hx => ⟨ρ', Γ', hI, ha.sub hρ, hs.ent hΓ, hx⟩
theorem S.noGoto_r (h : S n w0 ρ Γ (Q .ret)) : S n w0 ρ Γ (Exit.noGoto Q .ret) := h
theorem S.noGoto_n (h : S n w0 ρ Γ (Q .normal)) : S n w0 ρ Γ (Exit.noGoto Q .normal) := h
theorem S.noGoto_x {i : Nat} (h : S n w0 ρ Γ (Q (.exit i))) : S n w0 ρ Γ (Exit.noGoto Q (.exit i)) := h
end
end Go.Proofs.YtbhnbnecaejjiaaDoor
