/- The document's shuffle: Unify, Repack. -/
import Derived.Test.YtegjmmocnffpiaaDoorMH4
/- Rows put together, jobs put ahead: the moves lead there one by one; nobody loses a node; no more rows are used. Of no program. -/
namespace Go.Proofs.YtegjmmocnffpiaaDoor
open Go.RowKit
set_option maxRecDepth 20000
/-- Moves, one by one, each of which can be. -/
def Mvs (m : Mx) : List Mv → Mx → Prop
  | [], m' => m' = m
  | x :: xs, m' => (moveR m x.1 x.2.2).1 = some x ∧ Mvs (moveR m x.1 x.2.2).2 xs m'
theorem go_append {m m1 m2 : Mx} {xs ys : List Mv} (h : Mvs m xs m1) (h2 : Mvs m1 ys m2) : Mvs m (xs ++ ys) m2 := by
  induction xs generalizing m with
  | nil => rw [show m1 = m from h] at h2; exact h2
  | cons x xs ih => exact ⟨h.1, ih h.2⟩
theorem go_one {m m' : Mx} {j : Nat} {z : Int} {x : Mv} (h : moveR m j z = (some x, m')) : Mvs m [x] m' := by
  obtain ⟨y, _, _, rfl, _⟩ := moveR_some h
  refine ⟨by rw [h], ?_⟩
  show m' = _
  rw [h]
theorem runUp_go {m : Mx} {z : Int} {ids : List Nat} : ∀ {q : Nat} {a : List Mv × Mx}, runUp m z ids q = some a → Mvs m a.1 a.2
  | 0, a, h => by
    simp only [runUp, Option.some.injEq] at h
    subst h
    rfl
  | q + 1, a, h => by
    rw [runUp] at h
    cases hr : runUp m z ids q with
    | none => rw [hr] at h; cases h
    | some b =>
      rw [hr] at h
      simp only at h
      cases hv : moveR b.2 (ids.getD q 0) z with
      | mk x m' =>
        rw [hv] at h
        cases x with
        | none => cases h
        | some x =>
          simp only [Option.some.injEq] at h
          subst h
          exact go_append (runUp_go hr) (go_one hv)
theorem allR_go (m : Mx) (f : Nat) (z : Int) : Mvs m (allR m f z).1 (allR m f z).2 := by
  unfold allR
  cases h : runUp m z (rowIds m f) (rowIds m f).length with
  | none => rfl
  | some a => exact runUp_go h
theorem uniIn_go {m0 : Mx} {i : Nat} {a : Mx × List Mv} (h : Mvs m0 a.2 a.1) : ∀ q, Mvs m0 (uniIn i a q).2 (uniIn i a q).1
  | 0 => h
  | q + 1 => go_append (uniIn_go h q) (allR_go _ _ _)
theorem uniUp_go (m : Mx) : ∀ i, Mvs m (uniUp m i).2 (uniUp m i).1
  | 0 => rfl
  | i + 1 => uniIn_go (uniUp_go m i) _
theorem unify_go (m : Mx) : Mvs m (unifyR m).2 (unifyR m).1 := uniUp_go m _
theorem repRow_go {m0 : Mx} {j : Nat} {ids : List Nat} {a : Mx × List Mv} (h : Mvs m0 a.2 a.1) : ∀ q, Mvs m0 (repRow j ids a q).2 (repRow j ids a q).1
  | 0 => h
  | q + 1 => by
    have ih := repRow_go (ids := ids) h q (j := j)
    rw [repRow]
    cases ht : repTry (repRow j ids a q).1 (ids.getD q 0) j with
    | none => exact ih
    | some r =>
      obtain ⟨i, _, hv, _⟩ := repTry_first ht
      exact go_append ih (go_one hv)
theorem repUp_go (m : Mx) : ∀ k, Mvs m (repUp m k).2 (repUp m k).1
  | 0 => rfl
  | k + 1 => repRow_go (repUp_go m k) _
theorem repack_go (m : Mx) : Mvs m (repackR m).2 (repackR m).1 := repUp_go m _
/-! Nobody loses a node. -/
abbrev idNs (x : Jb) : Nat × Bs := (x.id, x.ns)
structure Keep (m m' : Mx) : Prop where
  ok : MxOk m'
  R : m'.R = m.R
  N : m'.N = m.N
  up : m'.up = m.up
  js : m'.js.map idNs = m.js.map idNs
theorem Keep.refl {m : Mx} (h : MxOk m) : Keep m m := ⟨h, rfl, rfl, rfl, rfl⟩
theorem Keep.trans {a b c : Mx} (h : Keep a b) (h2 : Keep b c) : Keep a c := ⟨h2.ok, h2.R.trans h.R, h2.N.trans h.N, h2.up.trans h.up, h2.js.trans h.js⟩
theorem reRow_keep (js : List Jb) (j t : Nat) : (reRow js j t).map idNs = js.map idNs := by
  rw [reRow, List.map_map]
  refine List.map_congr_left fun x _ => ?_
  show idNs (if x.id = j then _ else x) = _
  split <;> rfl
theorem Keep.move {m : Mx} (hm : MxOk m) (j : Nat) (z : Int) : Keep m (moveR m j z).2 := by
  obtain ⟨h1, h2, h3⟩ := moveR_N m j z
  refine ⟨moveR_ok hm j z, h1, h2, h3, ?_⟩
  cases hv : moveR m j z with
  | mk x m' =>
    cases x with
    | none => rw [(moveR_none hv).1]
    | some x =>
      obtain ⟨y, _, _, _, e⟩ := moveR_some hv
      rw [e]
      exact reRow_keep _ _ _
theorem Keep.go {xs : List Mv} : ∀ {m m' : Mx}, MxOk m → Mvs m xs m' → Keep m m' := by
  induction xs with
  | nil => intro m m' hm h; rw [show m' = m from h]; exact .refl hm
  | cons x xs ih => intro m m' hm h; exact (Keep.move hm x.1 x.2.2).trans (ih (moveR_ok hm _ _) h.2)
theorem Keep.unify {m : Mx} (hm : MxOk m) : Keep m (unifyR m).1 := Keep.go hm (unify_go m)
theorem Keep.repack {m : Mx} (hm : MxOk m) : Keep m (repackR m).1 := Keep.go hm (repack_go m)
theorem look_keep {js js' : List Jb} (h : js'.map idNs = js.map idNs) (j : Nat) : (look js' j).map idNs = (look js j).map idNs := by
  induction js generalizing js' with
  | nil => rw [List.map_eq_nil_iff.1 h]
  | cons x js ih =>
    cases js' with
    | nil => cases h
    | cons y js' =>
      rw [List.map_cons, List.map_cons, List.cons.injEq] at h
      obtain ⟨h1, h2⟩ := h
      have h3 : y.id = x.id := congrArg Prod.fst h1
      have ih := ih h2
      unfold look at ih ⊢
      rw [List.find?_cons, List.find?_cons, h3]
      by_cases e : x.id = j
      · simp only [e, decide_true, Option.map_some]
        exact congrArg some h1
      · simp only [e, decide_false]
        exact ih
theorem Keep.of_ {m m' : Mx} (h : Keep m m') (j : Nat) : (ofR m' j).2 = (ofR m j).2 := by
  have h1 := look_keep h.js j
  unfold ofR
  cases e1 : look m.js j with
  | none =>
    rw [e1] at h1
    cases e2 : look m'.js j with
    | none => rfl
    | some y => rw [e2] at h1; cases h1
  | some x =>
    rw [e1] at h1
    cases e2 : look m'.js j with
    | none => rw [e2] at h1; cases h1
    | some y =>
      rw [e2] at h1
      simp only [Option.map_some, Option.some.injEq] at h1
      have h2 : y.ns = x.ns := congrArg Prod.snd h1
      show (lst y.ns, true) = (lst x.ns, true)
      rw [h2]
theorem Keep.ids {m m' : Mx} (h : Keep m m') : m'.js.map (·.id) = m.js.map (·.id) := by
  have := congrArg (List.map Prod.fst) h.js
  simpa [List.map_map, Function.comp_def] using this
/-! How many rows are used. -/
def cnt (p : Nat → Bool) : Nat → Nat
  | 0 => 0
  | r + 1 => if p r = true then cnt p r + 1 else cnt p r
theorem cnt_le {p q : Nat → Bool} : ∀ {n : Nat}, (∀ r, r < n → p r = true → q r = true) → cnt p n ≤ cnt q n
  | 0, _ => Nat.le_refl _
  | n + 1, h => by
    have ih := cnt_le (n := n) fun r hr => h r (by omega)
    have h9 := h n (by omega)
    rw [cnt, cnt]
    by_cases e : p n = true
    · rw [if_pos e, if_pos (h9 e)]; omega
    · rw [if_neg e]; split <;> omega
theorem cnt_but (p : Nat → Bool) (i : Nat) : ∀ n, cnt p n ≤ cnt (fun r => p r && decide (r ≠ i)) n + 1
  | 0 => by simp [cnt]
  | n + 1 => by
    have ih := cnt_but p i n
    rw [cnt, cnt]
    by_cases e : n = i
    · have h1 : cnt p n ≤ cnt (fun r => p r && decide (r ≠ i)) n := cnt_le fun r hr hp => by
        have : r ≠ i := by omega
        simp [hp, this]
      have h2 : ¬ ((p n && decide (n ≠ i)) = true) := by simp [e]
      rw [if_neg h2]
      split <;> omega
    · have h2 : (p n && decide (n ≠ i)) = p n := by simp [e]
      rw [h2]
      split <;> omega
theorem cnt_less {p : Nat → Bool} {i : Nat} (h : p i = true) : ∀ {n : Nat}, i < n → cnt (fun r => p r && decide (r ≠ i)) n + 1 ≤ cnt p n
  | 0, hn => by omega
  | n + 1, hn => by
    rw [cnt, cnt]
    by_cases e : n = i
    · have h1 : cnt (fun r => p r && decide (r ≠ i)) n ≤ cnt p n := cnt_le fun r hr hp => by
        simp only [Bool.and_eq_true] at hp
        exact hp.1
      have h2 : ¬ ((p n && decide (n ≠ i)) = true) := by simp [e]
      rw [if_neg h2, if_pos (by rw [e]; exact h)]
      omega
    · have ih := cnt_less h (n := n) (by omega)
      have h2 : (p n && decide (n ≠ i)) = p n := by simp [e]
      rw [h2]
      split <;> omega
/-- One that is used no more for one that is. -/
theorem cnt_swap {p q : Nat → Bool} {i j n : Nat} (h : ∀ r, r < n → r ≠ i → p r = true → q r = true) (hp : p j = false) (hq : q j = true) (hj : j < n) : cnt p n ≤ cnt q n := by
  have h1 := cnt_but p i n
  have h2 := cnt_less hq hj
  have h3 : cnt (fun r => p r && decide (r ≠ i)) n ≤ cnt (fun r => q r && decide (r ≠ j)) n := cnt_le fun r hr hb => by
    simp only [Bool.and_eq_true, decide_eq_true_eq] at hb ⊢
    refine ⟨h r hr hb.2 hb.1, fun e => ?_⟩
    rw [e, hp] at hb
    exact absurd hb.1 (by decide)
  omega
def useB (m : Mx) (r : Nat) : Bool := decide (0 < (rowIds m r).length)
theorem usedUp_cnt (m : Mx) : ∀ r, usedUp m r = cnt (useB m) r
  | 0 => rfl
  | r + 1 => by
    rw [usedUp, cnt, usedUp_cnt m r]
    by_cases e : 0 < (rowIds m r).length
    · rw [if_pos e, if_pos (show useB m r = true from decide_eq_true e)]
    · rw [if_neg e, if_neg (show ¬ useB m r = true by simpa [useB] using e)]
theorem useB_iff {m : Mx} (hm : MxOk m) {r : Nat} (hr : r < m.R) : useB m r = true ↔ ∃ x ∈ m.js, x.row = r := by
  rw [useB, decide_eq_true_eq]
  constructor
  · intro h
    cases e : rowIds m r with
    | nil => rw [e] at h; simp at h
    | cons a l =>
      obtain ⟨x, h1, h2, _⟩ := (mem_rowIds hm hr).1 (show a ∈ rowIds m r by rw [e]; exact List.mem_cons_self ..)
      exact ⟨x, h1, h2⟩
  · rintro ⟨x, h1, h2⟩
    have := (mem_rowIds hm hr).2 ⟨x, h1, h2, rfl⟩
    cases e : rowIds m r with
    | nil => rw [e] at this; cases this
    | cons a l => simp
theorem useB_tk {m : Mx} (hm : MxOk m) {r : Nat} (hr : r < m.R) : useB m r = true ↔ tk m.js r ≠ 0#16 := by
  have h := rowIds_nil hm hr
  rw [useB, decide_eq_true_eq]
  constructor
  · intro h1 e
    rw [h.2 e] at h1
    simp at h1
  · intro h1
    cases e : rowIds m r with
    | nil => exact absurd (h.1 e) h1
    | cons a l => simp
theorem allR_used {m : Mx} (hm : MxOk m) {f t : Nat} (hf : f < m.R) (ht : t < m.R) (hft : f ≠ t) : cnt (useB (allR m f t).2) m.R ≤ cnt (useB m) m.R := by
  by_cases hd : tk m.js f &&& tk m.js t = 0#16
  · by_cases h0 : tk m.js f = 0#16
    · rw [allR_nil hm hf h0]; exact Nat.le_refl _
    · obtain ⟨hok, hR⟩ := allR_ok hm (f := f) (t := t)
      have hy := allR_yes hm hf ht hft hd
      refine cnt_swap (i := t) (j := f) (fun r hr hne hp => ?_) ?_ ((useB_tk hm hf).2 h0) hf
      · have h1 := (useB_tk hok (by rw [hR]; exact hr)).1 hp
        rw [hy, if_neg hne] at h1
        by_cases e : r = f
        · rw [if_pos e] at h1; exact absurd rfl h1
        · rw [if_neg e] at h1; exact (useB_tk hm hr).2 h1
      · cases hb : useB (allR m f t).2 f with
        | false => rfl
        | true =>
          have h1 := (useB_tk hok (by rw [hR]; exact hf)).1 hb
          rw [hy, if_neg hft, if_pos rfl] at h1
          exact absurd rfl h1
  · rw [allR_no hm hf hft hd]; exact Nat.le_refl _
theorem uniIn_used {m : Mx} (hm : MxOk m) {i : Nat} (xs : List Mv) : ∀ q, i + 1 + q ≤ m.R → MxOk (uniIn i (m, xs) q).1 ∧ (uniIn i (m, xs) q).1.R = m.R ∧ cnt (useB (uniIn i (m, xs) q).1) m.R ≤ cnt (useB m) m.R
  | 0, _ => ⟨hm, rfl, Nat.le_refl _⟩
  | q + 1, hq => by
    obtain ⟨h1, h2, h3⟩ := uniIn_used (i := i) hm xs q (by omega)
    obtain ⟨h4, h5⟩ := allR_ok h1 (f := i + 1 + q) (t := i)
    have h6 := allR_used h1 (f := i + 1 + q) (t := i) (by omega) (by omega) (by omega)
    rw [h2] at h6
    exact ⟨h4, h5.trans h2, Nat.le_trans h6 h3⟩
theorem uniUp_used {m : Mx} (hm : MxOk m) : ∀ k, k ≤ m.R → MxOk (uniUp m k).1 ∧ (uniUp m k).1.R = m.R ∧ cnt (useB (uniUp m k).1) m.R ≤ cnt (useB m) m.R
  | 0, _ => ⟨hm, rfl, Nat.le_refl _⟩
  | k + 1, hk => by
    obtain ⟨h1, h2, h3⟩ := uniUp_used hm k (by omega)
    obtain ⟨h4, h5, h6⟩ := uniIn_used h1 (i := k) (uniUp m k).2 (m.R - (k + 1)) (by omega)
    rw [h2] at h6
    exact ⟨h4, h5.trans h2, Nat.le_trans h6 h3⟩
theorem unify_used {m : Mx} (hm : MxOk m) : usedUp (unifyR m).1 (unifyR m).1.R ≤ usedUp m m.R := by
  obtain ⟨h1, h2, h3⟩ := uniUp_used hm m.R (Nat.le_refl _)
  rw [usedUp_cnt, usedUp_cnt, show (unifyR m).1.R = m.R from h2]
  exact h3
/-- While row j's jobs are put ahead: e is the first row ahead that nobody had. -/
structure RepU (m0 m : Mx) (j e : Nat) (ids : List Nat) (p : Nat) : Prop where
  ok : MxOk m
  R : m.R = m0.R
  was : ∀ x ∈ m.js, ∃ x0 ∈ m0.js, x0.id = x.id ∧ x0.ns = x.ns ∧ (x.row = x0.row ∨ (x0.row = j ∧ x.row < j ∧ x.row ≤ e))
  gone : e < j → ∀ x ∈ m.js, x.id ∈ ids.take p → x.row ≤ e
  left : ∀ x ∈ m.js, x.id ∈ ids.drop p → x.row = j
theorem RepU.step {m0 m : Mx} {j e : Nat} {ids : List Nat} {p : Nat} (h0 : MxOk m0) (he : e < j → ∀ x ∈ m0.js, x.row ≠ e) (h : RepU m0 m j e ids p) (hp : p < ids.length) (hnd : ids.Nodup) (hin : ∃ x ∈ m.js, x.id = ids[p]) :
    (repTry m ids[p] j = none → RepU m0 m j e ids (p + 1)) ∧ ∀ r, repTry m ids[p] j = some r → RepU m0 r.2 j e ids (p + 1) := by
  have htake : ∀ y, y ∈ ids.take (p + 1) → y = ids[p] ∨ y ∈ ids.take p := fun y hy => by
    rw [List.take_add_one, List.getElem?_eq_getElem hp, List.mem_append] at hy
    rcases hy with hy | hy
    · exact .inr hy
    · left; simpa using hy
  have hdrop : ids.drop p = ids[p] :: ids.drop (p + 1) := List.drop_eq_getElem_cons hp
  -- whoever is next may go to e
  have hcan : e < j → ∀ y ∈ m.js, y.id = ids[p] → (moveR m y.id e).1 ≠ none := fun hej y hy hyi hn => by
    have hyj : y.row = j := h.left y hy (by rw [hdrop, hyi]; exact List.mem_cons_self ..)
    have h9 := move_no h.ok hy (i := e) (by omega) hn
    obtain ⟨k, k1, k2⟩ := meet_iff.1 h9
    obtain ⟨x, x1, x2, x3⟩ := (tk_bit _ _ _).1 k1
    obtain ⟨x0, a1, a2, a3, a4⟩ := h.was x x1
    obtain ⟨y0, b1, b2, b3, b4⟩ := h.was y hy
    have a5 : x0.row = j := by
      rcases a4 with a4 | a4
      · exact absurd (a4.symm.trans x2) (he hej x0 a1)
      · exact a4.1
    have b5 : y0.row = j := by
      rcases b4 with b4 | b4
      · exact b4.symm.trans hyj
      · exact b4.1
    have hne : x0.id ≠ y0.id := fun e9 => by
      have e8 : x.id = y.id := by rw [← a2, ← b2, e9]
      have e7 := id_inj h.ok.srt x1 hy e8
      rw [e7] at x2
      omega
    exact h0.dis x0 a1 y0 b1 hne (a5.trans b5.symm) k (by rw [a3]; exact x3) (by rw [b3]; exact k2)
  constructor
  · intro ht
    refine ⟨h.ok, h.R, h.was, fun hej x hx hi => ?_, fun x hx hi => h.left x hx (by rw [hdrop]; exact List.mem_cons_of_mem _ hi)⟩
    rcases htake _ hi with e9 | e9
    · exact absurd (by rw [e9]; exact repTry_none ht e hej) (hcan hej x hx e9)
    · exact h.gone hej x hx e9
  · intro r ht
    obtain ⟨i, hi, hv, hno⟩ := repTry_first ht
    obtain ⟨y, hl, _, _, hm'⟩ := moveR_some hv
    obtain ⟨hy, hyi⟩ := look_some hl
    have hyj : y.row = j := h.left y hy (by rw [hdrop, hyi]; exact List.mem_cons_self ..)
    have hie : e < j → i ≤ e := fun hej => by
      refine Classical.byContradiction fun hc => ?_
      exact hcan hej y hy hyi (by rw [hyi]; exact hno e (by omega))
    have hok' := moveR_ok h.ok ids[p] i
    rw [hv] at hok'
    have hok' : MxOk r.2 := hok'
    have hjs : r.2.js = reRow m.js y.id i := by rw [hm', hyi, Int.toNat_natCast]
    have hR : r.2.R = m.R := by rw [hm']
    have hmem : ∀ x, x ∈ r.2.js ↔ x = ⟨y.id, i, y.ns⟩ ∨ (x ∈ m.js ∧ x.id ≠ y.id) := fun x => by rw [hjs]; exact mem_reRow h.ok.srt hy i x
    refine ⟨hok', hR.trans h.R, fun x hx => ?_, fun hej x hx hxi => ?_, fun x hx hxi => ?_⟩
    · rcases (hmem x).1 hx with rfl | ⟨x1, x2⟩
      · obtain ⟨y0, b1, b2, b3, b4⟩ := h.was y hy
        refine ⟨y0, b1, b2, b3, .inr ⟨?_, hi, ?_⟩⟩
        · rcases b4 with b4 | b4
          · exact b4.symm.trans hyj
          · exact b4.1
        · show i ≤ e
          by_cases hej : e < j
          · exact hie hej
          · omega
      · exact h.was x x1
    · rcases (hmem x).1 hx with rfl | ⟨x1, x2⟩
      · exact hie hej
      · rcases htake _ hxi with e9 | e9
        · exact absurd (e9.trans hyi.symm) x2
        · exact h.gone hej x x1 e9
    · rcases (hmem x).1 hx with rfl | ⟨x1, x2⟩
      · exfalso
        have hxi : y.id ∈ ids.drop (p + 1) := hxi
        rw [hyi] at hxi
        obtain ⟨q, hq, e9⟩ := List.getElem_of_mem hxi
        rw [List.getElem_drop] at e9
        have hq' : p + 1 + q < ids.length := by rw [List.length_drop] at hq; omega
        have := List.pairwise_iff_getElem.1 hnd p (p + 1 + q) hp hq' (by omega)
        exact this e9.symm
      · exact h.left x x1 (by rw [hdrop]; exact List.mem_cons_of_mem _ hxi)
theorem repRow_U {m : Mx} {j e : Nat} (hm : MxOk m) (hj : j < m.R) (he : e < j → ∀ x ∈ m.js, x.row ≠ e) (xs : List Mv) : ∀ p, p ≤ (rowIds m j).length → RepU m (repRow j (rowIds m j) (m, xs) p).1 j e (rowIds m j) p
  | 0, _ => ⟨hm, rfl, fun x hx => ⟨x, hx, rfl, rfl, .inl rfl⟩, fun _ x _ h => (by cases h), fun x hx hi => by
      obtain ⟨y, y1, y2, y3⟩ := (mem_rowIds hm hj).1 hi
      rw [← id_inj hm.srt y1 hx y3]
      exact y2⟩
  | p + 1, hp => by
    have h1 := repRow_U hm hj he xs p (by omega)
    have hp' : p < (rowIds m j).length := by omega
    have hg : (rowIds m j).getD p 0 = (rowIds m j)[p] := by simp [List.getD, List.getElem?_eq_getElem hp']
    have hin : ∃ x ∈ (repRow j (rowIds m j) (m, xs) p).1.js, x.id = (rowIds m j)[p] := by
      obtain ⟨y, y1, _, y3⟩ := (mem_rowIds hm hj).1 (List.getElem_mem hp')
      have hk : Mvs m (repRow j (rowIds m j) (m, []) p).2 (repRow j (rowIds m j) (m, []) p).1 := repRow_go (a := (m, [])) rfl p
      have hsame : ∀ q (ys zs : List Mv), (repRow j (rowIds m j) (m, ys) q).1 = (repRow j (rowIds m j) (m, zs) q).1 := by
        intro q
        induction q with
        | zero => intro ys zs; rfl
        | succ q ih =>
          intro ys zs
          rw [repRow, repRow, ih ys zs]
          cases repTry (repRow j (rowIds m j) (m, zs) q).1 ((rowIds m j).getD q 0) j with
          | none => exact ih ys zs
          | some r => rfl
      have h9 := (Keep.go hm hk).ids
      rw [hsame p [] xs] at h9
      have h8 : (rowIds m j)[p] ∈ m.js.map (·.id) := List.mem_map.2 ⟨y, y1, y3⟩
      rw [← h9] at h8
      obtain ⟨x, x1, x2⟩ := List.mem_map.1 h8
      exact ⟨x, x1, x2⟩
    have hs := h1.step hm he hp' (rowIds_nodup hm hj) hin
    rw [repRow, hg]
    cases ht : repTry (repRow j (rowIds m j) (m, xs) p).1 (rowIds m j)[p] j with
    | none => exact hs.1 ht
    | some r => exact hs.2 r ht
theorem repRow_used {m : Mx} {j : Nat} (hm : MxOk m) (hj : j < m.R) (xs : List Mv) : MxOk (repRow j (rowIds m j) (m, xs) (rowIds m j).length).1 ∧ (repRow j (rowIds m j) (m, xs) (rowIds m j).length).1.R = m.R ∧ cnt (useB (repRow j (rowIds m j) (m, xs) (rowIds m j).length).1) m.R ≤ cnt (useB m) m.R := by
  -- the first row ahead that nobody has
  obtain ⟨e, he1, he2, he3⟩ : ∃ e, e ≤ j ∧ (∀ r, r < e → useB m r = true) ∧ (e < j → useB m e = false) := by
    clear xs
    induction j with
    | zero => exact ⟨0, Nat.le_refl _, fun r hr => (by omega), fun h => (by omega)⟩
    | succ j ih =>
      obtain ⟨e, h1, h2, h3⟩ := ih (by omega)
      by_cases hej : e < j
      · exact ⟨e, by omega, h2, fun _ => h3 hej⟩
      · obtain rfl : e = j := by omega
        cases hb : useB m e with
        | false => exact ⟨e, by omega, h2, fun _ => hb⟩
        | true => exact ⟨e + 1, by omega, fun r hr => by
            by_cases er : r = e
            · rw [er]; exact hb
            · exact h2 r (by omega), fun h => (by omega)⟩
  have hemp : e < j → ∀ x ∈ m.js, x.row ≠ e := fun hej x hx hr => by
    have := (useB_iff hm (show e < m.R by omega)).2 ⟨x, hx, hr⟩
    rw [he3 hej] at this
    cases this
  have hU := repRow_U hm hj hemp xs _ (Nat.le_refl _)
  refine ⟨hU.ok, hU.R, ?_⟩
  have hpt : ∀ r, r < m.R → (r ≠ e ∨ ¬ e < j) → useB (repRow j (rowIds m j) (m, xs) (rowIds m j).length).1 r = true → useB m r = true := fun r hr hre hb => by
    obtain ⟨x, x1, x2⟩ := (useB_iff hU.ok (by rw [hU.R]; exact hr)).1 hb
    obtain ⟨x0, a1, _, _, a4⟩ := hU.was x x1
    rcases a4 with a4 | ⟨_, a5, a6⟩
    · exact (useB_iff hm hr).2 ⟨x0, a1, a4.symm.trans x2⟩
    · exact he2 r (by omega)
  by_cases hej : e < j
  · by_cases h0 : useB m j = true
    · refine cnt_swap (i := e) (j := j) (fun r hr hne hb => hpt r hr (.inl hne) hb) ?_ h0 hj
      cases hb : useB (repRow j (rowIds m j) (m, xs) (rowIds m j).length).1 j with
      | false => rfl
      | true =>
        obtain ⟨x, x1, x2⟩ := (useB_iff hU.ok (by rw [hU.R]; exact hj)).1 hb
        obtain ⟨x0, a1, a2, _, a4⟩ := hU.was x x1
        rcases a4 with a4 | ⟨_, a5, _⟩
        · have h9 : x.id ∈ rowIds m j := by rw [← a2]; exact (mem_rowIds hm hj).2 ⟨x0, a1, a4.symm.trans x2, rfl⟩
          have := hU.gone hej x x1 (by rw [List.take_length]; exact h9)
          omega
        · omega
    · have h1 : (rowIds m j).length = 0 := by
        have h2 : ¬ 0 < (rowIds m j).length := by simpa [useB] using h0
        omega
      rw [h1]
      exact Nat.le_refl _
  · exact cnt_le fun r hr hb => hpt r hr (.inr hej) hb
theorem repUp_used {m : Mx} (hm : MxOk m) : ∀ k, k + 1 ≤ m.R → MxOk (repUp m k).1 ∧ (repUp m k).1.R = m.R ∧ cnt (useB (repUp m k).1) m.R ≤ cnt (useB m) m.R
  | 0, _ => ⟨hm, rfl, Nat.le_refl _⟩
  | k + 1, hk => by
    obtain ⟨h1, h2, h3⟩ := repUp_used hm k (by omega)
    obtain ⟨h4, h5, h6⟩ := repRow_used (j := k + 1) h1 (by omega) (repUp m k).2
    rw [h2] at h6
    exact ⟨h4, h5.trans h2, Nat.le_trans h6 h3⟩
theorem repack_used {m : Mx} (hm : MxOk m) : usedUp (repackR m).1 (repackR m).1.R ≤ usedUp m m.R := by
  have hR := hm.R1
  obtain ⟨h1, h2, h3⟩ := repUp_used hm (m.R - 1) (by omega)
  rw [usedUp_cnt, usedUp_cnt, show (repackR m).1.R = m.R from h2]
  exact h3
end Go.Proofs.YtegjmmocnffpiaaDoor
/- The laws of shuffle: awake. -/
namespace Go.Proofs.YtegjmmocnffpiaaDoor
open Go.RowKit
set_option maxRecDepth 20000
def aw1 : Mx := (putR (mx0 3 3) 1 0 [0, 1]).2
def aw2 : Mx := (putR aw1 2 1 [2]).2
def aw3 : Mx := (putR aw2 3 2 [0]).2
def aw4 : Mx := (unifyR aw3).1
theorem awake13 : (unifyR aw3).2 = [(2, 1, 0), (3, 2, 1)] ∧ atR aw4 0 2 = 2 ∧ atR aw4 1 0 = 3 ∧ usedUp aw4 aw4.R = 2 ∧ atR aw3 1 2 = 2 := ⟨by kernel_rfl, by kernel_rfl, by kernel_rfl, by kernel_rfl, by kernel_rfl⟩
theorem awake_S {W : World} (hW : TabW W) : Spec Tryd.prog 13 [] [old W] fun Γ v Θ => v = .bool true ∧ Θ = old W :: Γ := by
  refine Spec.of_body Tryd.func13 rfl Tryd.ntmps13 rfl ?_
  intro w0 Γ
  obtain ⟨f1, f2, f3, f4, f5⟩ := awake13
  show S _ w0 [] (old W :: Γ) _
  refine S.seq fun K1 hK1 => ?_
  refine S.region rfl ?_
  refine S.op (S.q (q_assign rfl) rfl rfl ?_)
  first | with_reducible refine S.nilK ?_ | refine S.nil ?_
  refine hK1 _ _ ?_
  refine S.seq fun K2 hK2 => ?_
  refine S.region rfl ?_
  refine S.op (S.call Tryd.en23 (vs := [_, _]) ⟨rfl, rfl, trivial⟩ (New_S 3 3 (by omega) (by omega) (by omega) (by omega)) rfl ?_)
  rintro v Θ ⟨b, rfl, rfl⟩
  refine S.op (S.q (q_move rfl) rfl rfl ?_)
  refine S.op (S.q (q_extract rfl rfl) rfl rfl ?_)
  refine S.op (S.q (q_extract rfl rfl) rfl rfl ?_)
  refine S.op (S.q (q_assign rfl) rfl rfl ?_)
  refine S.op (S.q (q_assign rfl) rfl rfl ?_)
  first | with_reducible refine S.nilK ?_ | refine S.nil ?_
  refine hK2 _ _ ?_
  refine S.seq fun K3 hK3 => ?_
  refine S.region rfl ?_
  refine S.op (S.q (q_move rfl) rfl rfl ?_)
  refine S.op (S.buildSlice (pvs := [(_, _), (_, _)]) [_, _] Tryd.underlying69 Tryd.inf3 rfl rfl ⟨⟨rfl, rfl⟩, ⟨rfl, rfl⟩, trivial⟩ rfl rfl ?_)
  intro b10
  refine S.op (S.call Tryd.en30 (vs := [_, _, _, _]) ⟨rfl, rfl, rfl, rfl, trivial⟩ (Put_S b (mx0 3 3) 1 0 (blk b10 3 #[.int .i64 0, .int .i64 1]) ⟨some ⟨b10, 0, none⟩, 2, 2⟩ [0, 1] rfl (rdBlk (cs := [.int .i64 0, .int .i64 1]) rfl (by unfold maxLen; omega)) (by omega)) rfl ?_)
  rintro v Θ ⟨rfl, rfl⟩
  rw [show (putR (mx0 3 3) 1 0 [0, 1]).2 = aw1 from rfl]
  first | with_reducible refine S.nilK ?_ | refine S.nil ?_
  refine hK3 _ _ ?_
  refine S.seq fun K4 hK4 => ?_
  refine S.region rfl ?_
  refine S.op (S.q (q_move rfl) rfl rfl ?_)
  refine S.op (S.buildSlice (pvs := [(_, _)]) [_] Tryd.underlying69 Tryd.inf3 rfl rfl ⟨⟨rfl, rfl⟩, trivial⟩ rfl rfl ?_)
  intro b13
  refine S.op (S.call Tryd.en30 (vs := [_, _, _, _]) ⟨rfl, rfl, rfl, rfl, trivial⟩ (Put_S b aw1 2 1 (blk b13 3 #[.int .i64 2]) ⟨some ⟨b13, 0, none⟩, 1, 1⟩ [2] rfl (rdBlk (cs := [.int .i64 2]) rfl (by unfold maxLen; omega)) (by omega)) rfl ?_)
  rintro v Θ ⟨rfl, rfl⟩
  rw [show (putR aw1 2 1 [2]).2 = aw2 from rfl]
  first | with_reducible refine S.nilK ?_ | refine S.nil ?_
  refine hK4 _ _ ?_
  refine S.seq fun K5 hK5 => ?_
  refine S.region rfl ?_
  refine S.op (S.q (q_move rfl) rfl rfl ?_)
  refine S.op (S.buildSlice (pvs := [(_, _)]) [_] Tryd.underlying69 Tryd.inf3 rfl rfl ⟨⟨rfl, rfl⟩, trivial⟩ rfl rfl ?_)
  intro b16
  refine S.op (S.call Tryd.en30 (vs := [_, _, _, _]) ⟨rfl, rfl, rfl, rfl, trivial⟩ (Put_S b aw2 3 2 (blk b16 3 #[.int .i64 0]) ⟨some ⟨b16, 0, none⟩, 1, 1⟩ [0] rfl (rdBlk (cs := [.int .i64 0]) rfl (by unfold maxLen; omega)) (by omega)) rfl ?_)
  rintro v Θ ⟨rfl, rfl⟩
  rw [show (putR aw2 3 2 [0]).2 = aw3 from rfl]
  first | with_reducible refine S.nilK ?_ | refine S.nil ?_
  refine hK5 _ _ ?_
  refine S.seq fun K6 hK6 => ?_
  refine S.region rfl ?_
  refine S.op (S.q (q_move rfl) rfl rfl ?_)
  refine S.op (S.call Tryd.en15 (vs := [_]) ⟨rfl, trivial⟩ (Unify_S b aw3 hW) rfl ?_)
  rintro v Θ ⟨c, sv, rfl, hsv, rfl⟩
  rw [show (unifyR aw3).1 = aw4 from rfl]
  rw [f1] at hsv ⊢
  have hsv2 : sv.n = 2 := hsv
  refine S.ownSome sv (by omega) fun sb so hsa _ _ _ => ?_
  refine S.op (S.q (q_move rfl) rfl rfl ?_)
  refine S.op (S.q (q_extract rfl rfl) rfl rfl ?_)
  refine S.op (S.q (q_extract rfl rfl) rfl rfl ?_)
  refine S.op (S.q (q_assign rfl) rfl rfl ?_)
  refine S.op (S.q (q_assign rfl) rfl rfl ?_)
  first | with_reducible refine S.nilK ?_ | refine S.nil ?_
  refine hK6 _ _ ?_
  refine S.seq fun K7 hK7 => ?_
  refine S.regionG ?_
  refine S.g_op rfl (S.q (q_move rfl) rfl rfl ?_)
  refine S.g_op rfl (S.q (q_len Tryd.underlying46 rfl) rfl rfl ?_)
  refine S.g_op rfl (S.q (q_eq rfl rfl) rfl rfl ?_)
  refine S.g_op rfl (S.q (q_move rfl) rfl rfl ?_)
  refine S.g_yes rfl rfl rfl ((decide_eq_true (by omega))) (S.q (q_move rfl) rfl rfl ?_)
  refine S.g_yes rfl rfl rfl ((decide_eq_true (by omega))) (S.q (q_indexO (0) Tryd.el46 rfl hsa rfl (by omega) (by omega)) rfl rfl ?_)
  refine S.g_yes rfl rfl rfl ((decide_eq_true (by omega))) (S.q (q_loadOwS (sv) (0 * 3) [_, _, _] Tryd.ag107 rfl hsa (by first | rfl | exact Nat.add_assoc _ _ _ | omega) rfl (flat_seg (enc := mvC) (sz := 3) (os := [((2, 1, 0) : Mv), (3, 2, 1)]) (i := 0) (x := (2, 1, 0)) (fun _ => rfl) rfl)) rfl rfl ?_)
  refine S.g_yes rfl rfl rfl ((decide_eq_true (by omega))) (S.q (q_build (pvs := [(_, _), (_, _), (_, _)]) [_, _, _] Tryd.z107 Tryd.p107 ⟨⟨rfl, rfl⟩, ⟨rfl, rfl⟩, ⟨rfl, rfl⟩, trivial⟩ rfl) rfl rfl ?_)
  refine S.g_yes rfl rfl rfl ((decide_eq_true (by omega))) (S.q (q_eqMv (2, 1, 0) (2, 1, 0) (.inl rfl) rfl rfl) rfl rfl ?_)
  refine S.g_op rfl (S.q (q_pickT rfl ((decide_eq_true (by omega))) rfl) rfl rfl ?_)
  refine S.g_op rfl (S.q (q_move rfl) rfl rfl ?_)
  refine S.g_yes rfl rfl rfl ((decide_eq_true rfl)) (S.q (q_move rfl) rfl rfl ?_)
  refine S.g_yes rfl rfl rfl ((decide_eq_true rfl)) (S.call Tryd.en47 (vs := [_, _, _]) ⟨rfl, rfl, rfl, trivial⟩ (At_S c aw4 0 2) rfl ?_)
  rintro v Θ ⟨rfl, rfl⟩
  refine S.g_yes rfl rfl rfl ((decide_eq_true rfl)) (S.q (q_eq rfl rfl) rfl rfl ?_)
  refine S.g_op rfl (S.q (q_pickT rfl ((decide_eq_true rfl)) rfl) rfl rfl ?_)
  refine S.g_op rfl (S.q (q_move rfl) rfl rfl ?_)
  refine S.g_yes rfl rfl rfl ((decide_eq_true (by rw [f2]; rfl))) (S.q (q_move rfl) rfl rfl ?_)
  refine S.g_yes rfl rfl rfl ((decide_eq_true (by rw [f2]; rfl))) (S.call Tryd.en47 (vs := [_, _, _]) ⟨rfl, rfl, rfl, trivial⟩ (At_S c aw4 1 0) rfl ?_)
  rintro v Θ ⟨rfl, rfl⟩
  refine S.g_yes rfl rfl rfl ((decide_eq_true (by rw [f2]; rfl))) (S.q (q_eq rfl rfl) rfl rfl ?_)
  refine S.g_op rfl (S.q (q_pickT rfl ((decide_eq_true (by rw [f2]; rfl))) rfl) rfl rfl ?_)
  refine S.g_op rfl (S.q (q_move rfl) rfl rfl ?_)
  refine S.g_yes rfl rfl rfl ((decide_eq_true (by rw [f3]; rfl))) (S.q (q_move rfl) rfl rfl ?_)
  refine S.g_yes rfl rfl rfl ((decide_eq_true (by rw [f3]; rfl))) (S.call Tryd.en21 (vs := [_]) ⟨rfl, trivial⟩ (Used_S c aw4 hW) rfl ?_)
  rintro v Θ ⟨rfl, rfl⟩
  refine S.g_yes rfl rfl rfl ((decide_eq_true (by rw [f3]; rfl))) (S.q (q_eq rfl rfl) rfl rfl ?_)
  refine S.g_op rfl (S.q (q_pickT rfl ((decide_eq_true (by rw [f3]; rfl))) rfl) rfl rfl ?_)
  refine S.g_op rfl (S.q (q_move rfl) rfl rfl ?_)
  refine S.g_yes rfl rfl rfl ((decide_eq_true (by rw [f4]; rfl))) (S.q (q_move rfl) rfl rfl ?_)
  refine S.g_yes rfl rfl rfl ((decide_eq_true (by rw [f4]; rfl))) (S.call Tryd.en47 (vs := [_, _, _]) ⟨rfl, rfl, rfl, trivial⟩ (At_S b aw3 1 2) rfl ?_)
  rintro v Θ ⟨rfl, rfl⟩
  refine S.g_yes rfl rfl rfl ((decide_eq_true (by rw [f4]; rfl))) (S.q (q_eq rfl rfl) rfl rfl ?_)
  refine S.g_op rfl (S.q (q_pickT rfl ((decide_eq_true (by rw [f4]; rfl))) rfl) rfl rfl ?_)
  refine S.g_op rfl (S.q (q_assign rfl) rfl rfl ?_)
  first | with_reducible refine S.g_nilK ?_ | refine S.g_nil ?_
  refine hK7 _ _ ?_
  refine S.ret ?_
  with_reducible repeat (first | refine S.then_n ?_ | refine S.then_x ?_ | refine S.then_r ?_ | refine S.inBlock_n ?_ | refine S.inBlock_r ?_ | refine S.inBlock_x rfl ?_ | refine S.noGoto_r ?_ | refine S.noGoto_n ?_ | refine S.noGoto_x ?_)
  exact S.fin (rs := [_]) (vs := [_]) Tryd.results13 (⟨rfl, trivial⟩)  (⟨by simp only [resV]; rw [f5]; rfl, rfl⟩) Sub.ent
end Go.Proofs.YtegjmmocnffpiaaDoor
/- What the laws of layer 13 build is a matrix. -/
namespace Go.Proofs.YtegjmmocnffpiaaDoor
open Go.RowKit
set_option maxRecDepth 20000
theorem stUp_ok {m : Mx} (hm : MxOk m) (l : List Sd) : ∀ i, i ≤ 40 → MxOk (stUp m l i)
  | 0, _ => hm
  | i + 1, h => putR_ok (stUp_ok hm l i (by omega)) (by omega) _ _
theorem dnUp_ok {m : Mx} (hm : MxOk m) (d : Bs) : ∀ k, MxOk (dnUp m d k)
  | 0 => hm
  | k + 1 => by
    rw [dnUp]
    split
    · exact upR_ok (dnUp_ok hm d k) _ _
    · exact dnUp_ok hm d k
theorem bldR_ok (r n : Int) (l : List Sd) (d : Bs) : MxOk (bldR r n l d) :=
  dnUp_ok (stUp_ok (mx0_ok (by omega) (by omega) (by omega) (by omega)) l _ (by omega)) d _
end Go.Proofs.YtegjmmocnffpiaaDoor
/- The document's matrix: what its functions answer, and how a row is when a job goes. Of no program. -/
namespace Go.Proofs.YtegjmmocnffpiaaDoor
open Go.RowKit
set_option maxRecDepth 20000
theorem rowN_del {m : Mx} (hm : MxOk m) {x : Jb} (hx : x ∈ m.js) (o : Nat) : rowN (m.del x.id) o = if o = x.row then setAll (rowN m o) (lst x.ns) 0 else rowN m o := by
  have hm' := hm.del x.id
  have hat : ∀ i, atJ (m.del x.id).js o i = if o = x.row ∧ x.ns.getLsbD i = true then 0 else atJ m.js o i := fun i => by
    by_cases h : o = x.row ∧ x.ns.getLsbD i = true
    · rw [if_pos h]
      refine atJ_none fun y y1 y2 => ?_
      cases hb : y.ns.getLsbD i with
      | false => rfl
      | true =>
        obtain ⟨y3, y4⟩ := mem_delJ.1 y1
        exact (hm.dis y y3 x hx y4 (y2.trans h.1) i hb h.2).elim
    · rw [if_neg h]
      by_cases h2 : ∃ y ∈ m.js, y.row = o ∧ y.ns.getLsbD i = true
      · obtain ⟨y, y1, y2, y3⟩ := h2
        rw [atJ_some hm y1 y2 y3]
        refine atJ_some hm' (mem_delJ.2 ⟨y1, fun e => h ?_⟩) y2 y3
        have e2 := id_inj hm.srt y1 hx e
        rw [e2] at y2 y3
        exact ⟨y2.symm, y3⟩
      · have hno : ∀ y ∈ m.js, y.row = o → y.ns.getLsbD i = false := fun y y1 y2 => by cases hb : y.ns.getLsbD i with | false => rfl | true => exact absurd ⟨y, y1, y2, hb⟩ h2
        rw [atJ_none hno]
        exact atJ_none fun y y1 y2 => hno y (mem_delJ.1 y1).1 y2
  refine List.ext_getElem? fun i => ?_
  by_cases hi : i < m.N
  · have h1 : (rowN (m.del x.id) o)[i]? = some (atJ (m.del x.id).js o i) := rowN_get (m := m.del x.id) hi o
    rw [h1, hat]
    by_cases e : o = x.row
    · rw [if_pos e, setAll_get _ _ _ _ (by rw [rowN_len]; exact hi), rowN_get hi]
      by_cases e2 : x.ns.getLsbD i = true
      · rw [if_pos ⟨e, e2⟩, if_pos (mem_lst.2 e2)]
      · rw [if_neg (fun h => e2 h.2), if_neg (fun h => e2 (mem_lst.1 h))]
    · rw [if_neg e, if_neg (fun h => e h.1), rowN_get hi]
  · rw [List.getElem?_eq_none (by rw [rowN_len]; show m.N ≤ i; omega)]
    split
    · rw [List.getElem?_eq_none (by rw [setAll_len, rowN_len]; omega)]
    · rw [List.getElem?_eq_none (by rw [rowN_len]; omega)]
/-- A row's cells were changed. -/
theorem RiOk.set {m m' : Mx} {cs us : SV} {rs : List Rr} (h : RiOk m cs us rs) (hm' : MxOk m') (hR : m'.R = m.R) (hN : m'.N = m.N) {r : Nat} {p : Rr} {d : List Nat} (hp : rs[r]? = some p) (hd : d = rowN m' r) (ho : ∀ o, o ≠ r → rowN m' o = rowN m o) : RiOk m' cs us (rs.set r (p.1, d)) := by
  have hrl := h.rlen
  have hr : r < rs.length := (List.getElem?_eq_some_iff.1 hp).1
  refine ⟨hm', h.cn.trans hR.symm, h.un.trans hN.symm, ?_, fun p' hp' => ?_⟩
  · refine List.ext_getElem? fun k => ?_
    by_cases hk : k < m.R
    · rw [List.getElem?_map, List.getElem?_map, List.getElem?_range (show k < m'.R by omega), Option.map_some]
      by_cases e : r = k
      · subst e
        rw [List.getElem?_set_self (by omega), Option.map_some, hd]
      · rw [List.getElem?_set_ne e, ho k (fun h => e h.symm)]
        obtain ⟨p', hp', hpd', _⟩ := h.at_ hk
        rw [hp', Option.map_some, hpd']
    · rw [List.getElem?_eq_none (by rw [List.length_map, List.length_set]; omega), List.getElem?_eq_none (by rw [List.length_map, List.length_range]; omega)]
  · rw [hN]
    rcases List.mem_or_eq_of_mem_set hp' with h9 | h9
    · exact h.len p' h9
    · rw [h9]; exact h.len p (List.mem_of_getElem? hp)
theorem rrV_set {rs : List Rr} {r : Nat} {p : Rr} (hp : rs[r]? = some p) (d : List Nat) : (rs.set r (p.1, d)).map rrV = rs.map rrV := by
  have hr : r < rs.length := (List.getElem?_eq_some_iff.1 hp).1
  rw [List.map_set]
  refine List.ext_getElem? fun k => ?_
  by_cases e : r = k
  · subst e; rw [List.getElem?_set_self (by rw [List.length_map]; omega), List.getElem?_map, hp]; rfl
  · rw [List.getElem?_set_ne e]
theorem idsV_set (d : List Nat) (i j : Nat) : (idsV d).set i (.int .u32 (j : Int)) = idsV (d.set i j) := by
  show (d.map _).set _ _ = (d.set i j).map _
  rw [List.map_set]
/-! Free. -/
theorem free_atJ {m : Mx} (hm : MxOk m) {r i : Nat} (hi : i < 16) : (m.free r).getLsbD i = (decide (atJ m.js r i = 0) && m.up.getLsbD i) := by
  have h := busy_iff hm (r := r) (i := i)
  rw [Mx.free, BitVec.getLsbD_and, BitVec.getLsbD_not, decide_eq_true hi, Bool.true_and, Bool.and_comm]
  congr 1
  cases hb : (tk m.js r).getLsbD i with
  | false => rw [decide_eq_true (h.2 hb)]; rfl
  | true => rw [decide_eq_false (fun e => by rw [h.1 e] at hb; cases hb)]; rfl
theorem bitU_free {m : Mx} (hm : MxOk m) (r : Nat) : bitU (m.free r) m.N = lst (m.free r) := rise_ext (bitU_rise _ _) (lst_rise _) fun i => by
  rw [mem_bitU, mem_lst]
  exact ⟨fun h => h.2, fun h => ⟨hm.up i (free_bit h).1, h⟩⟩
def freeL (m : Mx) (z : Int) : List Nat := if rowB m z then lst (m.free z.toNat) else []
theorem freeL_len (m : Mx) (z : Int) : (freeL m z).length = freeR m z := by unfold freeL freeR; split <;> rfl
/-! Row. -/
def rowAt (m : Mx) (r i : Nat) : Option Jb := m.js.find? fun x => decide (x.row = r) && decide (tz x.ns = i)
def rowU (m : Mx) (r k : Nat) : List Nat := ((List.range k).filterMap (rowAt m r)).map (·.id)
theorem rowAt_none {m : Mx} {r i : Nat} (h : ∀ x ∈ m.js, x.row = r → tz x.ns ≠ i) : rowAt m r i = none := by
  refine List.find?_eq_none.2 fun x hx => ?_
  simp only [Bool.and_eq_true, decide_eq_true_eq, not_and]
  exact h x hx
theorem rowAt_some {m : Mx} (hm : MxOk m) {r i : Nat} {x : Jb} (hx : x ∈ m.js) (h1 : x.row = r) (h2 : tz x.ns = i) : rowAt m r i = some x := by
  cases h : rowAt m r i with
  | none =>
    have := List.find?_eq_none.1 h x hx
    simp [h1, h2] at this
  | some y =>
    have h3 := List.mem_of_find?_eq_some h
    have h4 := List.find?_some h
    simp only [Bool.and_eq_true, decide_eq_true_eq] at h4
    refine congrArg some (Classical.byContradiction fun hne => ?_)
    have hid : y.id ≠ x.id := fun e => hne (id_inj hm.srt h3 hx e)
    exact hm.dis y h3 x hx hid (h4.1.trans h1.symm) i (by rw [← h4.2]; exact mem_lst.1 (tz_mem (hm.some y h3))) (by rw [← h2]; exact mem_lst.1 (tz_mem (hm.some x hx)))
theorem rowU_succ (m : Mx) (r k : Nat) : rowU m r (k + 1) = rowU m r k ++ ((rowAt m r k).map (·.id)).toList := by
  unfold rowU
  rw [List.range_succ, List.filterMap_append, List.map_append]
  cases h : rowAt m r k with
  | none => simp [h]
  | some y => simp [h]
theorem rowU_len (m : Mx) (r : Nat) : ∀ k, (rowU m r k).length ≤ k
  | 0 => Nat.le_refl _
  | k + 1 => by
    have := rowU_len m r k
    rw [rowU_succ, List.length_append]
    cases rowAt m r k with
    | none => simp; omega
    | some y => simp; omega
theorem rowIds_eq0 {m : Mx} {r : Nat} (hr : r < m.R) : rowIds m r = (rowJ m r).map (·.id) := by rw [rowIds, if_pos (rowB_iff.2 ⟨by omega, by omega⟩), Int.toNat_natCast]
theorem rowU_all {m : Mx} (hm : MxOk m) {r : Nat} (hr : r < m.R) : rowU m r m.N = rowIds m r := by
  have key : ∀ d, m.N + d ≤ 16 → rowU m r (m.N + d) = rowU m r m.N := by
    intro d
    induction d with
    | zero => intro _; rfl
    | succ d ih =>
      intro hd
      rw [← Nat.add_assoc, rowU_succ, ih (by omega), rowAt_none fun x hx _ e => ?_]
      · simp
      · have := hm.ns x hx (tz x.ns) (mem_lst.1 (tz_mem (hm.some x hx)))
        omega
  have h16 := hm.N16
  have h := key (16 - m.N) (by omega)
  rw [show m.N + (16 - m.N) = 16 by omega] at h
  rw [← h, rowIds_eq0 hr]
  rfl
/-- What a cell tells: nobody, or a job whose least node it is or not. -/
theorem rowAt_cell {m : Mx} (hm : MxOk m) {r k : Nat} : (atJ m.js r k = 0 ∧ rowAt m r k = none) ∨ ∃ y, look m.js (atJ m.js r k) = some y ∧ y.id = atJ m.js r k ∧ y.row = r ∧ rowAt m r k = if tz y.ns = k then some y else none := by
  by_cases h : ∃ y ∈ m.js, y.row = r ∧ y.ns.getLsbD k = true
  · right
    obtain ⟨y, y1, y2, y3⟩ := h
    have ha := atJ_some hm y1 y2 y3
    refine ⟨y, by rw [ha]; exact look_mem hm.srt y1, ha.symm, y2, ?_⟩
    split
    · rename_i e; exact rowAt_some hm y1 y2 e
    · rename_i e
      refine rowAt_none fun x x1 x2 x3 => e ?_
      have hb : x.ns.getLsbD k = true := by rw [← x3]; exact mem_lst.1 (tz_mem (hm.some x x1))
      have hid : x.id = y.id := Classical.byContradiction fun hne => hm.dis x x1 y y1 hne (x2.trans y2.symm) k hb y3
      rw [← id_inj hm.srt x1 y1 hid]
      exact x3
  · left
    have hno : ∀ y ∈ m.js, y.row = r → y.ns.getLsbD k = false := fun y y1 y2 => by cases hb : y.ns.getLsbD k with | false => rfl | true => exact absurd ⟨y, y1, y2, hb⟩ h
    refine ⟨atJ_none hno, rowAt_none fun x x1 x2 x3 => ?_⟩
    have := hno x x1 x2
    rw [← x3, mem_lst.1 (tz_mem (hm.some x x1))] at this
    cases this
/-! Jobs: put in, one by one, in order. -/
def insU (j : Nat) (done : Bool) : List Nat → Nat → List Nat × Bool
  | _, 0 => ([], done)
  | l, k + 1 =>
    let r := insU j done l k
    let x := l.getD k 0
    if !r.2 && decide (j < x) then (r.1 ++ [j] ++ [x], true) else (r.1 ++ [x], r.2)
def insJ (j : Nat) (l : List Nat) : List Nat := if (insU j false l l.length).2 then (insU j false l l.length).1 else (insU j false l l.length).1 ++ [j]
theorem insU_t {j : Nat} {l : List Nat} {k : Nat} (h : (!(insU j false l k).2 && decide (j < l.getD k 0)) = true) : insU j false l (k + 1) = ((insU j false l k).1 ++ [j] ++ [l.getD k 0], true) := if_pos h
theorem insU_f {j : Nat} {l : List Nat} {k : Nat} (h : ¬ (!(insU j false l k).2 && decide (j < l.getD k 0)) = true) : insU j false l (k + 1) = ((insU j false l k).1 ++ [l.getD k 0], (insU j false l k).2) := if_neg h
theorem insU_len (j : Nat) (l : List Nat) : ∀ k, (insU j false l k).1.length = k + if (insU j false l k).2 then 1 else 0
  | 0 => rfl
  | k + 1 => by
    have ih := insU_len j l k
    by_cases h : (!(insU j false l k).2 && decide (j < l.getD k 0)) = true
    · rw [insU_t h]
      simp only [Bool.and_eq_true, Bool.not_eq_true'] at h
      rw [h.1] at ih
      simp [ih]
    · rw [insU_f h]
      simp only [List.length_append, ih, List.length_singleton]
      omega
theorem insU_perm (j : Nat) (l : List Nat) : ∀ k, k ≤ l.length → (insU j false l k).1.Perm (if (insU j false l k).2 then j :: l.take k else l.take k)
  | 0, _ => by simp [insU]
  | k + 1, hk => by
    have ih := insU_perm j l k (by omega)
    have hx := List.getElem?_eq_getElem (show k < l.length by omega)
    have ht : l.take (k + 1) = l.take k ++ [l.getD k 0] := by rw [List.take_add_one, hx]; simp [List.getD, hx]
    by_cases h : (!(insU j false l k).2 && decide (j < l.getD k 0)) = true
    · rw [insU_t h]
      simp only [Bool.and_eq_true, Bool.not_eq_true'] at h
      rw [h.1] at ih
      simp only [Bool.false_eq_true, if_false] at ih
      simp only [if_true, ht]
      refine ((ih.append_right _).append_right _).trans ?_
      exact (List.perm_append_comm.append_right _)
    · rw [insU_f h, ht]
      simp only
      by_cases h2 : (insU j false l k).2 = true
      · rw [if_pos h2] at ih ⊢
        exact ih.append_right _
      · rw [if_neg h2] at ih ⊢
        exact ih.append_right _
theorem insJ_perm (j : Nat) (l : List Nat) : (insJ j l).Perm (j :: l) := by
  have h := insU_perm j l l.length (Nat.le_refl _)
  rw [List.take_length] at h
  unfold insJ
  by_cases e : (insU j false l l.length).2 = true
  · rw [if_pos e] at h ⊢; exact h
  · rw [if_neg e] at h ⊢; exact (h.append_right _).trans List.perm_append_comm
theorem insU_rise {j : Nat} {l : List Nat} (hl : l.Pairwise (· < ·)) (hj : j ∉ l) : ∀ k, k ≤ l.length → (insU j false l k).1.Pairwise (· < ·) ∧ ((insU j false l k).2 = false → (insU j false l k).1 = l.take k ∧ ∀ x ∈ l.take k, x < j)
  | 0, _ => ⟨List.Pairwise.nil, fun _ => ⟨rfl, fun x hx => by cases hx⟩⟩
  | k + 1, hk => by
    obtain ⟨h1, h2⟩ := insU_rise hl hj k (by omega)
    have hk' : k < l.length := by omega
    have hx := List.getElem?_eq_getElem hk'
    have hg : l.getD k 0 = l[k] := by simp [List.getD, hx]
    have ht : l.take (k + 1) = l.take k ++ [l[k]] := by rw [List.take_add_one, hx]; rfl
    have hlt : ∀ x ∈ l.take k, x < l[k] := fun x hx' => by
      have h9 := hl
      rw [← List.take_append_drop k l, List.drop_eq_getElem_cons hk'] at h9
      exact (List.pairwise_append.1 h9).2.2 x hx' _ (List.mem_cons_self ..)
    have hperm := insU_perm j l k (by omega)
    by_cases h : (!(insU j false l k).2 && decide (j < l.getD k 0)) = true
    · rw [insU_t h]
      rw [hg] at h ⊢
      simp only [Bool.and_eq_true, Bool.not_eq_true', decide_eq_true_eq] at h
      obtain ⟨h3, h4⟩ := h2 h.1
      refine ⟨?_, fun e => by cases e⟩
      rw [h3]
      refine List.pairwise_append.2 ⟨List.pairwise_append.2 ⟨h3 ▸ h1, List.pairwise_singleton _ _, fun a ha b hb => ?_⟩, List.pairwise_singleton _ _, fun a ha b hb => ?_⟩
      · rw [List.mem_singleton] at hb
        rw [hb]
        exact h4 a ha
      · rw [List.mem_singleton] at hb
        rw [hb]
        rcases List.mem_append.1 ha with ha | ha
        · exact hlt a ha
        · rw [List.mem_singleton] at ha
          rw [ha]
          exact h.2
    · rw [insU_f h]
      rw [hg] at h ⊢
      simp only
      refine ⟨List.pairwise_append.2 ⟨h1, List.pairwise_singleton _ _, fun a ha b hb => ?_⟩, fun e => ?_⟩
      · rw [List.mem_singleton] at hb
        rw [hb]
        have ha' := hperm.mem_iff.1 ha
        by_cases h5 : (insU j false l k).2 = true
        · rw [if_pos h5] at ha'
          rcases List.mem_cons.1 ha' with rfl | ha'
          · have h6 := insU_less hl hj k (by omega) h5
            exact Nat.lt_trans h6.2 (hlt _ h6.1)
          · exact hlt a ha'
        · rw [if_neg h5] at ha'
          exact hlt a ha'
      · obtain ⟨h3, h4⟩ := h2 e
        rw [e] at h
        simp only [Bool.not_false, Bool.true_and, decide_eq_true_eq] at h
        refine ⟨by rw [h3, ht], fun x hx' => ?_⟩
        rw [ht, List.mem_append, List.mem_singleton] at hx'
        rcases hx' with hx' | rfl
        · exact h4 x hx'
        · have : j ≠ l[k] := fun e9 => hj (by rw [e9]; exact List.getElem_mem hk')
          omega
where
  insU_less {j : Nat} {l : List Nat} (hl : l.Pairwise (· < ·)) (hj : j ∉ l) : ∀ k, (hk : k ≤ l.length) → (insU j false l k).2 = true → (l.getD (k - 1) 0) ∈ l.take k ∧ j < l.getD (k - 1) 0
    | 0, _, h => by cases h
    | k + 1, hk, h => by
      have hk' : k < l.length := by omega
      have hx := List.getElem?_eq_getElem hk'
      have hg : l.getD k 0 = l[k] := by simp [List.getD, hx]
      have ht : l.take (k + 1) = l.take k ++ [l[k]] := by rw [List.take_add_one, hx]; rfl
      simp only [Nat.add_sub_cancel, hg]
      refine ⟨by rw [ht]; exact List.mem_append_right _ (List.mem_singleton.2 rfl), ?_⟩
      by_cases h2 : (!(insU j false l k).2 && decide (j < l.getD k 0)) = true
      · rw [hg] at h2
        simp only [Bool.and_eq_true, decide_eq_true_eq] at h2
        exact h2.2
      · rw [insU_f h2] at h
        obtain ⟨h3, h4⟩ := insU_less hl hj k (by omega) h
        have h9 := hl
        rw [← List.take_append_drop k l, List.drop_eq_getElem_cons hk'] at h9
        exact Nat.lt_trans h4 ((List.pairwise_append.1 h9).2.2 _ h3 _ (List.mem_cons_self ..))
theorem insJ_rise {j : Nat} {l : List Nat} (hl : l.Pairwise (· < ·)) (hj : j ∉ l) : (insJ j l).Pairwise (· < ·) := by
  obtain ⟨h1, h2⟩ := insU_rise hl hj l.length (Nat.le_refl _)
  unfold insJ
  by_cases e : (insU j false l l.length).2 = true
  · rw [if_pos e]; exact h1
  · rw [if_neg e]
    obtain ⟨h3, h4⟩ := h2 (by simpa using e)
    rw [List.take_length] at h3 h4
    rw [h3]
    refine List.pairwise_append.2 ⟨hl, List.pairwise_singleton _ _, fun a ha b hb => ?_⟩
    rw [List.mem_singleton] at hb
    rw [hb]
    exact h4 a ha
def insAll (l : List Nat) : List Nat → List Nat := fun js => js.foldl (fun a j => insJ j a) l
theorem insAll_ok : ∀ (js l : List Nat), l.Pairwise (· < ·) → (l ++ js).Nodup → (insAll l js).Perm (l ++ js) ∧ (insAll l js).Pairwise (· < ·)
  | [], l, hl, _ => ⟨by simp [insAll], hl⟩
  | j :: js, l, hl, hn => by
    have hj : j ∉ l := fun h => by
      have := (List.nodup_append.1 hn).2.2 j h j (List.mem_cons_self ..)
      exact this rfl
    have hp := insJ_perm j l
    have h1 := insJ_rise hl hj
    have hp2 : (insJ j l ++ js).Perm (l ++ j :: js) := (hp.append_right js).trans List.perm_middle.symm
    obtain ⟨h3, h4⟩ := insAll_ok js (insJ j l) h1 (hp2.nodup_iff.2 hn)
    exact ⟨h3.trans hp2, h4⟩
/-- All rows' jobs, one row behind the other. -/
def rowsIds (m : Mx) : Nat → List Nat
  | 0 => []
  | r + 1 => rowsIds m r ++ rowIds m r
theorem mem_rowsIds {m : Mx} (hm : MxOk m) {j : Nat} : ∀ {r : Nat}, r ≤ m.R → (j ∈ rowsIds m r ↔ ∃ x ∈ m.js, x.row < r ∧ x.id = j)
  | 0, _ => by simp [rowsIds]
  | r + 1, hr => by
    rw [rowsIds, List.mem_append, mem_rowsIds hm (by omega)]
    have h9 : j ∈ rowIds m r ↔ ∃ x ∈ m.js, x.row = r ∧ x.id = j := by
      rw [rowIds_eq0 (by omega), List.mem_map]
      constructor
      · rintro ⟨x, h1, h2⟩; exact ⟨x, ((mem_rowJ hm).1 h1).1, ((mem_rowJ hm).1 h1).2, h2⟩
      · rintro ⟨x, h1, h2, h3⟩; exact ⟨x, (mem_rowJ hm).2 ⟨h1, h2⟩, h3⟩
    rw [h9]
    constructor
    · rintro (⟨x, h1, h2, h3⟩ | ⟨x, h1, h2, h3⟩)
      · exact ⟨x, h1, by omega, h3⟩
      · exact ⟨x, h1, by omega, h3⟩
    · rintro ⟨x, h1, h2, h3⟩
      by_cases e : x.row = r
      · exact .inr ⟨x, h1, e, h3⟩
      · exact .inl ⟨x, h1, by omega, h3⟩
theorem rowsIds_nodup {m : Mx} (hm : MxOk m) : ∀ r, r ≤ m.R → (rowsIds m r).Nodup
  | 0, _ => List.nodup_nil
  | r + 1, hr => by
    rw [rowsIds]
    refine List.nodup_append.2 ⟨rowsIds_nodup hm r (by omega), ?_, fun a ha b hb e => ?_⟩
    · rw [rowIds_eq0 (by omega)]
      exact List.pairwise_map.2 (rowJ_srt.imp_of_mem fun {a b} ha hb h e => by rw [id_inj hm.srt ((mem_rowJ hm).1 ha).1 ((mem_rowJ hm).1 hb).1 e] at h; omega)
    · obtain ⟨x, x1, x2, x3⟩ := (mem_rowsIds hm (by omega)).1 ha
      rw [rowIds_eq0 (by omega)] at hb
      obtain ⟨y, y1, y2⟩ := List.mem_map.1 hb
      have h9 := (mem_rowJ hm).1 y1
      have h8 := id_inj hm.srt x1 h9.1 (by rw [x3, y2, e])
      rw [h8] at x2
      omega

theorem insAll_rows {m : Mx} (hm : MxOk m) : insAll [] (rowsIds m m.R) = m.js.map (·.id) := by
  obtain ⟨h1, h2⟩ := insAll_ok (rowsIds m m.R) [] List.Pairwise.nil (by simpa using rowsIds_nodup hm m.R (Nat.le_refl _))
  refine rise_ext h2 (List.pairwise_map.2 hm.srt) fun j => ?_
  rw [h1.mem_iff, List.nil_append, mem_rowsIds hm (Nat.le_refl _), List.mem_map]
  constructor
  · rintro ⟨x, x1, _, x3⟩; exact ⟨x, x1, x3⟩
  · rintro ⟨x, x1, x3⟩; exact ⟨x, x1, hm.row x x1, x3⟩
end Go.Proofs.YtegjmmocnffpiaaDoor
/- The document's matrix: Free, Row, Remove, Place, Next. -/
namespace Go.Proofs.YtegjmmocnffpiaaDoor
open Go.RowKit
set_option maxRecDepth 20000
theorem flat1 (l : List Nat) : l.flatMap (fun i : Nat => [nv i]) = nds l := by
  induction l with
  | nil => rfl
  | cons a l ih => rw [List.flatMap_cons, ih]; rfl
theorem ints_casts (l : List Nat) : ints (casts l) = nds l := by
  show (l.map _).map _ = l.map _
  rw [List.map_map]
  rfl
theorem rdTake {s : SV} {T : TypeId} {l : List Nat} {k : Nat} (hk : k ≤ s.n) : RdS (own s T 1 (nds l)) ⟨s.a, k, s.c⟩ k 1 (ints (casts (l.take k))) := by
  have h0 : RdS (own s T 1 (nds l)) s s.n 1 (l.flatMap fun i : Nat => [nv i]) := by rw [flat1]; exact RdS.own
  have h := RdS.take (enc := fun i : Nat => [nv i]) (sz := 1) (fun _ => rfl) (by omega) h0 hk
  rw [flat1] at h
  rw [ints_casts]
  exact h
theorem rowIds_zero {m : Mx} (hm : MxOk m) {f : Nat} (hf : f < m.R) : rowIds m f = [] ↔ tk m.js f = 0#16 := by
  have h9 : ∀ j, j ∈ rowIds m f ↔ ∃ x ∈ m.js, x.row = f ∧ x.id = j := fun j => by
    rw [rowIds_eq0 hf, List.mem_map]
    constructor
    · rintro ⟨x, h1, h2⟩; exact ⟨x, ((mem_rowJ hm).1 h1).1, ((mem_rowJ hm).1 h1).2, h2⟩
    · rintro ⟨x, h1, h2, h3⟩; exact ⟨x, (mem_rowJ hm).2 ⟨h1, h2⟩, h3⟩
  constructor
  · intro h
    refine BitVec.eq_of_getLsbD_eq fun i _ => ?_
    cases hb : (tk m.js f).getLsbD i with
    | false => simp
    | true =>
      obtain ⟨x, x1, x2, _⟩ := (tk_bit _ _ _).1 hb
      have := (h9 x.id).2 ⟨x, x1, x2, rfl⟩
      rw [h] at this
      cases this
  · intro h
    refine List.eq_nil_iff_forall_not_mem.2 fun j hj => ?_
    obtain ⟨x, x1, x2, _⟩ := (h9 j).1 hj
    have := (tk_bit m.js f (tz x.ns)).2 ⟨x, x1, x2, mem_lst.1 (tz_mem (hm.some x x1))⟩
    rw [h] at this
    simp at this
theorem rFree_S (b : Nat) (m : Mx) (z : Int) : Spec Tryd.prog 44 [.pointer (some ⟨b, 0, none⟩), .int .i64 z] [RI b m] fun Γ v Θ => ∃ sv : SV, v = sv.v ∧ sv.n = (freeL m z).length ∧ Θ = own sv 3 1 (nds (freeL m z)) :: RI b m :: Γ := by
  refine Spec.riOk fun hm => ?_
  refine Spec.of_body Tryd.func44 rfl Tryd.ntmps44 rfl ?_
  intro w0 Γ
  show S _ w0 [(0, .pointer (some ⟨b, 0, none⟩)), (1, .int .i64 z)] (RI b m :: Γ) _
  have hR8 := hm.R8
  have hN16 := hm.N16
  have hN1 := hm.N1
  refine S.riOpen b m fun cs us rs hri => ?_
  have hcn := hri.cn
  have hun := hri.un
  refine S.ownSome cs (by have := hm.R1; omega) fun cb co hca _ _ _ => ?_
  refine S.ownSome us (by omega) fun ub uo hua _ _ _ => ?_
  refine S.ent (Ent.ownNil 3 1) ?_
  show S _ w0 _ (own SV.nil 3 1 (nds []) :: riX b m cs us rs Γ) _
  refine S.seq fun K1 hK1 => ?_
  refine S.region rfl ?_
  refine S.op (S.q (q_assign rfl) rfl rfl ?_)
  first | with_reducible refine S.nilK ?_ | refine S.nil ?_
  refine hK1 _ _ ?_
  refine S.seq fun K2 hK2 => ?_
  refine S.region rfl ?_
  refine S.op (S.q (q_assign rfl) rfl rfl ?_)
  first | with_reducible refine S.nilK ?_ | refine S.nil ?_
  refine hK2 _ _ ?_
  refine S.seq fun K3 hK3 => ?_
  refine S.seq fun K4 hK4 => ?_
  refine S.cut (fun ρ' Γ' => ρ' = [(0, .pointer (some ⟨b, 0, none⟩)), (1, .int .i64 z), (5, SV.nil.v), (22, .bool (rowB m z))] ∧ Γ' = own SV.nil 3 1 (nds []) :: riX b m cs us rs Γ) ?_ ?_
  · refine S.regionG ?_
    refine S.g_op rfl (S.q (q_move rfl) rfl rfl ?_)
    refine S.g_op rfl (S.q (q_neN Tryd.underlying26 rfl rfl) rfl rfl ?_)
    refine S.g_op rfl (S.q (q_move rfl) rfl rfl ?_)
    refine S.g_yes rfl rfl rfl (rfl) (S.q (q_move rfl) rfl rfl ?_)
    refine S.g_yes rfl rfl rfl (rfl) (S.q (q_ge rfl rfl) rfl rfl ?_)
    refine S.g_op rfl (S.q (q_pickT rfl (rfl) rfl) rfl rfl ?_)
    refine S.g_op rfl (S.q (q_move rfl) rfl rfl ?_)
    by_cases hg2_6 : (0 : Int) ≤ z
    · refine S.g_yes rfl rfl rfl (decide_eq_true hg2_6) (S.q (q_move rfl) rfl rfl ?_)
      refine S.g_yes rfl rfl rfl (decide_eq_true hg2_6) (S.q (q_move rfl) rfl rfl ?_)
      refine S.g_yes rfl rfl rfl (decide_eq_true hg2_6) (S.q (q_nilCheck rfl) rfl rfl ?_)
      refine S.g_yes rfl rfl rfl (decide_eq_true hg2_6) (S.q (q_field Tryd.fo55_0 rfl) rfl rfl ?_)
      refine S.g_yes rfl rfl rfl (decide_eq_true hg2_6) (S.q (q_load Tryd.at52 rfl rfl) rfl rfl ?_)
      refine S.g_yes rfl rfl rfl (decide_eq_true hg2_6) (S.q (q_len Tryd.underlying52 rfl) rfl rfl ?_)
      refine S.g_yes rfl rfl rfl (decide_eq_true hg2_6) (S.q (q_lt rfl rfl) rfl rfl ?_)
      refine S.g_op rfl (S.q (q_pickT rfl (decide_eq_true hg2_6) rfl) rfl rfl ?_)
      first | with_reducible refine S.g_nilK ?_ | refine S.g_nil ?_
      with_reducible repeat (first | refine S.then_n ?_ | refine S.then_x ?_ | refine S.then_r ?_ | refine S.inBlock_n ?_ | refine S.inBlock_r ?_ | refine S.inBlock_x rfl ?_ | refine S.noGoto_r ?_ | refine S.noGoto_n ?_ | refine S.noGoto_x ?_)
      first | (rw [show rowB m z = false by rw [rowB, decide_eq_false hg2_6]; rfl]; exact S.meet ⟨rfl, rfl⟩ ⟨rfl, rfl, rfl, rfl, trivial⟩ Sub.ent) | (rw [show rowB m z = decide (z < (cs.n : Int)) by rw [rowB, decide_eq_true hg2_6, hcn]; rfl]; exact S.meet ⟨rfl, rfl⟩ ⟨rfl, rfl, rfl, rfl, trivial⟩ Sub.ent)
    · refine S.g_no rfl rfl rfl (decide_eq_false hg2_6) rfl rfl ?_
      refine S.g_no rfl rfl rfl (decide_eq_false hg2_6) rfl rfl ?_
      refine S.g_no rfl rfl rfl (decide_eq_false hg2_6) rfl rfl ?_
      refine S.g_no rfl rfl rfl (decide_eq_false hg2_6) rfl rfl ?_
      refine S.g_no rfl rfl rfl (decide_eq_false hg2_6) rfl rfl ?_
      refine S.g_no rfl rfl rfl (decide_eq_false hg2_6) rfl rfl ?_
      refine S.g_no rfl rfl rfl (decide_eq_false hg2_6) rfl rfl ?_
      refine S.g_op rfl (S.q (q_pickF rfl (decide_eq_false hg2_6) rfl) rfl rfl ?_)
      first | with_reducible refine S.g_nilK ?_ | refine S.g_nil ?_
      with_reducible repeat (first | refine S.then_n ?_ | refine S.then_x ?_ | refine S.then_r ?_ | refine S.inBlock_n ?_ | refine S.inBlock_r ?_ | refine S.inBlock_x rfl ?_ | refine S.noGoto_r ?_ | refine S.noGoto_n ?_ | refine S.noGoto_x ?_)
      first | (rw [show rowB m z = false by rw [rowB, decide_eq_false hg2_6]; rfl]; exact S.meet ⟨rfl, rfl⟩ ⟨rfl, rfl, rfl, rfl, trivial⟩ Sub.ent) | (rw [show rowB m z = decide (z < (cs.n : Int)) by rw [rowB, decide_eq_true hg2_6, hcn]; rfl]; exact S.meet ⟨rfl, rfl⟩ ⟨rfl, rfl, rfl, rfl, trivial⟩ Sub.ent)
  · rintro ρ' Γ' ⟨rfl, rfl⟩
    refine hK4 _ _ ?_
    refine S.cut (fun ρ' Γ' => ∃ sv : SV, sv.n = (freeL m z).length ∧ ρ' = [(5, sv.v)] ∧ Γ' = own sv 3 1 (nds (freeL m z)) :: riX b m cs us rs Γ) ?_ ?_
    · refine S.cond rfl (fun h1 => ?_) (fun h1 => ?_)
      · have hz := rowB_iff.1 h1
        obtain ⟨r, rfl⟩ : ∃ r : Nat, z = r := ⟨z.toNat, by omega⟩
        have hfl : freeL m r = lst (m.free r) := by rw [freeL, if_pos h1, Int.toNat_natCast]
        obtain ⟨p, hp, hpd, hpn⟩ := hri.at_ (show r < m.R by omega)
        have hRp : RdS (alls rs rrB) p.1 p.1.n 1 (idsV p.2) := RdS.alls hp RdS.own
        refine S.rSome hRp (by omega) fun pb po hpa => ?_
        refine S.seq fun K5 hK5 => ?_
        refine S.region rfl ?_
        refine S.op (S.q (q_move rfl) rfl rfl ?_)
        refine S.op (S.q (q_nilCheck rfl) rfl rfl ?_)
        refine S.op (S.q (q_field Tryd.fo55_0 rfl) rfl rfl ?_)
        refine S.op (S.q (q_load Tryd.at52 rfl rfl) rfl rfl ?_)
        refine S.op (S.q (q_move rfl) rfl rfl ?_)
        refine S.op (S.q (q_indexO (r) Tryd.el52 rfl hca rfl rfl (by omega)) rfl rfl ?_)
        refine S.op (S.q (q_loadOw (cs) (r) Tryd.at31 rfl hca (by first | rfl | exact Nat.add_assoc _ _ _ | omega) (by rw [List.getElem?_map, hp]; rfl)) rfl rfl ?_)
        refine S.op (S.q (q_len Tryd.underlying31 rfl) rfl rfl ?_)
        refine S.op (S.q (q_move rfl) rfl rfl ?_)
        first | with_reducible refine S.nilK ?_ | refine S.nil ?_
        refine hK5 _ _ ?_
        refine S.block ?_
        refine S.loop (fun q ρ' Γ' => ∃ (k : Nat) (sv : SV) (nl : List Nat), q = m.N - k ∧ k ≤ m.N ∧ nl = bitU (m.free r) k ∧ sv.n = nl.length ∧ ρ' = [(0, .pointer (some ⟨b, 0, none⟩)), (5, sv.v), (29, p.1.v), (30, .int .i64 p.1.n), (31, .int .i64 (k : Int))] ∧   Γ' = own sv 3 1 (nds nl) :: riX b m cs us rs Γ) (m := _) (ρ0 := _) (Γ0 := _) (⟨0, SV.nil, [], rfl, by omega, rfl, rfl, rfl, rfl⟩) (by repeat (first | exact trivial | refine ⟨rfl, ?_⟩)) Sub.ent ?_
        rintro q ρ' Γ' ⟨k, sv, nl, hq, hk, hnl, hsv, rfl, rfl⟩
        have hlen := bitU_len (m.free r) k
        rw [← hnl] at hlen
        refine S.seq fun K6 hK6 => ?_
        refine S.region rfl ?_
        refine S.op (S.q (q_lt rfl rfl) rfl rfl ?_)
        first | with_reducible refine S.nilK ?_ | refine S.nil ?_
        refine hK6 _ _ ?_
        refine S.seq fun K7 hK7 => ?_
        refine S.condD rfl (fun h2 => ?_) (fun h2 => ?_)
        · have hxa := rowN_get (m := m) (i := k) (by omega) r
          rw [← hpd] at hxa
          have hfr := free_atJ hm (r := r) (i := k) (by omega)
          have hup : (upC m)[k]? = some (.bool (m.up.getLsbD k)) := by rw [List.getElem?_map, List.getElem?_range (by omega)]; rfl
          refine S.skip ?_
          with_reducible repeat (first | refine S.then_n ?_ | refine S.then_x ?_ | refine S.then_r ?_ | refine S.inBlock_n ?_ | refine S.inBlock_r ?_ | refine S.inBlock_x rfl ?_ | refine S.noGoto_r ?_ | refine S.noGoto_n ?_ | refine S.noGoto_x ?_)
          refine hK7 _ _ ?_
          refine S.seq fun K8 hK8 => ?_
          refine S.block ?_
          refine S.seq fun K9 hK9 => ?_
          refine S.region rfl ?_
          refine S.op (S.q (q_move rfl) rfl rfl ?_)
          refine S.op (S.q (q_indexO (k) Tryd.el31 rfl hpa rfl rfl (by omega)) rfl rfl ?_)
          refine S.op (S.q (q_loadR hRp k Tryd.at68 rfl hpa (by omega) (by omega) (idsV_get hxa)) rfl rfl ?_)
          refine S.op (S.q (q_assign rfl) rfl rfl ?_)
          refine S.op (S.q (q_assign rfl) rfl rfl ?_)
          first | with_reducible refine S.nilK ?_ | refine S.nil ?_
          refine hK9 _ _ ?_
          refine S.seq fun K10 hK10 => ?_
          refine S.cut (fun ρ' Γ' => ρ' = [(0, .pointer (some ⟨b, 0, none⟩)), (5, sv.v), (6, .int .i64 (k : Int)), (29, p.1.v), (30, .int .i64 p.1.n), (31, .int .i64 (k : Int)), (46, .bool ((m.free r).getLsbD k))] ∧ Γ' = own sv 3 1 (nds nl) :: riX b m cs us rs Γ) ?_ ?_
          · refine S.regionG ?_
            refine S.g_op rfl (S.q (q_move rfl) rfl rfl ?_)
            refine S.g_op rfl (S.q (q_eq rfl rfl) rfl rfl ?_)
            refine S.g_op rfl (S.q (q_move rfl) rfl rfl ?_)
            by_cases hg6_2 : (atJ m.js r k : Int) = 0
            · refine S.g_yes rfl rfl rfl (decide_eq_true hg6_2) (S.q (q_move rfl) rfl rfl ?_)
              refine S.g_yes rfl rfl rfl (decide_eq_true hg6_2) (S.q (q_nilCheck rfl) rfl rfl ?_)
              refine S.g_yes rfl rfl rfl (decide_eq_true hg6_2) (S.q (q_field Tryd.fo55_1 rfl) rfl rfl ?_)
              refine S.g_yes rfl rfl rfl (decide_eq_true hg6_2) (S.q (q_load Tryd.at53 rfl rfl) rfl rfl ?_)
              refine S.g_yes rfl rfl rfl (decide_eq_true hg6_2) (S.q (q_move rfl) rfl rfl ?_)
              refine S.g_yes rfl rfl rfl (decide_eq_true hg6_2) (S.q (q_indexO (k) Tryd.el53 rfl hua rfl rfl (by omega)) rfl rfl ?_)
              refine S.g_yes rfl rfl rfl (decide_eq_true hg6_2) (S.q (q_loadOw (us) (k) Tryd.at4 rfl hua (by first | rfl | exact Nat.add_assoc _ _ _ | omega) (hup)) rfl rfl ?_)
              refine S.g_op rfl (S.q (q_pickT rfl (decide_eq_true hg6_2) rfl) rfl rfl ?_)
              first | with_reducible refine S.g_nilK ?_ | refine S.g_nil ?_
              with_reducible repeat (first | refine S.then_n ?_ | refine S.then_x ?_ | refine S.then_r ?_ | refine S.inBlock_n ?_ | refine S.inBlock_r ?_ | refine S.inBlock_x rfl ?_ | refine S.noGoto_r ?_ | refine S.noGoto_n ?_ | refine S.noGoto_x ?_)
              first | (rw [show (m.free r).getLsbD k = m.up.getLsbD k by rw [hfr, decide_eq_true (by omega)]; rfl]; exact S.meet ⟨rfl, rfl⟩ ⟨rfl, rfl, rfl, rfl, rfl, rfl, rfl, trivial⟩ Sub.ent) | (rw [show (m.free r).getLsbD k = false by rw [hfr, decide_eq_false (by omega)]; rfl]; exact S.meet ⟨rfl, rfl⟩ ⟨rfl, rfl, rfl, rfl, rfl, rfl, rfl, trivial⟩ Sub.ent)
            · refine S.g_no rfl rfl rfl (decide_eq_false hg6_2) rfl rfl ?_
              refine S.g_no rfl rfl rfl (decide_eq_false hg6_2) rfl rfl ?_
              refine S.g_no rfl rfl rfl (decide_eq_false hg6_2) rfl rfl ?_
              refine S.g_no rfl rfl rfl (decide_eq_false hg6_2) rfl rfl ?_
              refine S.g_no rfl rfl rfl (decide_eq_false hg6_2) rfl rfl ?_
              refine S.g_no rfl rfl rfl (decide_eq_false hg6_2) rfl rfl ?_
              refine S.g_no rfl rfl rfl (decide_eq_false hg6_2) rfl rfl ?_
              refine S.g_op rfl (S.q (q_pickF rfl (decide_eq_false hg6_2) rfl) rfl rfl ?_)
              first | with_reducible refine S.g_nilK ?_ | refine S.g_nil ?_
              with_reducible repeat (first | refine S.then_n ?_ | refine S.then_x ?_ | refine S.then_r ?_ | refine S.inBlock_n ?_ | refine S.inBlock_r ?_ | refine S.inBlock_x rfl ?_ | refine S.noGoto_r ?_ | refine S.noGoto_n ?_ | refine S.noGoto_x ?_)
              first | (rw [show (m.free r).getLsbD k = m.up.getLsbD k by rw [hfr, decide_eq_true (by omega)]; rfl]; exact S.meet ⟨rfl, rfl⟩ ⟨rfl, rfl, rfl, rfl, rfl, rfl, rfl, trivial⟩ Sub.ent) | (rw [show (m.free r).getLsbD k = false by rw [hfr, decide_eq_false (by omega)]; rfl]; exact S.meet ⟨rfl, rfl⟩ ⟨rfl, rfl, rfl, rfl, rfl, rfl, rfl, trivial⟩ Sub.ent)
          · rintro ρ' Γ' ⟨rfl, rfl⟩
            refine hK10 _ _ ?_
            refine S.cond rfl (fun h3 => ?_) (fun h3 => ?_)
            · have hs4 : nl ++ [k] = bitU (m.free r) (k + 1) := by rw [bitU, if_pos h3, hnl]
              have hl4 : (nl ++ [k]).length = nl.length + 1 := by simp
              have hd4 : nds nl ++ [.int .i64 (k : Int)] = nds (nl ++ [k]) := by simp
              refine S.region rfl ?_
              refine S.op (S.q (q_move rfl) rfl rfl ?_)
              refine S.op (S.q (q_move rfl) rfl rfl ?_)
              refine S.op (S.buildSlice (pvs := [(_, _)]) [_] Tryd.underlying69 Tryd.inf3 rfl rfl ⟨⟨rfl, rfl⟩, trivial⟩ rfl rfl ?_)
              intro b49
              refine S.op (S.appendOw (s := sv) (1) ([.int .i64 (k : Int)]) Tryd.underlying69 Tryd.inf3 rfl rfl rfl (blk_slAt (b := b49) rfl (by unfold maxLen; omega)) (by first | rfl | exact allOne_bcells _) (⟨by omega, by omega⟩) rfl ?_)
              intro sv2 hsv2
              refine S.op (S.q (q_assign rfl) rfl rfl ?_)
              first | with_reducible refine S.nilK ?_ | refine S.nil ?_
              with_reducible repeat (first | refine S.then_n ?_ | refine S.then_x ?_ | refine S.then_r ?_ | refine S.inBlock_n ?_ | refine S.inBlock_r ?_ | refine S.inBlock_x rfl ?_ | refine S.noGoto_r ?_ | refine S.noGoto_n ?_ | refine S.noGoto_x ?_)
              refine hK8 _ _ ?_
              refine S.region rfl ?_
              refine S.op (S.q (q_add rfl rfl (inI64 (by omega) (by omega))) rfl rfl ?_)
              refine S.op (S.q (q_move rfl) rfl rfl ?_)
              first | with_reducible refine S.nilK ?_ | refine S.nil ?_
              with_reducible repeat (first | refine S.then_n ?_ | refine S.then_x ?_ | refine S.then_r ?_ | refine S.inBlock_n ?_ | refine S.inBlock_r ?_ | refine S.inBlock_x rfl ?_ | refine S.noGoto_r ?_ | refine S.noGoto_n ?_ | refine S.noGoto_x ?_)
              first | (rw [hd4]; exact S.next (q - 1) ⟨k + 1, sv2, nl ++ [k], by omega, by omega, hs4, by omega, rfl, rfl⟩ (by omega) (by repeat (first | exact trivial | refine ⟨rfl, ?_⟩)) Sub.ent) | exact S.next (q - 1) ⟨k + 1, sv, nl, by omega, by omega, hs4, hsv, rfl, rfl⟩ (by omega) (by repeat (first | exact trivial | refine ⟨rfl, ?_⟩)) Sub.ent
            · have hs4 : nl = bitU (m.free r) (k + 1) := by rw [bitU, if_neg (by rw [h3]; decide), hnl]
              refine S.skip ?_
              with_reducible repeat (first | refine S.then_n ?_ | refine S.then_x ?_ | refine S.then_r ?_ | refine S.inBlock_n ?_ | refine S.inBlock_r ?_ | refine S.inBlock_x rfl ?_ | refine S.noGoto_r ?_ | refine S.noGoto_n ?_ | refine S.noGoto_x ?_)
              with_reducible repeat (first | refine S.then_n ?_ | refine S.then_x ?_ | refine S.then_r ?_ | refine S.inBlock_n ?_ | refine S.inBlock_r ?_ | refine S.inBlock_x rfl ?_ | refine S.noGoto_r ?_ | refine S.noGoto_n ?_ | refine S.noGoto_x ?_)
              refine hK8 _ _ ?_
              refine S.region rfl ?_
              refine S.op (S.q (q_add rfl rfl (inI64 (by omega) (by omega))) rfl rfl ?_)
              refine S.op (S.q (q_move rfl) rfl rfl ?_)
              first | with_reducible refine S.nilK ?_ | refine S.nil ?_
              with_reducible repeat (first | refine S.then_n ?_ | refine S.then_x ?_ | refine S.then_r ?_ | refine S.inBlock_n ?_ | refine S.inBlock_r ?_ | refine S.inBlock_x rfl ?_ | refine S.noGoto_r ?_ | refine S.noGoto_n ?_ | refine S.noGoto_x ?_)
              first | (rw [hd4]; exact S.next (q - 1) ⟨k + 1, sv2, nl ++ [k], by omega, by omega, hs4, by omega, rfl, rfl⟩ (by omega) (by repeat (first | exact trivial | refine ⟨rfl, ?_⟩)) Sub.ent) | exact S.next (q - 1) ⟨k + 1, sv, nl, by omega, by omega, hs4, hsv, rfl, rfl⟩ (by omega) (by repeat (first | exact trivial | refine ⟨rfl, ?_⟩)) Sub.ent
        · have hkN : k = m.N := by omega
          rw [hkN, bitU_free hm] at hnl
          refine S.exit ?_
          with_reducible repeat (first | refine S.then_n ?_ | refine S.then_x ?_ | refine S.then_r ?_ | refine S.inBlock_n ?_ | refine S.inBlock_r ?_ | refine S.inBlock_x rfl ?_ | refine S.noGoto_r ?_ | refine S.noGoto_n ?_ | refine S.noGoto_x ?_)
          with_reducible refine S.inBlock_s ?_
          with_reducible repeat (first | refine S.then_n ?_ | refine S.then_x ?_ | refine S.then_r ?_ | refine S.inBlock_n ?_ | refine S.inBlock_r ?_ | refine S.inBlock_x rfl ?_ | refine S.noGoto_r ?_ | refine S.noGoto_n ?_ | refine S.noGoto_x ?_)
          with_reducible repeat (first | refine S.then_n ?_ | refine S.then_x ?_ | refine S.then_r ?_ | refine S.inBlock_n ?_ | refine S.inBlock_r ?_ | refine S.inBlock_x rfl ?_ | refine S.noGoto_r ?_ | refine S.noGoto_n ?_ | refine S.noGoto_x ?_)
          first | (rw [hfl]; exact S.meet ⟨SV.nil, rfl, rfl, rfl⟩ ⟨rfl, trivial⟩ Sub.ent) | (rw [hfl, ← hnl]; exact S.meet ⟨sv, hsv, rfl, rfl⟩ ⟨rfl, trivial⟩ Sub.ent)
      · have hfl : freeL m z = [] := by rw [freeL, h1]; rfl
        refine S.skip ?_
        with_reducible repeat (first | refine S.then_n ?_ | refine S.then_x ?_ | refine S.then_r ?_ | refine S.inBlock_n ?_ | refine S.inBlock_r ?_ | refine S.inBlock_x rfl ?_ | refine S.noGoto_r ?_ | refine S.noGoto_n ?_ | refine S.noGoto_x ?_)
        with_reducible repeat (first | refine S.then_n ?_ | refine S.then_x ?_ | refine S.then_r ?_ | refine S.inBlock_n ?_ | refine S.inBlock_r ?_ | refine S.inBlock_x rfl ?_ | refine S.noGoto_r ?_ | refine S.noGoto_n ?_ | refine S.noGoto_x ?_)
        first | (rw [hfl]; exact S.meet ⟨SV.nil, rfl, rfl, rfl⟩ ⟨rfl, trivial⟩ Sub.ent) | (rw [hfl, ← hnl]; exact S.meet ⟨sv, hsv, rfl, rfl⟩ ⟨rfl, trivial⟩ Sub.ent)
    · rintro ρ' Γ' ⟨sv, hsv, rfl, rfl⟩
      refine hK3 _ _ ?_
      refine S.seq fun K11 hK11 => ?_
      refine S.region rfl ?_
      refine S.op (S.q (q_move rfl) rfl rfl ?_)
      refine S.op (S.q (q_assign rfl) rfl rfl ?_)
      first | with_reducible refine S.nilK ?_ | refine S.nil ?_
      refine hK11 _ _ ?_
      refine S.ret ?_
      with_reducible repeat (first | refine S.then_n ?_ | refine S.then_x ?_ | refine S.then_r ?_ | refine S.inBlock_n ?_ | refine S.inBlock_r ?_ | refine S.inBlock_x rfl ?_ | refine S.noGoto_r ?_ | refine S.noGoto_n ?_ | refine S.noGoto_x ?_)
      refine S.riClose b m cs us rs hri ?_
      exact S.fin (rs := [_]) (vs := [_]) Tryd.results44 (⟨rfl, trivial⟩)  (⟨sv, rfl, hsv, rfl⟩) Sub.ent
theorem rRow_S (b : Nat) (m : Mx) (z : Int) : Spec Tryd.prog 19 [.pointer (some ⟨b, 0, none⟩), .int .i64 z] [RI b m] fun Γ v Θ => ∃ sv : SV, v = sv.v ∧ sv.n = (rowIds m z).length ∧ Θ = own sv 68 1 (idsV (rowIds m z)) :: RI b m :: Γ := by
  refine Spec.riOk fun hm => ?_
  refine Spec.of_body Tryd.func19 rfl Tryd.ntmps19 rfl ?_
  intro w0 Γ
  show S _ w0 [(0, .pointer (some ⟨b, 0, none⟩)), (1, .int .i64 z)] (RI b m :: Γ) _
  have hR8 := hm.R8
  have hN16 := hm.N16
  have hN1 := hm.N1
  refine S.riOpen b m fun cs us rs hri => ?_
  have hcn := hri.cn
  refine S.ownSome cs (by have := hm.R1; omega) fun cb co hca _ _ _ => ?_
  refine S.ent (Ent.ownNil 68 1) ?_
  show S _ w0 _ (own SV.nil 68 1 (idsV []) :: riX b m cs us rs Γ) _
  refine S.seq fun K1 hK1 => ?_
  refine S.region rfl ?_
  refine S.op (S.q (q_assign rfl) rfl rfl ?_)
  first | with_reducible refine S.nilK ?_ | refine S.nil ?_
  refine hK1 _ _ ?_
  refine S.seq fun K2 hK2 => ?_
  refine S.region rfl ?_
  refine S.op (S.q (q_assign rfl) rfl rfl ?_)
  first | with_reducible refine S.nilK ?_ | refine S.nil ?_
  refine hK2 _ _ ?_
  refine S.seq fun K3 hK3 => ?_
  refine S.seq fun K4 hK4 => ?_
  refine S.cut (fun ρ' Γ' => ρ' = [(0, .pointer (some ⟨b, 0, none⟩)), (1, .int .i64 z), (5, SV.nil.v), (25, .bool (!rowB m z))] ∧ Γ' = own SV.nil 68 1 (idsV []) :: riX b m cs us rs Γ) ?_ ?_
  · refine S.regionG ?_
    refine S.g_op rfl (S.q (q_move rfl) rfl rfl ?_)
    refine S.g_op rfl (S.q (q_eqN Tryd.underlying26 rfl rfl) rfl rfl ?_)
    refine S.g_op rfl (S.q (q_move rfl) rfl rfl ?_)
    refine S.g_yes rfl rfl rfl (rfl) (S.q (q_move rfl) rfl rfl ?_)
    refine S.g_yes rfl rfl rfl (rfl) (S.q (q_lt rfl rfl) rfl rfl ?_)
    refine S.g_op rfl (S.q (q_pickF rfl (rfl) rfl) rfl rfl ?_)
    refine S.g_op rfl (S.q (q_move rfl) rfl rfl ?_)
    by_cases hg2_6 : z < (0 : Int)
    · refine S.g_no rfl rfl rfl (decide_eq_true hg2_6) rfl rfl ?_
      refine S.g_no rfl rfl rfl (decide_eq_true hg2_6) rfl rfl ?_
      refine S.g_no rfl rfl rfl (decide_eq_true hg2_6) rfl rfl ?_
      refine S.g_no rfl rfl rfl (decide_eq_true hg2_6) rfl rfl ?_
      refine S.g_no rfl rfl rfl (decide_eq_true hg2_6) rfl rfl ?_
      refine S.g_no rfl rfl rfl (decide_eq_true hg2_6) rfl rfl ?_
      refine S.g_no rfl rfl rfl (decide_eq_true hg2_6) rfl rfl ?_
      refine S.g_op rfl (S.q (q_pickT rfl (decide_eq_true hg2_6) rfl) rfl rfl ?_)
      first | with_reducible refine S.g_nilK ?_ | refine S.g_nil ?_
      with_reducible repeat (first | refine S.then_n ?_ | refine S.then_x ?_ | refine S.then_r ?_ | refine S.inBlock_n ?_ | refine S.inBlock_r ?_ | refine S.inBlock_x rfl ?_ | refine S.noGoto_r ?_ | refine S.noGoto_n ?_ | refine S.noGoto_x ?_)
      first | (rw [show rowB m z = false by rw [rowB, decide_eq_false (by omega)]; rfl]; exact S.meet ⟨rfl, rfl⟩ ⟨rfl, rfl, rfl, rfl, trivial⟩ Sub.ent) | (rw [show (!rowB m z) = decide ((cs.n : Int) ≤ z) by rw [rowB, decide_eq_true (by omega), hcn, Bool.true_and, ← decide_not]; exact decide_eq_decide.2 (by omega)]; exact S.meet ⟨rfl, rfl⟩ ⟨rfl, rfl, rfl, rfl, trivial⟩ Sub.ent)
    · refine S.g_yes rfl rfl rfl (decide_eq_false hg2_6) (S.q (q_move rfl) rfl rfl ?_)
      refine S.g_yes rfl rfl rfl (decide_eq_false hg2_6) (S.q (q_move rfl) rfl rfl ?_)
      refine S.g_yes rfl rfl rfl (decide_eq_false hg2_6) (S.q (q_nilCheck rfl) rfl rfl ?_)
      refine S.g_yes rfl rfl rfl (decide_eq_false hg2_6) (S.q (q_field Tryd.fo55_0 rfl) rfl rfl ?_)
      refine S.g_yes rfl rfl rfl (decide_eq_false hg2_6) (S.q (q_load Tryd.at52 rfl rfl) rfl rfl ?_)
      refine S.g_yes rfl rfl rfl (decide_eq_false hg2_6) (S.q (q_len Tryd.underlying52 rfl) rfl rfl ?_)
      refine S.g_yes rfl rfl rfl (decide_eq_false hg2_6) (S.q (q_ge rfl rfl) rfl rfl ?_)
      refine S.g_op rfl (S.q (q_pickF rfl (decide_eq_false hg2_6) rfl) rfl rfl ?_)
      first | with_reducible refine S.g_nilK ?_ | refine S.g_nil ?_
      with_reducible repeat (first | refine S.then_n ?_ | refine S.then_x ?_ | refine S.then_r ?_ | refine S.inBlock_n ?_ | refine S.inBlock_r ?_ | refine S.inBlock_x rfl ?_ | refine S.noGoto_r ?_ | refine S.noGoto_n ?_ | refine S.noGoto_x ?_)
      first | (rw [show rowB m z = false by rw [rowB, decide_eq_false (by omega)]; rfl]; exact S.meet ⟨rfl, rfl⟩ ⟨rfl, rfl, rfl, rfl, trivial⟩ Sub.ent) | (rw [show (!rowB m z) = decide ((cs.n : Int) ≤ z) by rw [rowB, decide_eq_true (by omega), hcn, Bool.true_and, ← decide_not]; exact decide_eq_decide.2 (by omega)]; exact S.meet ⟨rfl, rfl⟩ ⟨rfl, rfl, rfl, rfl, trivial⟩ Sub.ent)
  · rintro ρ' Γ' ⟨rfl, rfl⟩
    refine hK4 _ _ ?_
    refine S.cond rfl (fun h1 => ?_) (fun h1 => ?_)
    · have hfl : rowIds m z = [] := by rw [rowIds, show rowB m z = false by simpa using h1]; rfl
      refine S.seq fun K5 hK5 => ?_
      refine S.region rfl ?_
      refine S.op (S.q (q_assign rfl) rfl rfl ?_)
      first | with_reducible refine S.nilK ?_ | refine S.nil ?_
      refine hK5 _ _ ?_
      refine S.ret ?_
      with_reducible repeat (first | refine S.then_n ?_ | refine S.then_x ?_ | refine S.then_r ?_ | refine S.inBlock_n ?_ | refine S.inBlock_r ?_ | refine S.inBlock_x rfl ?_ | refine S.noGoto_r ?_ | refine S.noGoto_n ?_ | refine S.noGoto_x ?_)
      refine S.riClose b m cs us rs hri ?_
      exact S.fin (rs := [_]) (vs := [_]) Tryd.results19 (⟨rfl, trivial⟩)  (⟨SV.nil, rfl, by rw [hfl]; rfl, by rw [hfl]⟩) Sub.ent
    · have h1 : rowB m z = true := by simpa using h1
      have hz := rowB_iff.1 h1
      obtain ⟨r, rfl⟩ : ∃ r : Nat, z = r := ⟨z.toNat, by omega⟩
      obtain ⟨p, hp, hpd, hpn⟩ := hri.at_ (show r < m.R by omega)
      have hRp : RdS (alls rs rrB) p.1 p.1.n 1 (idsV p.2) := RdS.alls hp RdS.own
      refine S.rSome hRp (by omega) fun pb po hpa => ?_
      refine S.skip ?_
      with_reducible repeat (first | refine S.then_n ?_ | refine S.then_x ?_ | refine S.then_r ?_ | refine S.inBlock_n ?_ | refine S.inBlock_r ?_ | refine S.inBlock_x rfl ?_ | refine S.noGoto_r ?_ | refine S.noGoto_n ?_ | refine S.noGoto_x ?_)
      refine hK3 _ _ ?_
      refine S.seq fun K6 hK6 => ?_
      refine S.seq fun K7 hK7 => ?_
      refine S.region rfl ?_
      refine S.op (S.q (q_move rfl) rfl rfl ?_)
      refine S.op (S.q (q_nilCheck rfl) rfl rfl ?_)
      refine S.op (S.q (q_field Tryd.fo55_0 rfl) rfl rfl ?_)
      refine S.op (S.q (q_load Tryd.at52 rfl rfl) rfl rfl ?_)
      refine S.op (S.q (q_move rfl) rfl rfl ?_)
      refine S.op (S.q (q_indexO (r) Tryd.el52 rfl hca rfl rfl (by omega)) rfl rfl ?_)
      refine S.op (S.q (q_loadOw (cs) (r) Tryd.at31 rfl hca (by first | rfl | exact Nat.add_assoc _ _ _ | omega) (by rw [List.getElem?_map, hp]; rfl)) rfl rfl ?_)
      refine S.op (S.q (q_len Tryd.underlying31 rfl) rfl rfl ?_)
      refine S.op (S.q (q_move rfl) rfl rfl ?_)
      first | with_reducible refine S.nilK ?_ | refine S.nil ?_
      refine hK7 _ _ ?_
      refine S.block ?_
      refine S.loop (fun q ρ' Γ' => ∃ (k : Nat) (sv : SV) (nl : List Nat), q = m.N - k ∧ k ≤ m.N ∧ nl = rowU m r k ∧ sv.n = nl.length ∧ ρ' = [(0, .pointer (some ⟨b, 0, none⟩)), (5, sv.v), (32, p.1.v), (33, .int .i64 p.1.n), (34, .int .i64 (k : Int))] ∧   Γ' = own sv 68 1 (idsV nl) :: riX b m cs us rs Γ) (m := _) (ρ0 := _) (Γ0 := _) (⟨0, SV.nil, [], rfl, by omega, rfl, rfl, rfl, rfl⟩) (by repeat (first | exact trivial | refine ⟨rfl, ?_⟩)) Sub.ent ?_
      rintro q ρ' Γ' ⟨k, sv, nl, hq, hk, hnl, hsv, rfl, rfl⟩
      have hlen := rowU_len m r k
      rw [← hnl] at hlen
      refine S.seq fun K8 hK8 => ?_
      refine S.region rfl ?_
      refine S.op (S.q (q_lt rfl rfl) rfl rfl ?_)
      first | with_reducible refine S.nilK ?_ | refine S.nil ?_
      refine hK8 _ _ ?_
      refine S.seq fun K9 hK9 => ?_
      refine S.condD rfl (fun h2 => ?_) (fun h2 => ?_)
      · obtain ⟨x, hx⟩ : ∃ x, x = atJ m.js r k := ⟨_, rfl⟩
        have hxa := rowN_get (m := m) (i := k) (by omega) r
        have hcell := rowAt_cell hm (r := r) (k := k)
        rw [← hpd, ← hx] at hxa
        rw [← hx] at hcell
        have hsucc := rowU_succ m r k
        have hok : (ofR m x).2.2 = true → ∃ y, look m.js x = some y ∧ y.id = x ∧ rowAt m r k = (if tz y.ns = k then some y else none) ∧ lst y.ns ≠ [] := fun h => by
          rcases hcell with ⟨h0, _⟩ | ⟨y, h2, h3, _, h4⟩
          · rw [ofR_none (show look m.js x = none from (by
              cases e : look m.js x with
              | none => rfl
              | some y => have := look_some e; have := hm.id1 y this.1; omega))] at h
            cases h
          · exact ⟨y, h2, h3, h4, fun e => hm.some y (look_some h2).1 (lst_nil.1 e)⟩
        have hno : (ofR m x).2.2 = false → rowAt m r k = none := fun h => by
          rcases hcell with ⟨_, h0⟩ | ⟨y, h2, _, _, _⟩
          · exact h0
          · rw [ofR_some h2] at h; cases h
        refine S.skip ?_
        with_reducible repeat (first | refine S.then_n ?_ | refine S.then_x ?_ | refine S.then_r ?_ | refine S.inBlock_n ?_ | refine S.inBlock_r ?_ | refine S.inBlock_x rfl ?_ | refine S.noGoto_r ?_ | refine S.noGoto_n ?_ | refine S.noGoto_x ?_)
        refine hK9 _ _ ?_
        refine S.seq fun K10 hK10 => ?_
        refine S.block ?_
        refine S.seq fun K11 hK11 => ?_
        refine S.region rfl ?_
        refine S.op (S.q (q_move rfl) rfl rfl ?_)
        refine S.op (S.q (q_indexO (k) Tryd.el31 rfl hpa rfl rfl (by omega)) rfl rfl ?_)
        refine S.op (S.q (q_loadR hRp k Tryd.at68 rfl hpa (by omega) (by omega) (idsV_get hxa)) rfl rfl ?_)
        refine S.op (S.q (q_assign rfl) rfl rfl ?_)
        refine S.op (S.q (q_assign rfl) rfl rfl ?_)
        first | with_reducible refine S.nilK ?_ | refine S.nil ?_
        refine hK11 _ _ ?_
        refine S.seq fun K12 hK12 => ?_
        refine S.region rfl ?_
        refine S.op (S.q (q_move rfl) rfl rfl ?_)
        refine S.op (S.q (q_move rfl) rfl rfl ?_)
        refine S.op (S.call Tryd.en46 (vs := [_, _]) ⟨rfl, rfl, trivial⟩ (rOfX_S b m x cs us rs hri) rfl ?_)
        rintro v Θ ⟨nv1, rfl, hnv, rfl⟩
        refine S.op (S.q (q_move rfl) rfl rfl ?_)
        refine S.op (S.q (q_extract rfl rfl) rfl rfl ?_)
        refine S.op (S.q (q_extract rfl rfl) rfl rfl ?_)
        refine S.op (S.q (q_extract rfl rfl) rfl rfl ?_)
        refine S.op (S.q (q_assign rfl) rfl rfl ?_)
        refine S.op (S.q (q_assign rfl) rfl rfl ?_)
        refine S.op (S.q (q_assign rfl) rfl rfl ?_)
        first | with_reducible refine S.nilK ?_ | refine S.nil ?_
        refine hK12 _ _ ?_
        refine S.seq fun K13 hK13 => ?_
        refine S.cut (fun ρ' Γ' => ∃ bb : Bool, rowU m r (k + 1) = (if bb = true then nl ++ [x] else nl) ∧ ρ' = [(0, .pointer (some ⟨b, 0, none⟩)), (5, sv.v), (7, .int .u32 (x : Int)), (32, p.1.v), (33, .int .i64 p.1.n), (34, .int .i64 (k : Int)), (53, .bool bb)] ∧ Γ' = own sv 68 1 (idsV nl) :: riX b m cs us rs Γ) ?_ ?_
        · refine S.regionG ?_
          refine S.g_op rfl (S.q (q_move rfl) rfl rfl ?_)
          refine S.g_op rfl (S.q (q_move rfl) rfl rfl ?_)
          rcases Bool.eq_false_or_eq_true ((ofR m x).2.2) with hg8_1 | hg8_1
          · obtain ⟨y, hy1, hy2, hy3, hy4⟩ := hok hg8_1
            have hof := ofR_some hy1
            have hlp : 0 < (lst y.ns).length := List.length_pos_iff.2 hy4
            have hl0 : (lst y.ns)[0]? = some (tz y.ns) := by
              rw [tz]
              cases e : lst y.ns with
              | nil => exact absurd e hy4
              | cons t l => rfl
            rw [hof] at hnv hg8_1
            have hnv : nv1.n = (lst y.ns).length := hnv
            refine S.ownSome nv1 (by omega) fun nb no hna _ _ _ => ?_
            rw [hof]
            show S _ w0 _ (own nv1 3 1 (nds (lst y.ns)) :: _) _
            refine S.g_yes rfl rfl rfl (hg8_1) (S.q (q_move rfl) rfl rfl ?_)
            refine S.g_yes rfl rfl rfl (hg8_1) (S.q (q_indexO (0) Tryd.el69 rfl hna rfl rfl (by omega)) rfl rfl ?_)
            refine S.g_yes rfl rfl rfl (hg8_1) (S.q (q_loadOw (nv1) (0) Tryd.at3 rfl hna (by first | rfl | exact Nat.add_assoc _ _ _ | omega) (by rw [List.getElem?_map, hl0]; rfl)) rfl rfl ?_)
            refine S.g_yes rfl rfl rfl (hg8_1) (S.q (q_move rfl) rfl rfl ?_)
            refine S.g_yes rfl rfl rfl (hg8_1) (S.q (q_eq rfl rfl) rfl rfl ?_)
            refine S.g_op rfl (S.q (q_pickT rfl (hg8_1) rfl) rfl rfl ?_)
            first | with_reducible refine S.g_nilK ?_ | refine S.g_nil ?_
            with_reducible repeat (first | refine S.then_n ?_ | refine S.then_x ?_ | refine S.then_r ?_ | refine S.inBlock_n ?_ | refine S.inBlock_r ?_ | refine S.inBlock_x rfl ?_ | refine S.noGoto_r ?_ | refine S.noGoto_n ?_ | refine S.noGoto_x ?_)
            first | exact S.meet ⟨false, by rw [hsucc, hno hg8_1, hnl]; simp, rfl, rfl⟩ ⟨rfl, rfl, rfl, rfl, rfl, rfl, rfl, trivial⟩ Sub.ent | exact S.meet ⟨decide ((tz y.ns : Int) = (k : Int)), (by rw [hsucc, hy3, hnl]; by_cases e : tz y.ns = k <;> simp [e, hy2]; omega), rfl, rfl⟩ ⟨rfl, rfl, rfl, rfl, rfl, rfl, rfl, trivial⟩ Sub.ent
          · refine S.g_no rfl rfl rfl (hg8_1) rfl rfl ?_
            refine S.g_no rfl rfl rfl (hg8_1) rfl rfl ?_
            refine S.g_no rfl rfl rfl (hg8_1) rfl rfl ?_
            refine S.g_no rfl rfl rfl (hg8_1) rfl rfl ?_
            refine S.g_no rfl rfl rfl (hg8_1) rfl rfl ?_
            refine S.g_op rfl (S.q (q_pickF rfl (hg8_1) rfl) rfl rfl ?_)
            first | with_reducible refine S.g_nilK ?_ | refine S.g_nil ?_
            with_reducible repeat (first | refine S.then_n ?_ | refine S.then_x ?_ | refine S.then_r ?_ | refine S.inBlock_n ?_ | refine S.inBlock_r ?_ | refine S.inBlock_x rfl ?_ | refine S.noGoto_r ?_ | refine S.noGoto_n ?_ | refine S.noGoto_x ?_)
            first | exact S.meet ⟨false, by rw [hsucc, hno hg8_1, hnl]; simp, rfl, rfl⟩ ⟨rfl, rfl, rfl, rfl, rfl, rfl, rfl, trivial⟩ Sub.ent | exact S.meet ⟨decide ((tz y.ns : Int) = (k : Int)), (by rw [hsucc, hy3, hnl]; by_cases e : tz y.ns = k <;> simp [e, hy2]; omega), rfl, rfl⟩ ⟨rfl, rfl, rfl, rfl, rfl, rfl, rfl, trivial⟩ Sub.ent
        · rintro ρ' Γ' ⟨bb, hbb, rfl, rfl⟩
          clear hcell hok hno hsucc
          refine hK13 _ _ ?_
          refine S.cond rfl (fun h3 => ?_) (fun h3 => ?_)
          · rw [h3] at hbb
            have hs4 : nl ++ [x] = rowU m r (k + 1) := by rw [hbb]; rfl
            have hl4 : (nl ++ [x]).length = nl.length + 1 := by simp
            have hd4 : idsV nl ++ [.int .u32 (x : Int)] = idsV (nl ++ [x]) := by simp
            refine S.region rfl ?_
            refine S.op (S.q (q_move rfl) rfl rfl ?_)
            refine S.op (S.q (q_move rfl) rfl rfl ?_)
            refine S.op (S.buildSlice (pvs := [(_, _)]) [_] Tryd.underlying31 Tryd.inf68 rfl rfl ⟨⟨rfl, rfl⟩, trivial⟩ rfl rfl ?_)
            intro b56
            refine S.op (S.appendOw (s := sv) (1) ([.int .u32 (x : Int)]) Tryd.underlying31 Tryd.inf68 rfl rfl rfl (blk_slAt (b := b56) rfl (by unfold maxLen; omega)) (by first | rfl | exact allOne_bcells _) (⟨by omega, by omega⟩) rfl ?_)
            intro sv2 hsv2
            refine S.op (S.q (q_assign rfl) rfl rfl ?_)
            first | with_reducible refine S.nilK ?_ | refine S.nil ?_
            with_reducible repeat (first | refine S.then_n ?_ | refine S.then_x ?_ | refine S.then_r ?_ | refine S.inBlock_n ?_ | refine S.inBlock_r ?_ | refine S.inBlock_x rfl ?_ | refine S.noGoto_r ?_ | refine S.noGoto_n ?_ | refine S.noGoto_x ?_)
            refine hK10 _ _ ?_
            refine S.region rfl ?_
            refine S.op (S.q (q_add rfl rfl (inI64 (by omega) (by omega))) rfl rfl ?_)
            refine S.op (S.q (q_move rfl) rfl rfl ?_)
            first | with_reducible refine S.nilK ?_ | refine S.nil ?_
            with_reducible repeat (first | refine S.then_n ?_ | refine S.then_x ?_ | refine S.then_r ?_ | refine S.inBlock_n ?_ | refine S.inBlock_r ?_ | refine S.inBlock_x rfl ?_ | refine S.noGoto_r ?_ | refine S.noGoto_n ?_ | refine S.noGoto_x ?_)
            first | (rw [hd4]; exact S.next (q - 1) ⟨k + 1, sv2, nl ++ [x], by omega, by omega, hs4, by omega, rfl, rfl⟩ (by omega) (by repeat (first | exact trivial | refine ⟨rfl, ?_⟩)) Sub.ent) | exact S.next (q - 1) ⟨k + 1, sv, nl, by omega, by omega, hs4, hsv, rfl, rfl⟩ (by omega) (by repeat (first | exact trivial | refine ⟨rfl, ?_⟩)) Sub.ent
          · rw [h3] at hbb
            have hs4 : nl = rowU m r (k + 1) := by rw [hbb]; rfl
            refine S.skip ?_
            with_reducible repeat (first | refine S.then_n ?_ | refine S.then_x ?_ | refine S.then_r ?_ | refine S.inBlock_n ?_ | refine S.inBlock_r ?_ | refine S.inBlock_x rfl ?_ | refine S.noGoto_r ?_ | refine S.noGoto_n ?_ | refine S.noGoto_x ?_)
            with_reducible repeat (first | refine S.then_n ?_ | refine S.then_x ?_ | refine S.then_r ?_ | refine S.inBlock_n ?_ | refine S.inBlock_r ?_ | refine S.inBlock_x rfl ?_ | refine S.noGoto_r ?_ | refine S.noGoto_n ?_ | refine S.noGoto_x ?_)
            refine hK10 _ _ ?_
            refine S.region rfl ?_
            refine S.op (S.q (q_add rfl rfl (inI64 (by omega) (by omega))) rfl rfl ?_)
            refine S.op (S.q (q_move rfl) rfl rfl ?_)
            first | with_reducible refine S.nilK ?_ | refine S.nil ?_
            with_reducible repeat (first | refine S.then_n ?_ | refine S.then_x ?_ | refine S.then_r ?_ | refine S.inBlock_n ?_ | refine S.inBlock_r ?_ | refine S.inBlock_x rfl ?_ | refine S.noGoto_r ?_ | refine S.noGoto_n ?_ | refine S.noGoto_x ?_)
            first | (rw [hd4]; exact S.next (q - 1) ⟨k + 1, sv2, nl ++ [x], by omega, by omega, hs4, by omega, rfl, rfl⟩ (by omega) (by repeat (first | exact trivial | refine ⟨rfl, ?_⟩)) Sub.ent) | exact S.next (q - 1) ⟨k + 1, sv, nl, by omega, by omega, hs4, hsv, rfl, rfl⟩ (by omega) (by repeat (first | exact trivial | refine ⟨rfl, ?_⟩)) Sub.ent
      · have hkN : k = m.N := by omega
        rw [hkN, rowU_all hm (by omega)] at hnl
        subst hnl
        refine S.exit ?_
        with_reducible repeat (first | refine S.then_n ?_ | refine S.then_x ?_ | refine S.then_r ?_ | refine S.inBlock_n ?_ | refine S.inBlock_r ?_ | refine S.inBlock_x rfl ?_ | refine S.noGoto_r ?_ | refine S.noGoto_n ?_ | refine S.noGoto_x ?_)
        with_reducible refine S.inBlock_s ?_
        with_reducible repeat (first | refine S.then_n ?_ | refine S.then_x ?_ | refine S.then_r ?_ | refine S.inBlock_n ?_ | refine S.inBlock_r ?_ | refine S.inBlock_x rfl ?_ | refine S.noGoto_r ?_ | refine S.noGoto_n ?_ | refine S.noGoto_x ?_)
        refine hK6 _ _ ?_
        refine S.seq fun K14 hK14 => ?_
        refine S.region rfl ?_
        refine S.op (S.q (q_move rfl) rfl rfl ?_)
        refine S.op (S.q (q_assign rfl) rfl rfl ?_)
        first | with_reducible refine S.nilK ?_ | refine S.nil ?_
        refine hK14 _ _ ?_
        refine S.ret ?_
        with_reducible repeat (first | refine S.then_n ?_ | refine S.then_x ?_ | refine S.then_r ?_ | refine S.inBlock_n ?_ | refine S.inBlock_r ?_ | refine S.inBlock_x rfl ?_ | refine S.noGoto_r ?_ | refine S.noGoto_n ?_ | refine S.noGoto_x ?_)
        refine S.riClose b m cs us rs hri ?_
        exact S.fin (rs := [_]) (vs := [_]) Tryd.results19 (⟨rfl, trivial⟩)  (⟨sv, rfl, hsv, rfl⟩) Sub.ent
theorem rRemove_S (b : Nat) (m : Mx) (j : Nat) : Spec Tryd.prog 33 [.pointer (some ⟨b, 0, none⟩), .int .u32 (j : Int)] [RI b m] fun Γ v Θ => v = .int .i64 (removeR m j).1 ∧ Θ = RI b (removeR m j).2 :: Γ := by
  refine Spec.riOk fun hm => ?_
  refine Spec.of_body Tryd.func33 rfl Tryd.ntmps33 rfl ?_
  intro w0 Γ
  show S _ w0 [(0, .pointer (some ⟨b, 0, none⟩)), (1, .int .u32 (j : Int))] (RI b m :: Γ) _
  have hR8 := hm.R8
  have hN16 := hm.N16
  refine S.seq fun K1 hK1 => ?_
  refine S.region rfl ?_
  refine S.op (S.q (q_assign rfl) rfl rfl ?_)
  first | with_reducible refine S.nilK ?_ | refine S.nil ?_
  refine hK1 _ _ ?_
  refine S.seq fun K2 hK2 => ?_
  refine S.region rfl ?_
  refine S.op (S.q (q_move rfl) rfl rfl ?_)
  refine S.op (S.q (q_move rfl) rfl rfl ?_)
  refine S.op (S.call Tryd.en46 (vs := [_, _]) ⟨rfl, rfl, trivial⟩ (rOf_S b m j) rfl ?_)
  rintro v Θ ⟨sv, rfl, hsv, rfl⟩
  refine S.op (S.q (q_move rfl) rfl rfl ?_)
  refine S.op (S.q (q_extract rfl rfl) rfl rfl ?_)
  refine S.op (S.q (q_extract rfl rfl) rfl rfl ?_)
  refine S.op (S.q (q_extract rfl rfl) rfl rfl ?_)
  refine S.op (S.q (q_assign rfl) rfl rfl ?_)
  refine S.op (S.q (q_assign rfl) rfl rfl ?_)
  refine S.op (S.q (q_assign rfl) rfl rfl ?_)
  first | with_reducible refine S.nilK ?_ | refine S.nil ?_
  refine hK2 _ _ ?_
  refine S.seq fun K3 hK3 => ?_
  refine S.seq fun K4 hK4 => ?_
  refine S.region rfl ?_
  refine S.op (S.q (q_move rfl) rfl rfl ?_)
  refine S.op (S.q (q_not rfl) rfl rfl ?_)
  first | with_reducible refine S.nilK ?_ | refine S.nil ?_
  refine hK4 _ _ ?_
  refine S.cond rfl (fun h1 => ?_) (fun h1 => ?_)
  · have hlk : look m.js j = none := by
      cases h : look m.js j with
      | none => rfl
      | some x => rw [ofR_some h] at h1; cases h1
    have hrm := removeR_none hlk
    refine S.seq fun K5 hK5 => ?_
    refine S.region rfl ?_
    refine S.op (S.q (q_assign rfl) rfl rfl ?_)
    first | with_reducible refine S.nilK ?_ | refine S.nil ?_
    refine hK5 _ _ ?_
    refine S.ret ?_
    with_reducible repeat (first | refine S.then_n ?_ | refine S.then_x ?_ | refine S.then_r ?_ | refine S.inBlock_n ?_ | refine S.inBlock_r ?_ | refine S.inBlock_x rfl ?_ | refine S.noGoto_r ?_ | refine S.noGoto_n ?_ | refine S.noGoto_x ?_)
    exact S.fin (rs := [_]) (vs := [_]) Tryd.results33 (⟨rfl, trivial⟩)  (⟨by rw [hrm]; rfl, by rw [hrm]⟩) Sub.ent
  · obtain ⟨x, hlk⟩ : ∃ x, look m.js j = some x := by
      cases h : look m.js j with
      | none => rw [ofR_none h] at h1; cases h1
      | some x => exact ⟨x, rfl⟩
    obtain ⟨hx, hxj⟩ := look_some hlk
    have hrm := removeR_some hlk
    have hof := ofR_some hlk
    have hxr := hm.row x hx
    rw [hof] at hsv
    have hsv : sv.n = (lst x.ns).length := hsv
    rw [hof]
    show S _ w0 _ (own sv 3 1 (nds (lst x.ns)) :: RI b m :: Γ) _
    have hl16 := lst_len x.ns
    have hl1 : 0 < (lst x.ns).length := List.length_pos_iff.2 fun e => hm.some x hx (lst_nil.1 e)
    refine S.ownSome sv (by omega) fun sb so hsa _ _ _ => ?_
    refine S.riOpen b m fun cs us rs hri => ?_
    have hcn := hri.cn
    refine S.ownSome cs (by omega) fun cb co hca _ _ _ => ?_
    obtain ⟨p, hp, hpd, hpn⟩ := hri.at_ hxr
    refine S.rSome (RdS.alls (F := rrB) hp RdS.own) (by have := hm.N1; omega) fun pb po hpa => ?_
    refine S.conv (alls rs rrB) (Ent.allsAt rrB hp _) ?_
    show S _ w0 _ (own p.1 68 1 (idsV p.2) :: alls (rs.take x.row) rrB :: alls (rs.drop (x.row + 1)) rrB :: _) _
    refine S.skip ?_
    with_reducible repeat (first | refine S.then_n ?_ | refine S.then_x ?_ | refine S.then_r ?_ | refine S.inBlock_n ?_ | refine S.inBlock_r ?_ | refine S.inBlock_x rfl ?_ | refine S.noGoto_r ?_ | refine S.noGoto_n ?_ | refine S.noGoto_x ?_)
    refine hK3 _ _ ?_
    refine S.seq fun K6 hK6 => ?_
    refine S.seq fun K7 hK7 => ?_
    refine S.region rfl ?_
    refine S.op (S.q (q_move rfl) rfl rfl ?_)
    refine S.op (S.q (q_len Tryd.underlying69 rfl) rfl rfl ?_)
    refine S.op (S.q (q_move rfl) rfl rfl ?_)
    first | with_reducible refine S.nilK ?_ | refine S.nil ?_
    refine hK7 _ _ ?_
    refine S.block ?_
    refine S.loop (fun q ρ' Γ' => ∃ (i : Nat) (d : List Nat), q = (lst x.ns).length - i ∧ i ≤ (lst x.ns).length ∧ d = setAll p.2 ((lst x.ns).take i) 0 ∧ ρ' = [(0, .pointer (some ⟨b, 0, none⟩)), (5, .int .i64 (x.row : Int)), (19, sv.v), (20, .int .i64 sv.n), (21, .int .i64 (i : Int))] ∧   Γ' = own p.1 68 1 (idsV d) :: alls (rs.take x.row) rrB :: alls (rs.drop (x.row + 1)) rrB :: blk b 55 #[cs.v, us.v] :: own cs 31 1 (rs.map rrV) :: own us 4 1 (upC m) :: own sv 3 1 (nds (lst x.ns)) :: Γ) (m := _) (ρ0 := _) (Γ0 := _) (⟨0, p.2, rfl, by omega, rfl, rfl, rfl⟩) (by repeat (first | exact trivial | refine ⟨rfl, ?_⟩)) Sub.ent ?_
    rintro q ρ' Γ' ⟨i, d, hq, hi, hd, rfl, rfl⟩
    have hdl : d.length = m.N := by rw [hd, setAll_len, hpd, rowN_len]
    refine S.seq fun K8 hK8 => ?_
    refine S.region rfl ?_
    refine S.op (S.q (q_lt rfl rfl) rfl rfl ?_)
    first | with_reducible refine S.nilK ?_ | refine S.nil ?_
    refine hK8 _ _ ?_
    refine S.seq fun K9 hK9 => ?_
    refine S.condD rfl (fun h2 => ?_) (fun h2 => ?_)
    · have hg := List.getElem?_eq_getElem (show i < (lst x.ns).length by omega)
      obtain ⟨y, hy⟩ : ∃ y, (lst x.ns)[i]? = some y := ⟨_, hg⟩
      have hyN : y < m.N := hm.ns x hx y (mem_lst.1 (List.mem_of_getElem? hy))
      have hd2 : d.set y 0 = setAll p.2 ((lst x.ns).take (i + 1)) 0 := by rw [hd, ← setAll_snoc, List.take_add_one, hy]; rfl
      refine S.skip ?_
      with_reducible repeat (first | refine S.then_n ?_ | refine S.then_x ?_ | refine S.then_r ?_ | refine S.inBlock_n ?_ | refine S.inBlock_r ?_ | refine S.inBlock_x rfl ?_ | refine S.noGoto_r ?_ | refine S.noGoto_n ?_ | refine S.noGoto_x ?_)
      refine hK9 _ _ ?_
      refine S.seq fun K10 hK10 => ?_
      refine S.block ?_
      refine S.seq fun K11 hK11 => ?_
      refine S.region rfl ?_
      refine S.op (S.q (q_indexO (i) Tryd.el69 rfl hsa rfl rfl (by omega)) rfl rfl ?_)
      refine S.op (S.q (q_loadOw (sv) (i) Tryd.at3 rfl hsa (by first | rfl | exact Nat.add_assoc _ _ _ | omega) (by rw [List.getElem?_map, hy]; rfl)) rfl rfl ?_)
      refine S.op (S.q (q_assign rfl) rfl rfl ?_)
      first | with_reducible refine S.nilK ?_ | refine S.nil ?_
      refine hK11 _ _ ?_
      refine S.region rfl ?_
      refine S.op (S.q (q_move rfl) rfl rfl ?_)
      refine S.op (S.q (q_nilCheck rfl) rfl rfl ?_)
      refine S.op (S.q (q_field Tryd.fo55_0 rfl) rfl rfl ?_)
      refine S.op (S.q (q_load Tryd.at52 rfl rfl) rfl rfl ?_)
      refine S.op (S.q (q_move rfl) rfl rfl ?_)
      refine S.op (S.q (q_indexO (x.row) Tryd.el52 rfl hca rfl rfl (by omega)) rfl rfl ?_)
      refine S.op (S.q (q_loadOw (cs) (x.row) Tryd.at31 rfl hca (by first | rfl | exact Nat.add_assoc _ _ _ | omega) (by rw [List.getElem?_map, hp]; rfl)) rfl rfl ?_)
      refine S.op (S.q (q_move rfl) rfl rfl ?_)
      refine S.op (S.q (q_indexO (y) Tryd.el31 rfl hpa rfl rfl (by omega)) rfl rfl ?_)
      refine S.op (S.storeOw (p.1) (y) Tryd.at68 rfl rfl rfl hpa (by first | rfl | exact Nat.add_assoc _ _ _ | omega) (by rw [List.length_map]; omega) (idsV_set d y 0) ?_)
      first | with_reducible refine S.nilK ?_ | refine S.nil ?_
      with_reducible repeat (first | refine S.then_n ?_ | refine S.then_x ?_ | refine S.then_r ?_ | refine S.inBlock_n ?_ | refine S.inBlock_r ?_ | refine S.inBlock_x rfl ?_ | refine S.noGoto_r ?_ | refine S.noGoto_n ?_ | refine S.noGoto_x ?_)
      refine hK10 _ _ ?_
      refine S.region rfl ?_
      refine S.op (S.q (q_add rfl rfl (inI64 (by omega) (by omega))) rfl rfl ?_)
      refine S.op (S.q (q_move rfl) rfl rfl ?_)
      first | with_reducible refine S.nilK ?_ | refine S.nil ?_
      with_reducible repeat (first | refine S.then_n ?_ | refine S.then_x ?_ | refine S.then_r ?_ | refine S.inBlock_n ?_ | refine S.inBlock_r ?_ | refine S.inBlock_x rfl ?_ | refine S.noGoto_r ?_ | refine S.noGoto_n ?_ | refine S.noGoto_x ?_)
      exact S.next (q - 1) (⟨i + 1, d.set y 0, by omega, by omega, hd2, rfl, rfl⟩) (by omega) (by repeat (first | exact trivial | refine ⟨rfl, ?_⟩)) Sub.ent
    · have hie : i = (lst x.ns).length := by omega
      rw [hie, List.take_length] at hd
      have hok' := hm.del x.id
      have hri2 : RiOk (m.del x.id) cs us (rs.set x.row (p.1, d)) := hri.set hok' rfl rfl hp (by rw [hd, hpd, rowN_del hm hx, if_pos rfl]) (fun o ho => by rw [rowN_del hm hx, if_neg ho])
      refine S.conv3 (own p.1 68 1 (idsV d)) (alls (rs.take x.row) rrB) (alls (rs.drop (x.row + 1)) rrB) (Ent.allsBack rrB (x' := (p.1, d)) hp _) ?_
      rw [← rrV_set hp d, show upC m = upC (m.del x.id) from rfl]
      refine S.exit ?_
      with_reducible repeat (first | refine S.then_n ?_ | refine S.then_x ?_ | refine S.then_r ?_ | refine S.inBlock_n ?_ | refine S.inBlock_r ?_ | refine S.inBlock_x rfl ?_ | refine S.noGoto_r ?_ | refine S.noGoto_n ?_ | refine S.noGoto_x ?_)
      with_reducible refine S.inBlock_s ?_
      with_reducible repeat (first | refine S.then_n ?_ | refine S.then_x ?_ | refine S.then_r ?_ | refine S.inBlock_n ?_ | refine S.inBlock_r ?_ | refine S.inBlock_x rfl ?_ | refine S.noGoto_r ?_ | refine S.noGoto_n ?_ | refine S.noGoto_x ?_)
      refine hK6 _ _ ?_
      refine S.seq fun K12 hK12 => ?_
      refine S.region rfl ?_
      refine S.op (S.q (q_assign rfl) rfl rfl ?_)
      first | with_reducible refine S.nilK ?_ | refine S.nil ?_
      refine hK12 _ _ ?_
      refine S.ret ?_
      with_reducible repeat (first | refine S.then_n ?_ | refine S.then_x ?_ | refine S.then_r ?_ | refine S.inBlock_n ?_ | refine S.inBlock_r ?_ | refine S.inBlock_x rfl ?_ | refine S.noGoto_r ?_ | refine S.noGoto_n ?_ | refine S.noGoto_x ?_)
      refine S.riClose b (m.del x.id) cs us (rs.set x.row (p.1, d)) hri2 ?_
      exact S.fin (rs := [_]) (vs := [_]) Tryd.results33 (⟨rfl, trivial⟩)  (⟨by rw [hrm]; rfl, by rw [hrm, ← hxj]⟩) Sub.ent
theorem place_put {m : Mx} (hm : MxOk m) {j r k : Nat} (hlk : look m.js j = none) (hj : 1 ≤ j) (hr : r < m.R) (hk : 1 ≤ k) (hl : k ≤ (lst (m.free r)).length) : ((lst (m.free r)).take k).length = k ∧ okUp m (casts ((lst (m.free r)).take k)) (casts ((lst (m.free r)).take k)).length = true ∧ putR m j r (casts ((lst (m.free r)).take k)) = (0, m.add ⟨j, r, leastK (m.free r) k⟩) := by
  obtain ⟨g1, g2, g3⟩ := place_ok hm (r := r) (k := k) hk hl
  have hlk2 := lst_leastK (m.free r) k
  have hlen : ((lst (m.free r)).take k).length = k := by rw [List.length_take]; omega
  have hok2 : okUp m (casts ((lst (m.free r)).take k)) (casts ((lst (m.free r)).take k)).length = true := by
    rw [← hlk2, List.length_map]
    exact okUp_lst m _ g2 _ (Nat.le_refl _)
  have hnats : nats (casts ((lst (m.free r)).take k)) = (lst (m.free r)).take k := by rw [← hlk2]; exact nats_lst _
  have hof : ofL ((lst (m.free r)).take k) = leastK (m.free r) k := by rw [leastK]
  refine ⟨hlen, hok2, ?_⟩
  rw [putR, putOk, hok2, hlk, Int.toNat_natCast, hnats, hof, decide_eq_true (show ((j : Nat) : Int) ≠ 0 by omega), rowB_iff.2 ⟨by omega, by omega⟩, List.length_map, hlen, decide_eq_true (show ((k : Nat) : Int) > 0 by omega), if_neg (by decide), if_neg (by decide), if_neg (fun h => h g3)]
theorem place_yes {m : Mx} {j r : Nat} {k : Int} (h2 : ¬ ((j : Int) = 0 ∨ k < 1)) (hlk : look m.js j = none) (h4 : k ≤ m.N) (hr : r < m.R) (hn : placeRow m k.toNat r = none) (hl : k.toNat ≤ (lst (m.free r)).length) : placeR m j k = (((r : Int), (lst (m.free r)).take k.toNat, 0), m.add ⟨j, r, leastK (m.free r) k.toNat⟩) := by
  have hpr : placeRow m k.toNat (r + 1) = some r := by simp only [placeRow, hn]; rw [if_pos hl]
  have hpr2 := placeRow_mono hpr (show r + 1 ≤ m.R by omega)
  rw [placeR, if_neg (by omega), hlk, if_neg (by decide), if_neg (by omega), hpr2]
theorem place_no {m : Mx} {j : Nat} {k : Int} (h2 : ¬ ((j : Int) = 0 ∨ k < 1)) (hlk : look m.js j = none) (h4 : k ≤ m.N) (hn : placeRow m k.toNat m.R = none) : placeR m j k = ((0, [], 8), m) := by
  rw [placeR, if_neg (by omega), hlk, if_neg (by decide), if_neg (by omega), hn]
theorem placeRow_step {m : Mx} {k r : Nat} (hn : placeRow m k r = none) (h : ¬ k ≤ (lst (m.free r)).length) : placeRow m k (r + 1) = none := by
  simp only [placeRow, hn]
  rw [if_neg h]
theorem rPlace_S (b : Nat) (m : Mx) (j : Nat) (k : Int) (hj : j ≤ 4294967295) (hk : k ≤ 9223372036854775807) : Spec Tryd.prog 28 [.pointer (some ⟨b, 0, none⟩), .int .u32 (j : Int), .int .i64 k] [RI b m] fun Γ v Θ => ∃ sv : SV, v = .tuple #[.int .i64 (placeR m j k).1.1, sv.v, .int .i64 (placeR m j k).1.2.2] ∧ sv.n = (placeR m j k).1.2.1.length ∧
    Θ = own sv 3 1 (nds (placeR m j k).1.2.1) :: RI b (placeR m j k).2 :: Γ := by
  refine Spec.riOk fun hm => ?_
  refine Spec.of_body Tryd.func28 rfl Tryd.ntmps28 rfl ?_
  intro w0 Γ
  show S _ w0 [(0, .pointer (some ⟨b, 0, none⟩)), (1, .int .u32 (j : Int)), (2, .int .i64 k)] (RI b m :: Γ) _
  have hR8 := hm.R8
  have hN16 := hm.N16
  refine S.seq fun K1 hK1 => ?_
  refine S.region rfl ?_
  refine S.op (S.q (q_assign rfl) rfl rfl ?_)
  refine S.op (S.q (q_assign rfl) rfl rfl ?_)
  refine S.op (S.q (q_assign rfl) rfl rfl ?_)
  first | with_reducible refine S.nilK ?_ | refine S.nil ?_
  refine hK1 _ _ ?_
  refine S.seq fun K2 hK2 => ?_
  refine S.seq fun K3 hK3 => ?_
  refine S.region rfl ?_
  refine S.op (S.q (q_move rfl) rfl rfl ?_)
  refine S.op (S.q (q_eqN Tryd.underlying26 rfl rfl) rfl rfl ?_)
  first | with_reducible refine S.nilK ?_ | refine S.nil ?_
  refine hK3 _ _ ?_
  refine S.condF rfl ?_
  refine S.skip ?_
  with_reducible repeat (first | refine S.then_n ?_ | refine S.then_x ?_ | refine S.then_r ?_ | refine S.inBlock_n ?_ | refine S.inBlock_r ?_ | refine S.inBlock_x rfl ?_ | refine S.noGoto_r ?_ | refine S.noGoto_n ?_ | refine S.noGoto_x ?_)
  refine hK2 _ _ ?_
  refine S.seq fun K4 hK4 => ?_
  refine S.seq fun K5 hK5 => ?_
  refine S.cut (fun ρ' Γ' => ρ' = [(0, .pointer (some ⟨b, 0, none⟩)), (1, .int .u32 (j : Int)), (2, .int .i64 k), (21, .bool (decide ((j : Int) = 0 ∨ k < 1)))] ∧ Γ' = RI b m :: Γ) ?_ ?_
  · refine S.regionG ?_
    refine S.g_op rfl (S.q (q_move rfl) rfl rfl ?_)
    refine S.g_op rfl (S.q (q_eq rfl rfl) rfl rfl ?_)
    refine S.g_op rfl (S.q (q_move rfl) rfl rfl ?_)
    by_cases hg3_2 : (j : Int) = 0
    · refine S.g_no rfl rfl rfl (decide_eq_true hg3_2) rfl rfl ?_
      refine S.g_no rfl rfl rfl (decide_eq_true hg3_2) rfl rfl ?_
      refine S.g_op rfl (S.q (q_pickT rfl (decide_eq_true hg3_2) rfl) rfl rfl ?_)
      first | with_reducible refine S.g_nilK ?_ | refine S.g_nil ?_
      with_reducible repeat (first | refine S.then_n ?_ | refine S.then_x ?_ | refine S.then_r ?_ | refine S.inBlock_n ?_ | refine S.inBlock_r ?_ | refine S.inBlock_x rfl ?_ | refine S.noGoto_r ?_ | refine S.noGoto_n ?_ | refine S.noGoto_x ?_)
      first | (rw [show decide ((j : Int) = 0 ∨ k < 1) = true from decide_eq_true (.inl hg3_2)]; exact S.meet ⟨rfl, rfl⟩ ⟨rfl, rfl, rfl, rfl, trivial⟩ Sub.ent) | (rw [show decide ((j : Int) = 0 ∨ k < 1) = decide (k < 1) from decide_eq_decide.2 (by omega)]; exact S.meet ⟨rfl, rfl⟩ ⟨rfl, rfl, rfl, rfl, trivial⟩ Sub.ent)
    · refine S.g_yes rfl rfl rfl (decide_eq_false hg3_2) (S.q (q_move rfl) rfl rfl ?_)
      refine S.g_yes rfl rfl rfl (decide_eq_false hg3_2) (S.q (q_lt rfl rfl) rfl rfl ?_)
      refine S.g_op rfl (S.q (q_pickF rfl (decide_eq_false hg3_2) rfl) rfl rfl ?_)
      first | with_reducible refine S.g_nilK ?_ | refine S.g_nil ?_
      with_reducible repeat (first | refine S.then_n ?_ | refine S.then_x ?_ | refine S.then_r ?_ | refine S.inBlock_n ?_ | refine S.inBlock_r ?_ | refine S.inBlock_x rfl ?_ | refine S.noGoto_r ?_ | refine S.noGoto_n ?_ | refine S.noGoto_x ?_)
      first | (rw [show decide ((j : Int) = 0 ∨ k < 1) = true from decide_eq_true (.inl hg3_2)]; exact S.meet ⟨rfl, rfl⟩ ⟨rfl, rfl, rfl, rfl, trivial⟩ Sub.ent) | (rw [show decide ((j : Int) = 0 ∨ k < 1) = decide (k < 1) from decide_eq_decide.2 (by omega)]; exact S.meet ⟨rfl, rfl⟩ ⟨rfl, rfl, rfl, rfl, trivial⟩ Sub.ent)
  · rintro ρ' Γ' ⟨rfl, rfl⟩
    refine hK5 _ _ ?_
    refine S.condD rfl (fun h2 => ?_) (fun h2 => ?_)
    · have hpl : placeR m j k = ((0, [], 1), m) := by rw [placeR, if_pos (by omega)]
      refine S.seq fun K6 hK6 => ?_
      refine S.region rfl ?_
      refine S.op (S.q (q_assign rfl) rfl rfl ?_)
      refine S.op (S.q (q_assign rfl) rfl rfl ?_)
      refine S.op (S.q (q_assign rfl) rfl rfl ?_)
      first | with_reducible refine S.nilK ?_ | refine S.nil ?_
      refine hK6 _ _ ?_
      refine S.ret ?_
      with_reducible repeat (first | refine S.then_n ?_ | refine S.then_x ?_ | refine S.then_r ?_ | refine S.inBlock_n ?_ | refine S.inBlock_r ?_ | refine S.inBlock_x rfl ?_ | refine S.noGoto_r ?_ | refine S.noGoto_n ?_ | refine S.noGoto_x ?_)
      refine S.ent (Ent.ownNil 3 1) ?_
      show S _ w0 _ (own SV.nil 3 1 (nds []) :: RI b m :: Γ) _
      exact S.fin (rs := [_, _, _]) (vs := [_, _, _]) Tryd.results28 (⟨rfl, rfl, rfl, trivial⟩)  (⟨SV.nil, by rw [hpl]; rfl, by rw [hpl]; rfl, by rw [hpl]⟩) Sub.ent
    · refine S.skip ?_
      with_reducible repeat (first | refine S.then_n ?_ | refine S.then_x ?_ | refine S.then_r ?_ | refine S.inBlock_n ?_ | refine S.inBlock_r ?_ | refine S.inBlock_x rfl ?_ | refine S.noGoto_r ?_ | refine S.noGoto_n ?_ | refine S.noGoto_x ?_)
      refine hK4 _ _ ?_
      refine S.seq fun K7 hK7 => ?_
      refine S.seq fun K8 hK8 => ?_
      refine S.region rfl ?_
      refine S.op (S.q (q_move rfl) rfl rfl ?_)
      refine S.op (S.q (q_move rfl) rfl rfl ?_)
      refine S.op (S.call Tryd.en46 (vs := [_, _]) ⟨rfl, rfl, trivial⟩ (rOf_S b m j) rfl ?_)
      rintro v Θ ⟨sv0, rfl, _, rfl⟩
      refine S.op (S.q (q_move rfl) rfl rfl ?_)
      refine S.op (S.q (q_extract rfl rfl) rfl rfl ?_)
      refine S.op (S.q (q_extract rfl rfl) rfl rfl ?_)
      refine S.op (S.q (q_extract rfl rfl) rfl rfl ?_)
      refine S.op (S.q (q_assign rfl) rfl rfl ?_)
      refine S.op (S.q (q_assign rfl) rfl rfl ?_)
      refine S.op (S.q (q_assign rfl) rfl rfl ?_)
      first | with_reducible refine S.nilK ?_ | refine S.nil ?_
      refine hK8 _ _ ?_
      refine S.seq fun K9 hK9 => ?_
      refine S.region rfl ?_
      refine S.op (S.q (q_move rfl) rfl rfl ?_)
      first | with_reducible refine S.nilK ?_ | refine S.nil ?_
      refine hK9 _ _ ?_
      refine S.cond rfl (fun h3 => ?_) (fun h3 => ?_)
      · have hls : (look m.js j).isSome = true := by
          cases h : look m.js j with
          | none => rw [ofR_none h] at h3; cases h3
          | some x => rfl
        have hpl : placeR m j k = ((0, [], 7), m) := by rw [placeR, if_neg (by omega), if_pos hls]
        refine S.seq fun K10 hK10 => ?_
        refine S.region rfl ?_
        refine S.op (S.q (q_assign rfl) rfl rfl ?_)
        refine S.op (S.q (q_assign rfl) rfl rfl ?_)
        refine S.op (S.q (q_assign rfl) rfl rfl ?_)
        first | with_reducible refine S.nilK ?_ | refine S.nil ?_
        refine hK10 _ _ ?_
        refine S.ret ?_
        with_reducible repeat (first | refine S.then_n ?_ | refine S.then_x ?_ | refine S.then_r ?_ | refine S.inBlock_n ?_ | refine S.inBlock_r ?_ | refine S.inBlock_x rfl ?_ | refine S.noGoto_r ?_ | refine S.noGoto_n ?_ | refine S.noGoto_x ?_)
        refine S.ent (Ent.ownNil 3 1) ?_
        show S _ w0 _ (own SV.nil 3 1 (nds []) :: _) _
        exact S.fin (rs := [_, _, _]) (vs := [_, _, _]) Tryd.results28 (⟨rfl, rfl, rfl, trivial⟩)  (⟨SV.nil, by rw [hpl]; rfl, by rw [hpl]; rfl, by rw [hpl]⟩) Sub.ent
      · have hlk : look m.js j = none := by
          cases h : look m.js j with
          | none => rfl
          | some x => rw [ofR_some h] at h3; cases h3
        refine S.riOpen b m fun cs us rs hri => ?_
        have hcn := hri.cn
        have hun := hri.un
        refine S.skip ?_
        with_reducible repeat (first | refine S.then_n ?_ | refine S.then_x ?_ | refine S.then_r ?_ | refine S.inBlock_n ?_ | refine S.inBlock_r ?_ | refine S.inBlock_x rfl ?_ | refine S.noGoto_r ?_ | refine S.noGoto_n ?_ | refine S.noGoto_x ?_)
        refine hK7 _ _ ?_
        refine S.seq fun K11 hK11 => ?_
        refine S.seq fun K12 hK12 => ?_
        refine S.region rfl ?_
        refine S.op (S.q (q_move rfl) rfl rfl ?_)
        refine S.op (S.q (q_move rfl) rfl rfl ?_)
        refine S.op (S.q (q_nilCheck rfl) rfl rfl ?_)
        refine S.op (S.q (q_field Tryd.fo55_1 rfl) rfl rfl ?_)
        refine S.op (S.q (q_load Tryd.at53 rfl rfl) rfl rfl ?_)
        refine S.op (S.q (q_len Tryd.underlying53 rfl) rfl rfl ?_)
        refine S.op (S.q (q_gt rfl rfl) rfl rfl ?_)
        first | with_reducible refine S.nilK ?_ | refine S.nil ?_
        refine hK12 _ _ ?_
        refine S.condD rfl (fun h4 => ?_) (fun h4 => ?_)
        · have hpl : placeR m j k = ((0, [], 9), m) := by rw [placeR, if_neg (by omega), hlk, if_neg (by decide), if_pos (by omega)]
          refine S.seq fun K13 hK13 => ?_
          refine S.region rfl ?_
          refine S.op (S.q (q_assign rfl) rfl rfl ?_)
          refine S.op (S.q (q_assign rfl) rfl rfl ?_)
          refine S.op (S.q (q_assign rfl) rfl rfl ?_)
          first | with_reducible refine S.nilK ?_ | refine S.nil ?_
          refine hK13 _ _ ?_
          refine S.ret ?_
          with_reducible repeat (first | refine S.then_n ?_ | refine S.then_x ?_ | refine S.then_r ?_ | refine S.inBlock_n ?_ | refine S.inBlock_r ?_ | refine S.inBlock_x rfl ?_ | refine S.noGoto_r ?_ | refine S.noGoto_n ?_ | refine S.noGoto_x ?_)
          refine S.riClose b m cs us rs hri ?_
          refine S.ent (Ent.ownNil 3 1) ?_
          show S _ w0 _ (own SV.nil 3 1 (nds []) :: RI b m :: _) _
          exact S.fin (rs := [_, _, _]) (vs := [_, _, _]) Tryd.results28 (⟨rfl, rfl, rfl, trivial⟩)  (⟨SV.nil, by rw [hpl]; rfl, by rw [hpl]; rfl, by rw [hpl]⟩) Sub.ent
        · obtain ⟨kn, hkn⟩ : ∃ kn : Nat, kn = k.toNat := ⟨_, rfl⟩
          refine S.skip ?_
          with_reducible repeat (first | refine S.then_n ?_ | refine S.then_x ?_ | refine S.then_r ?_ | refine S.inBlock_n ?_ | refine S.inBlock_r ?_ | refine S.inBlock_x rfl ?_ | refine S.noGoto_r ?_ | refine S.noGoto_n ?_ | refine S.noGoto_x ?_)
          refine hK11 _ _ ?_
          refine S.seq fun K14 hK14 => ?_
          refine S.seq fun K15 hK15 => ?_
          refine S.region rfl ?_
          refine S.op (S.q (q_move rfl) rfl rfl ?_)
          refine S.op (S.q (q_nilCheck rfl) rfl rfl ?_)
          refine S.op (S.q (q_field Tryd.fo55_0 rfl) rfl rfl ?_)
          refine S.op (S.q (q_load Tryd.at52 rfl rfl) rfl rfl ?_)
          refine S.op (S.q (q_len Tryd.underlying52 rfl) rfl rfl ?_)
          refine S.riClose b m cs us rs hri ?_
          refine S.op (S.q (q_move rfl) rfl rfl ?_)
          first | with_reducible refine S.nilK ?_ | refine S.nil ?_
          refine hK15 _ _ ?_
          refine S.block ?_
          refine S.loop (fun q ρ' Γ' => ∃ r : Nat, q = m.R - r ∧ r ≤ m.R ∧ placeRow m kn r = none ∧ ρ' = [(0, .pointer (some ⟨b, 0, none⟩)), (1, .int .u32 (j : Int)), (2, .int .i64 k), (41, .int .i64 (cs.n : Int)), (42, .int .i64 (r : Int))] ∧ Γ' = RI b m :: Γ) (m := _) (ρ0 := _) (Γ0 := _) (⟨0, rfl, by omega, rfl, rfl, rfl⟩) (by repeat (first | exact trivial | refine ⟨rfl, ?_⟩)) Sub.ent ?_
          rintro q ρ' Γ' ⟨r, hq, hr, hnone, rfl, rfl⟩
          refine S.seq fun K16 hK16 => ?_
          refine S.region rfl ?_
          refine S.op (S.q (q_lt rfl rfl) rfl rfl ?_)
          first | with_reducible refine S.nilK ?_ | refine S.nil ?_
          refine hK16 _ _ ?_
          refine S.seq fun K17 hK17 => ?_
          refine S.condD rfl (fun h5 => ?_) (fun h5 => ?_)
          · have hfl : freeL m r = lst (m.free r) := by rw [freeL, if_pos (rowB_iff.2 ⟨by omega, by omega⟩), Int.toNat_natCast]
            refine S.skip ?_
            with_reducible repeat (first | refine S.then_n ?_ | refine S.then_x ?_ | refine S.then_r ?_ | refine S.inBlock_n ?_ | refine S.inBlock_r ?_ | refine S.inBlock_x rfl ?_ | refine S.noGoto_r ?_ | refine S.noGoto_n ?_ | refine S.noGoto_x ?_)
            refine hK17 _ _ ?_
            refine S.seq fun K18 hK18 => ?_
            refine S.block ?_
            refine S.seq fun K19 hK19 => ?_
            refine S.region rfl ?_
            refine S.op (S.q (q_move rfl) rfl rfl ?_)
            refine S.op (S.q (q_assign rfl) rfl rfl ?_)
            first | with_reducible refine S.nilK ?_ | refine S.nil ?_
            refine hK19 _ _ ?_
            refine S.seq fun K20 hK20 => ?_
            refine S.region rfl ?_
            refine S.op (S.q (q_move rfl) rfl rfl ?_)
            refine S.op (S.q (q_move rfl) rfl rfl ?_)
            refine S.op (S.call Tryd.en44 (vs := [_, _]) ⟨rfl, rfl, trivial⟩ (rFree_S b m r) rfl ?_)
            rintro v Θ ⟨fv, rfl, hfv, rfl⟩
            rw [hfl] at hfv ⊢
            obtain ⟨fl, hfe⟩ : ∃ fl, fl = lst (m.free r) := ⟨_, rfl⟩
            rw [← hfe] at hfv ⊢
            refine S.op (S.q (q_assign rfl) rfl rfl ?_)
            first | with_reducible refine S.nilK ?_ | refine S.nil ?_
            refine hK20 _ _ ?_
            refine S.seq fun K21 hK21 => ?_
            refine S.region rfl ?_
            refine S.op (S.q (q_move rfl) rfl rfl ?_)
            refine S.op (S.q (q_len Tryd.underlying69 rfl) rfl rfl ?_)
            refine S.op (S.q (q_move rfl) rfl rfl ?_)
            refine S.op (S.q (q_ge rfl rfl) rfl rfl ?_)
            first | with_reducible refine S.nilK ?_ | refine S.nil ?_
            refine hK21 _ _ ?_
            refine S.condD rfl (fun h6 => ?_) (fun h6 => ?_)
            · have hpl2 : placeR m j k = (((r : Int), fl.take kn, 0), m.add ⟨j, r, leastK (m.free r) kn⟩) := by rw [hkn] at hnone ⊢; rw [hfe]; exact place_yes h2 hlk (by omega) (by omega) hnone (by rw [← hfe]; omega)
              obtain ⟨hlen, hok2, hput⟩ := place_put hm hlk (j := j) (r := r) (k := kn) (by omega) (by omega) (by omega) (by rw [← hfe]; omega)
              rw [← hfe] at hlen hok2 hput
              refine S.ownLen fv fun hfl1 hfl2 hfl3 => ?_
              refine S.seq fun K22 hK22 => ?_
              refine S.region rfl ?_
              with_reducible refine S.opH fun KH15_0 hKH15_0 => ?_
              refine  (S.q (q_move rfl) rfl rfl ?_)
              refine hKH15_0 _ _ ?_
              with_reducible refine S.opH fun KH15_1 hKH15_1 => ?_
              refine  (S.q (q_move rfl) rfl rfl ?_)
              refine hKH15_1 _ _ ?_
              with_reducible refine S.opH fun KH15_2 hKH15_2 => ?_
              refine  (S.q (q_move rfl) rfl rfl ?_)
              refine hKH15_2 _ _ ?_
              with_reducible refine S.opH fun KH15_3 hKH15_3 => ?_
              refine  (S.q (q_move rfl) rfl rfl ?_)
              refine hKH15_3 _ _ ?_
              with_reducible refine S.opH fun KH15_4 hKH15_4 => ?_
              refine  (S.q (q_move rfl) rfl rfl ?_)
              refine hKH15_4 _ _ ?_
              refine S.op (S.q (q_sliceTo (kn) Tryd.el69 rfl rfl (by omega) (by omega)) rfl rfl ?_)
              refine S.op (S.call Tryd.en31 (vs := [_, _, _, _]) ⟨rfl, rfl, rfl, rfl, trivial⟩ (rPut_S b m j r (own fv 3 1 (nds fl)) ⟨fv.a, kn, fv.c⟩ (casts (fl.take kn)) (by rw [List.length_map, hlen]) (rdTake (by omega)) hj (by omega) (by omega) hok2) rfl ?_)
              rintro v Θ ⟨rfl, rfl⟩
              rw [hput]
              first | with_reducible refine S.nilK ?_ | refine S.nil ?_
              refine hK22 _ _ ?_
              refine S.seq fun K23 hK23 => ?_
              refine S.draw ([]) [] Tryd.mixed ?_
              refine S.dr_take 0 [] rfl (by kernel_rfl) rfl rfl rfl (q_move rfl) Sub.ent ?_
              refine S.dr_take 1 [] rfl (by kernel_rfl) rfl rfl rfl (q_move rfl) Sub.ent ?_
              refine S.dr_take 2 [] rfl (by kernel_rfl) rfl rfl rfl (q_move rfl) Sub.ent ?_
              refine S.dr_take 3 [] rfl (by kernel_rfl) rfl rfl rfl (q_sliceTo (kn) Tryd.el69 rfl rfl (by omega) (by omega)) Sub.ent ?_
              refine S.dr_take 4 [] rfl (by kernel_rfl) rfl rfl rfl (q_assign rfl) Sub.ent ?_
              refine S.dr_take 5 [] rfl (by kernel_rfl) rfl rfl rfl (q_assign rfl) Sub.ent ?_
              refine S.dr_take 6 [] rfl (by kernel_rfl) rfl rfl rfl (q_assign rfl) Sub.ent ?_
              first | with_reducible refine S.dr_doneK (by kernel_rfl) ?_ | refine S.dr_done (by kernel_rfl) ?_
              refine hK23 _ _ ?_
              refine S.ret ?_
              with_reducible repeat (first | refine S.then_n ?_ | refine S.then_x ?_ | refine S.then_r ?_ | refine S.inBlock_n ?_ | refine S.inBlock_r ?_ | refine S.inBlock_x rfl ?_ | refine S.noGoto_r ?_ | refine S.noGoto_n ?_ | refine S.noGoto_x ?_)
              refine S.conv (own fv 3 1 (nds fl)) (Ent.ownTake fv 3 1 (nds fl) (k := kn) (by omega) _) ?_
              rw [show (nds fl).take (kn * 1) = nds (fl.take kn) by rw [Nat.mul_one]; show (fl.map nv).take kn = (fl.take kn).map nv; rw [List.map_take]]
              exact S.fin (rs := [_, _, _]) (vs := [_, _, _]) Tryd.results28 (⟨rfl, rfl, rfl, trivial⟩)  (⟨⟨fv.a, kn, fv.c⟩, by rw [hpl2]; rfl, by rw [hpl2]; exact hlen.symm, by rw [hpl2]⟩) Sub.ent
            · have hn2 : placeRow m kn (r + 1) = none := placeRow_step hnone (by rw [← hfe]; omega)
              refine S.skip ?_
              with_reducible repeat (first | refine S.then_n ?_ | refine S.then_x ?_ | refine S.then_r ?_ | refine S.inBlock_n ?_ | refine S.inBlock_r ?_ | refine S.inBlock_x rfl ?_ | refine S.noGoto_r ?_ | refine S.noGoto_n ?_ | refine S.noGoto_x ?_)
              with_reducible repeat (first | refine S.then_n ?_ | refine S.then_x ?_ | refine S.then_r ?_ | refine S.inBlock_n ?_ | refine S.inBlock_r ?_ | refine S.inBlock_x rfl ?_ | refine S.noGoto_r ?_ | refine S.noGoto_n ?_ | refine S.noGoto_x ?_)
              refine hK18 _ _ ?_
              refine S.region rfl ?_
              refine S.op (S.q (q_add rfl rfl (inI64 (by omega) (by omega))) rfl rfl ?_)
              refine S.op (S.q (q_move rfl) rfl rfl ?_)
              first | with_reducible refine S.nilK ?_ | refine S.nil ?_
              with_reducible repeat (first | refine S.then_n ?_ | refine S.then_x ?_ | refine S.then_r ?_ | refine S.inBlock_n ?_ | refine S.inBlock_r ?_ | refine S.inBlock_x rfl ?_ | refine S.noGoto_r ?_ | refine S.noGoto_n ?_ | refine S.noGoto_x ?_)
              exact S.next (q - 1) (⟨r + 1, by omega, by omega, hn2, rfl, rfl⟩) (by omega) (by repeat (first | exact trivial | refine ⟨rfl, ?_⟩)) Sub.ent
          · have hpl2 : placeR m j k = ((0, [], 8), m) := by rw [show r = m.R by omega, hkn] at hnone; exact place_no h2 hlk (by omega) hnone
            refine S.exit ?_
            with_reducible repeat (first | refine S.then_n ?_ | refine S.then_x ?_ | refine S.then_r ?_ | refine S.inBlock_n ?_ | refine S.inBlock_r ?_ | refine S.inBlock_x rfl ?_ | refine S.noGoto_r ?_ | refine S.noGoto_n ?_ | refine S.noGoto_x ?_)
            with_reducible refine S.inBlock_s ?_
            with_reducible repeat (first | refine S.then_n ?_ | refine S.then_x ?_ | refine S.then_r ?_ | refine S.inBlock_n ?_ | refine S.inBlock_r ?_ | refine S.inBlock_x rfl ?_ | refine S.noGoto_r ?_ | refine S.noGoto_n ?_ | refine S.noGoto_x ?_)
            refine hK14 _ _ ?_
            refine S.seq fun K24 hK24 => ?_
            refine S.region rfl ?_
            refine S.op (S.q (q_assign rfl) rfl rfl ?_)
            refine S.op (S.q (q_assign rfl) rfl rfl ?_)
            refine S.op (S.q (q_assign rfl) rfl rfl ?_)
            first | with_reducible refine S.nilK ?_ | refine S.nil ?_
            refine hK24 _ _ ?_
            refine S.ret ?_
            with_reducible repeat (first | refine S.then_n ?_ | refine S.then_x ?_ | refine S.then_r ?_ | refine S.inBlock_n ?_ | refine S.inBlock_r ?_ | refine S.inBlock_x rfl ?_ | refine S.noGoto_r ?_ | refine S.noGoto_n ?_ | refine S.noGoto_x ?_)
            refine S.ent (Ent.ownNil 3 1) ?_
            show S _ w0 _ (own SV.nil 3 1 (nds []) :: RI b m :: _) _
            exact S.fin (rs := [_, _, _]) (vs := [_, _, _]) Tryd.results28 (⟨rfl, rfl, rfl, trivial⟩)  (⟨SV.nil, by rw [hpl2]; rfl, by rw [hpl2]; rfl, by rw [hpl2]⟩) Sub.ent
theorem rNext_S (b : Nat) (m : Mx) (z : Int) : Spec Tryd.prog 70 [.pointer (some ⟨b, 0, none⟩), .int .i64 z] [RI b m] fun Γ v Θ => v = .tuple #[.int .i64 (nextR m z).1, .bool (nextR m z).2] ∧ Θ = RI b m :: Γ := by
  refine Spec.riOk fun hm => ?_
  refine Spec.of_body Tryd.func70 rfl Tryd.ntmps70 rfl ?_
  intro w0 Γ
  show S _ w0 [(0, .pointer (some ⟨b, 0, none⟩)), (1, .int .i64 z)] (RI b m :: Γ) _
  have hR8 := hm.R8
  have hR1 := hm.R1
  obtain ⟨z', hz'⟩ : ∃ z', z' = if rowB m z then z else -1 := ⟨_, rfl⟩
  refine S.riOpen b m fun cs us rs hri => ?_
  have hcn := hri.cn
  refine S.seq fun K1 hK1 => ?_
  refine S.region rfl ?_
  refine S.op (S.q (q_assign rfl) rfl rfl ?_)
  refine S.op (S.q (q_assign rfl) rfl rfl ?_)
  first | with_reducible refine S.nilK ?_ | refine S.nil ?_
  refine hK1 _ _ ?_
  refine S.seq fun K2 hK2 => ?_
  refine S.seq fun K3 hK3 => ?_
  refine S.region rfl ?_
  refine S.op (S.q (q_move rfl) rfl rfl ?_)
  refine S.op (S.q (q_eqN Tryd.underlying26 rfl rfl) rfl rfl ?_)
  first | with_reducible refine S.nilK ?_ | refine S.nil ?_
  refine hK3 _ _ ?_
  refine S.condF rfl ?_
  refine S.skip ?_
  with_reducible repeat (first | refine S.then_n ?_ | refine S.then_x ?_ | refine S.then_r ?_ | refine S.inBlock_n ?_ | refine S.inBlock_r ?_ | refine S.inBlock_x rfl ?_ | refine S.noGoto_r ?_ | refine S.noGoto_n ?_ | refine S.noGoto_x ?_)
  refine hK2 _ _ ?_
  refine S.seq fun K4 hK4 => ?_
  refine S.region rfl ?_
  refine S.op (S.q (q_move rfl) rfl rfl ?_)
  refine S.op (S.q (q_nilCheck rfl) rfl rfl ?_)
  refine S.op (S.q (q_field Tryd.fo55_0 rfl) rfl rfl ?_)
  refine S.op (S.q (q_load Tryd.at52 rfl rfl) rfl rfl ?_)
  refine S.op (S.q (q_len Tryd.underlying52 rfl) rfl rfl ?_)
  refine S.op (S.q (q_assign rfl) rfl rfl ?_)
  first | with_reducible refine S.nilK ?_ | refine S.nil ?_
  refine hK4 _ _ ?_
  refine S.seq fun K5 hK5 => ?_
  refine S.seq fun K6 hK6 => ?_
  refine S.cut (fun ρ' Γ' => ρ' = [(0, .pointer (some ⟨b, 0, none⟩)), (1, .int .i64 z), (6, .int .i64 (cs.n : Int)), (22, .bool (!rowB m z))] ∧ Γ' = RI b m :: Γ) ?_ ?_
  · refine S.regionG ?_
    refine S.riClose b m cs us rs hri ?_
    refine S.g_op rfl (S.q (q_move rfl) rfl rfl ?_)
    refine S.g_op rfl (S.q (q_lt rfl rfl) rfl rfl ?_)
    refine S.g_op rfl (S.q (q_move rfl) rfl rfl ?_)
    by_cases hg4_2 : z < (0 : Int)
    · refine S.g_no rfl rfl rfl (decide_eq_true hg4_2) rfl rfl ?_
      refine S.g_no rfl rfl rfl (decide_eq_true hg4_2) rfl rfl ?_
      refine S.g_no rfl rfl rfl (decide_eq_true hg4_2) rfl rfl ?_
      refine S.g_op rfl (S.q (q_pickT rfl (decide_eq_true hg4_2) rfl) rfl rfl ?_)
      first | with_reducible refine S.g_nilK ?_ | refine S.g_nil ?_
      with_reducible repeat (first | refine S.then_n ?_ | refine S.then_x ?_ | refine S.then_r ?_ | refine S.inBlock_n ?_ | refine S.inBlock_r ?_ | refine S.inBlock_x rfl ?_ | refine S.noGoto_r ?_ | refine S.noGoto_n ?_ | refine S.noGoto_x ?_)
      first | (rw [show rowB m z = false by rw [rowB, decide_eq_false (by omega)]; rfl]; exact S.meet ⟨rfl, rfl⟩ ⟨rfl, rfl, rfl, rfl, trivial⟩ Sub.ent) | (rw [show (!rowB m z) = decide ((cs.n : Int) ≤ z) by rw [rowB, decide_eq_true (by omega), hcn, Bool.true_and, ← decide_not]; exact decide_eq_decide.2 (by omega)]; exact S.meet ⟨rfl, rfl⟩ ⟨rfl, rfl, rfl, rfl, trivial⟩ Sub.ent)
    · refine S.g_yes rfl rfl rfl (decide_eq_false hg4_2) (S.q (q_move rfl) rfl rfl ?_)
      refine S.g_yes rfl rfl rfl (decide_eq_false hg4_2) (S.q (q_move rfl) rfl rfl ?_)
      refine S.g_yes rfl rfl rfl (decide_eq_false hg4_2) (S.q (q_ge rfl rfl) rfl rfl ?_)
      refine S.g_op rfl (S.q (q_pickF rfl (decide_eq_false hg4_2) rfl) rfl rfl ?_)
      first | with_reducible refine S.g_nilK ?_ | refine S.g_nil ?_
      with_reducible repeat (first | refine S.then_n ?_ | refine S.then_x ?_ | refine S.then_r ?_ | refine S.inBlock_n ?_ | refine S.inBlock_r ?_ | refine S.inBlock_x rfl ?_ | refine S.noGoto_r ?_ | refine S.noGoto_n ?_ | refine S.noGoto_x ?_)
      first | (rw [show rowB m z = false by rw [rowB, decide_eq_false (by omega)]; rfl]; exact S.meet ⟨rfl, rfl⟩ ⟨rfl, rfl, rfl, rfl, trivial⟩ Sub.ent) | (rw [show (!rowB m z) = decide ((cs.n : Int) ≤ z) by rw [rowB, decide_eq_true (by omega), hcn, Bool.true_and, ← decide_not]; exact decide_eq_decide.2 (by omega)]; exact S.meet ⟨rfl, rfl⟩ ⟨rfl, rfl, rfl, rfl, trivial⟩ Sub.ent)
  · rintro ρ' Γ' ⟨rfl, rfl⟩
    refine hK6 _ _ ?_
    refine S.cut (fun ρ' Γ' => ∃ zz : Int, (0 ≤ zz ∧ zz < m.R) ∧ (zz = z' ∨ (zz = m.R - 1 ∧ z' = -1)) ∧ z' = (if rowB m z then z else -1) ∧ ρ' = [(0, .pointer (some ⟨b, 0, none⟩)), (1, .int .i64 zz), (6, .int .i64 (cs.n : Int))] ∧ Γ' = RI b m :: Γ) ?_ ?_
    · refine S.cond rfl (fun h2 => ?_) (fun h2 => ?_)
      · rw [show rowB m z = false by simpa using h2, if_neg (by decide)] at hz'
        refine S.region rfl ?_
        refine S.op (S.q (q_move rfl) rfl rfl ?_)
        refine S.op (S.q (q_sub rfl rfl (inI64 (by omega) (by omega))) rfl rfl ?_)
        refine S.op (S.q (q_assign rfl) rfl rfl ?_)
        first | with_reducible refine S.nilK ?_ | refine S.nil ?_
        with_reducible repeat (first | refine S.then_n ?_ | refine S.then_x ?_ | refine S.then_r ?_ | refine S.inBlock_n ?_ | refine S.inBlock_r ?_ | refine S.inBlock_x rfl ?_ | refine S.noGoto_r ?_ | refine S.noGoto_n ?_ | refine S.noGoto_x ?_)
        first | exact S.meet ⟨(cs.n : Int) - 1, by omega, .inr ⟨by omega, hz'⟩, by rw [hz', show rowB m z = false by simpa using h2]; rfl, rfl, rfl⟩ ⟨rfl, rfl, rfl, trivial⟩ Sub.ent | exact S.meet ⟨z, by omega, .inl hz'.symm, by rw [hz', show rowB m z = true by simpa using h2]; rfl, rfl, rfl⟩ ⟨rfl, rfl, rfl, trivial⟩ Sub.ent
      · rw [show rowB m z = true by simpa using h2, if_pos rfl] at hz'
        have hzb := rowB_iff.1 (show rowB m z = true by simpa using h2)
        refine S.skip ?_
        with_reducible repeat (first | refine S.then_n ?_ | refine S.then_x ?_ | refine S.then_r ?_ | refine S.inBlock_n ?_ | refine S.inBlock_r ?_ | refine S.inBlock_x rfl ?_ | refine S.noGoto_r ?_ | refine S.noGoto_n ?_ | refine S.noGoto_x ?_)
        with_reducible repeat (first | refine S.then_n ?_ | refine S.then_x ?_ | refine S.then_r ?_ | refine S.inBlock_n ?_ | refine S.inBlock_r ?_ | refine S.inBlock_x rfl ?_ | refine S.noGoto_r ?_ | refine S.noGoto_n ?_ | refine S.noGoto_x ?_)
        first | exact S.meet ⟨(cs.n : Int) - 1, by omega, .inr ⟨by omega, hz'⟩, by rw [hz', show rowB m z = false by simpa using h2]; rfl, rfl, rfl⟩ ⟨rfl, rfl, rfl, trivial⟩ Sub.ent | exact S.meet ⟨z, by omega, .inl hz'.symm, by rw [hz', show rowB m z = true by simpa using h2]; rfl, rfl, rfl⟩ ⟨rfl, rfl, rfl, trivial⟩ Sub.ent
    · rintro ρ' Γ' ⟨zz, hzz, hzz2, hz', rfl, rfl⟩
      refine hK5 _ _ ?_
      refine S.seq fun K7 hK7 => ?_
      refine S.seq fun K8 hK8 => ?_
      refine S.region rfl ?_
      refine S.op (S.q (q_assign rfl) rfl rfl ?_)
      first | with_reducible refine S.nilK ?_ | refine S.nil ?_
      refine hK8 _ _ ?_
      refine S.block ?_
      refine S.loop (fun k ρ' Γ' => ∃ i : Nat, k = m.R - i ∧ i ≤ m.R ∧ nextUp m z' i = none ∧ ρ' = [(0, .pointer (some ⟨b, 0, none⟩)), (1, .int .i64 zz), (6, .int .i64 (cs.n : Int)), (7, .int .i64 ((i : Int) + 1))] ∧ Γ' = RI b m :: Γ) (m := _) (ρ0 := _) (Γ0 := _) (⟨0, rfl, by omega, rfl, rfl, rfl⟩) (by repeat (first | exact trivial | refine ⟨rfl, ?_⟩)) Sub.ent ?_
      rintro k ρ' Γ' ⟨i, hik, hiR, hnu, rfl, rfl⟩
      refine S.seq fun K9 hK9 => ?_
      refine S.seq fun K10 hK10 => ?_
      refine S.region rfl ?_
      refine S.op (S.q (q_move rfl) rfl rfl ?_)
      refine S.op (S.q (q_move rfl) rfl rfl ?_)
      refine S.op (S.q (q_le rfl rfl) rfl rfl ?_)
      first | with_reducible refine S.nilK ?_ | refine S.nil ?_
      refine hK10 _ _ ?_
      refine S.condD rfl (fun h3 => ?_) (fun h3 => ?_)
      · have hmod : (((z' + 1 + i) % m.R).toNat : Int) = (z' + 1 + i) % m.R := Int.toNat_of_nonneg (Int.emod_nonneg _ (by omega))
        have hmlt : ((z' + 1 + i) % m.R) < m.R := Int.emod_lt_of_pos _ (by omega)
        have hsame : (zz + ((i : Int) + 1)) % (cs.n : Int) = (z' + 1 + i) % m.R := by
          rw [hcn]
          rcases hzz2 with e | ⟨e1, e2⟩
          · rw [e]; congr 1; omega
          · rw [e1, e2, show (m.R : Int) - 1 + ((i : Int) + 1) = i + m.R by omega, Int.add_emod_right]; congr 1; omega
        refine S.skip ?_
        with_reducible repeat (first | refine S.then_n ?_ | refine S.then_x ?_ | refine S.then_r ?_ | refine S.inBlock_n ?_ | refine S.inBlock_r ?_ | refine S.inBlock_x rfl ?_ | refine S.noGoto_r ?_ | refine S.noGoto_n ?_ | refine S.noGoto_x ?_)
        refine hK9 _ _ ?_
        refine S.seq fun K11 hK11 => ?_
        refine S.block ?_
        refine S.seq fun K12 hK12 => ?_
        refine S.region rfl ?_
        refine S.op (S.q (q_move rfl) rfl rfl ?_)
        refine S.op (S.q (q_move rfl) rfl rfl ?_)
        refine S.op (S.q (q_add rfl rfl (inI64 (by omega) (by omega))) rfl rfl ?_)
        refine S.op (S.q (q_move rfl) rfl rfl ?_)
        refine S.op (S.q (q_rem rfl rfl (⟨by omega, by omega⟩)) rfl rfl ?_)
        refine S.op (S.q (q_assign rfl) rfl rfl ?_)
        first | with_reducible refine S.nilK ?_ | refine S.nil ?_
        refine hK12 _ _ ?_
        refine S.seq fun K13 hK13 => ?_
        refine S.region rfl ?_
        rw [hsame]
        refine S.op (S.q (q_move rfl) rfl rfl ?_)
        refine S.op (S.q (q_move rfl) rfl rfl ?_)
        refine S.op (S.call Tryd.en19 (vs := [_, _]) ⟨rfl, rfl, trivial⟩ (rRow_S b m ((z' + 1 + i) % m.R)) rfl ?_)
        rintro v Θ ⟨rv, rfl, hrv, rfl⟩
        have hrn : rowIds m ((z' + 1 + i) % m.R) = rowIds m (((z' + 1 + i) % m.R).toNat : Nat) := by rw [hmod]
        have hrz := rowIds_zero hm (show ((z' + 1 + i) % m.R).toNat < m.R by omega)
        rw [← hrn] at hrz
        refine S.op (S.q (q_len Tryd.underlying31 rfl) rfl rfl ?_)
        refine S.op (S.q (q_gt rfl rfl) rfl rfl ?_)
        first | with_reducible refine S.nilK ?_ | refine S.nil ?_
        refine hK13 _ _ ?_
        refine S.condD rfl (fun h4 => ?_) (fun h4 => ?_)
        · have hu : nextUp m z' (i + 1) = some ((z' + 1 + i) % m.R).toNat := by
            rw [nextUp, hnu]
            exact if_neg fun e => by rw [hrz.2 e] at hrv; simp at hrv; omega
          have hfin : nextR m z = ((z' + 1 + i) % m.R, true) := by
            unfold nextR
            rw [← hz', nextUp_mono hu (show i + 1 ≤ m.R by omega)]
            exact congrArg (fun q : Int => (q, true)) hmod
          refine S.seq fun K14 hK14 => ?_
          refine S.region rfl ?_
          refine S.op (S.q (q_move rfl) rfl rfl ?_)
          refine S.op (S.q (q_assign rfl) rfl rfl ?_)
          refine S.op (S.q (q_assign rfl) rfl rfl ?_)
          first | with_reducible refine S.nilK ?_ | refine S.nil ?_
          refine hK14 _ _ ?_
          refine S.ret ?_
          with_reducible repeat (first | refine S.then_n ?_ | refine S.then_x ?_ | refine S.then_r ?_ | refine S.inBlock_n ?_ | refine S.inBlock_r ?_ | refine S.inBlock_x rfl ?_ | refine S.noGoto_r ?_ | refine S.noGoto_n ?_ | refine S.noGoto_x ?_)
          exact S.fin (rs := [_, _]) (vs := [_, _]) Tryd.results70 (⟨rfl, rfl, trivial⟩)  (⟨by rw [hfin]; rfl, rfl⟩) Sub.ent
        · have hu : nextUp m z' (i + 1) = none := by
            rw [nextUp, hnu]
            exact if_pos (hrz.1 (List.length_eq_zero_iff.1 (by omega)))
          refine S.skip ?_
          with_reducible repeat (first | refine S.then_n ?_ | refine S.then_x ?_ | refine S.then_r ?_ | refine S.inBlock_n ?_ | refine S.inBlock_r ?_ | refine S.inBlock_x rfl ?_ | refine S.noGoto_r ?_ | refine S.noGoto_n ?_ | refine S.noGoto_x ?_)
          with_reducible repeat (first | refine S.then_n ?_ | refine S.then_x ?_ | refine S.then_r ?_ | refine S.inBlock_n ?_ | refine S.inBlock_r ?_ | refine S.inBlock_x rfl ?_ | refine S.noGoto_r ?_ | refine S.noGoto_n ?_ | refine S.noGoto_x ?_)
          refine hK11 _ _ ?_
          refine S.region rfl ?_
          refine S.op (S.q (q_move rfl) rfl rfl ?_)
          refine S.op (S.q (q_add rfl rfl (inI64 (by omega) (by omega))) rfl rfl ?_)
          refine S.op (S.q (q_assign rfl) rfl rfl ?_)
          first | with_reducible refine S.nilK ?_ | refine S.nil ?_
          with_reducible repeat (first | refine S.then_n ?_ | refine S.then_x ?_ | refine S.then_r ?_ | refine S.inBlock_n ?_ | refine S.inBlock_r ?_ | refine S.inBlock_x rfl ?_ | refine S.noGoto_r ?_ | refine S.noGoto_n ?_ | refine S.noGoto_x ?_)
          exact S.next (k - 1) (⟨i + 1, by omega, by omega, hu, rfl, rfl⟩) (by omega) (by repeat (first | exact trivial | refine ⟨rfl, ?_⟩)) Sub.ent
      · have hfin : nextR m z = (0, false) := by
          rw [show i = m.R by omega] at hnu
          unfold nextR
          rw [← hz', hnu]
        refine S.exit ?_
        with_reducible repeat (first | refine S.then_n ?_ | refine S.then_x ?_ | refine S.then_r ?_ | refine S.inBlock_n ?_ | refine S.inBlock_r ?_ | refine S.inBlock_x rfl ?_ | refine S.noGoto_r ?_ | refine S.noGoto_n ?_ | refine S.noGoto_x ?_)
        with_reducible refine S.inBlock_s ?_
        with_reducible repeat (first | refine S.then_n ?_ | refine S.then_x ?_ | refine S.then_r ?_ | refine S.inBlock_n ?_ | refine S.inBlock_r ?_ | refine S.inBlock_x rfl ?_ | refine S.noGoto_r ?_ | refine S.noGoto_n ?_ | refine S.noGoto_x ?_)
        refine hK7 _ _ ?_
        refine S.seq fun K15 hK15 => ?_
        refine S.region rfl ?_
        refine S.op (S.q (q_assign rfl) rfl rfl ?_)
        refine S.op (S.q (q_assign rfl) rfl rfl ?_)
        first | with_reducible refine S.nilK ?_ | refine S.nil ?_
        refine hK15 _ _ ?_
        refine S.ret ?_
        with_reducible repeat (first | refine S.then_n ?_ | refine S.then_x ?_ | refine S.then_r ?_ | refine S.inBlock_n ?_ | refine S.inBlock_r ?_ | refine S.inBlock_x rfl ?_ | refine S.noGoto_r ?_ | refine S.noGoto_n ?_ | refine S.noGoto_x ?_)
        exact S.fin (rs := [_, _]) (vs := [_, _]) Tryd.results70 (⟨rfl, rfl, trivial⟩)  (⟨by rw [hfin]; rfl, rfl⟩) Sub.ent
end Go.Proofs.YtegjmmocnffpiaaDoor
/- The document's matrix: Fill, Jobs, Copy. -/
namespace Go.Proofs.YtegjmmocnffpiaaDoor
open Go.RowKit
set_option maxRecDepth 20000
theorem idsV_one (l : List Nat) : allOne (idsV l) = true := List.all_eq_true.2 fun v hv => by
  obtain ⟨j, _, rfl⟩ := List.mem_map.1 hv
  rfl
theorem rIds_len (m : Mx) (z : Int) : (rowIds m z).length ≤ 16 := by
  unfold rowIds
  split
  · rw [List.length_map]; exact rowJ_len m _
  · simp
theorem insJ_len (j : Nat) (l : List Nat) : (insJ j l).length = l.length + 1 := by rw [(insJ_perm j l).length_eq]; rfl
theorem insAll_len (js : List Nat) : ∀ l, (insAll l js).length = l.length + js.length := by
  induction js with
  | nil => intro l; rfl
  | cons j js ih => intro l; have := ih (insJ j l); rw [insJ_len] at this; rw [List.length_cons]; show (insAll (insJ j l) js).length = _; omega
theorem insAll_snoc (l js : List Nat) (j : Nat) : insAll l (js ++ [j]) = insJ j (insAll l js) := by rw [insAll, List.foldl_append]; rfl
theorem insAll_app (l js ks : List Nat) : insAll l (js ++ ks) = insAll (insAll l js) ks := by rw [insAll, List.foldl_append]; rfl
theorem rowsIds_len (m : Mx) : ∀ r, (rowsIds m r).length ≤ 16 * r
  | 0 => Nat.le_refl _
  | r + 1 => by have := rowsIds_len m r; have := rIds_len m r; rw [rowsIds, List.length_append]; omega
set_option maxHeartbeats 1000000 in
theorem rJobs_S (b : Nat) (m : Mx) : Spec Tryd.prog 68 [.pointer (some ⟨b, 0, none⟩)] [RI b m] fun Γ v Θ => ∃ sv : SV, v = sv.v ∧ sv.n = (m.js.map (·.id)).length ∧ Θ = own sv 68 1 (idsV (m.js.map (·.id))) :: RI b m :: Γ := by
  refine Spec.riOk fun hm => ?_
  refine Spec.of_body Tryd.func68 rfl Tryd.ntmps68 rfl ?_
  intro w0 Γ
  show S _ w0 [(0, .pointer (some ⟨b, 0, none⟩))] (RI b m :: Γ) _
  have hR8 := hm.R8
  refine S.riOpen b m fun cs us rs hri => ?_
  have hcn := hri.cn
  refine S.seq fun K1 hK1 => ?_
  refine S.region rfl ?_
  refine S.op (S.q (q_assign rfl) rfl rfl ?_)
  first | with_reducible refine S.nilK ?_ | refine S.nil ?_
  refine hK1 _ _ ?_
  refine S.seq fun K2 hK2 => ?_
  refine S.region rfl ?_
  refine S.op (S.q (q_assign rfl) rfl rfl ?_)
  first | with_reducible refine S.nilK ?_ | refine S.nil ?_
  refine hK2 _ _ ?_
  refine S.seq fun K3 hK3 => ?_
  refine S.seq fun K4 hK4 => ?_
  refine S.region rfl ?_
  refine S.op (S.q (q_move rfl) rfl rfl ?_)
  refine S.op (S.q (q_eqN Tryd.underlying26 rfl rfl) rfl rfl ?_)
  first | with_reducible refine S.nilK ?_ | refine S.nil ?_
  refine hK4 _ _ ?_
  refine S.condF rfl ?_
  refine S.skip ?_
  with_reducible repeat (first | refine S.then_n ?_ | refine S.then_x ?_ | refine S.then_r ?_ | refine S.inBlock_n ?_ | refine S.inBlock_r ?_ | refine S.inBlock_x rfl ?_ | refine S.noGoto_r ?_ | refine S.noGoto_n ?_ | refine S.noGoto_x ?_)
  refine hK3 _ _ ?_
  refine S.seq fun K5 hK5 => ?_
  refine S.seq fun K6 hK6 => ?_
  refine S.region rfl ?_
  refine S.op (S.q (q_move rfl) rfl rfl ?_)
  refine S.op (S.q (q_nilCheck rfl) rfl rfl ?_)
  refine S.op (S.q (q_field Tryd.fo55_0 rfl) rfl rfl ?_)
  refine S.op (S.q (q_load Tryd.at52 rfl rfl) rfl rfl ?_)
  refine S.op (S.q (q_len Tryd.underlying52 rfl) rfl rfl ?_)
  refine S.riClose b m cs us rs hri ?_
  refine S.ent (Ent.ownNil 68 1) ?_
  show S _ w0 _ (own SV.nil 68 1 (idsV []) :: _) _
  refine S.op (S.q (q_move rfl) rfl rfl ?_)
  first | with_reducible refine S.nilK ?_ | refine S.nil ?_
  refine hK6 _ _ ?_
  refine S.block ?_
  refine S.loop (fun q ρ' Γ' => ∃ (r : Nat) (ov : SV) (L : List Nat), q = m.R - r ∧ r ≤ m.R ∧ L = insAll [] (rowsIds m r) ∧ ov.n = L.length ∧ ρ' = [(0, .pointer (some ⟨b, 0, none⟩)), (3, ov.v), (17, .int .i64 (cs.n : Int)), (18, .int .i64 (r : Int))] ∧ Γ' = own ov 68 1 (idsV L) :: RI b m :: Γ) (m := _) (ρ0 := _) (Γ0 := _) (⟨0, SV.nil, [], rfl, by omega, rfl, rfl, rfl, rfl⟩) (by repeat (first | exact trivial | refine ⟨rfl, ?_⟩)) Sub.ent ?_
  rintro q ρ' Γ' ⟨r, ov, L, hq, hr, hL, hov, rfl, rfl⟩
  have hLl := insAll_len (rowsIds m r) []
  have hrl := rowsIds_len m r
  rw [← hL, List.length_nil] at hLl
  refine S.seq fun K7 hK7 => ?_
  refine S.region rfl ?_
  refine S.op (S.q (q_lt rfl rfl) rfl rfl ?_)
  first | with_reducible refine S.nilK ?_ | refine S.nil ?_
  refine hK7 _ _ ?_
  refine S.seq fun K8 hK8 => ?_
  refine S.condD rfl (fun h2 => ?_) (fun h2 => ?_)
  · refine S.skip ?_
    with_reducible repeat (first | refine S.then_n ?_ | refine S.then_x ?_ | refine S.then_r ?_ | refine S.inBlock_n ?_ | refine S.inBlock_r ?_ | refine S.inBlock_x rfl ?_ | refine S.noGoto_r ?_ | refine S.noGoto_n ?_ | refine S.noGoto_x ?_)
    refine hK8 _ _ ?_
    refine S.seq fun K9 hK9 => ?_
    refine S.block ?_
    refine S.seq fun K10 hK10 => ?_
    refine S.region rfl ?_
    refine S.op (S.q (q_move rfl) rfl rfl ?_)
    refine S.op (S.q (q_assign rfl) rfl rfl ?_)
    first | with_reducible refine S.nilK ?_ | refine S.nil ?_
    refine hK10 _ _ ?_
    refine S.seq fun K11 hK11 => ?_
    refine S.region rfl ?_
    refine S.op (S.q (q_move rfl) rfl rfl ?_)
    refine S.op (S.q (q_move rfl) rfl rfl ?_)
    refine S.op (S.call Tryd.en19 (vs := [_, _]) ⟨rfl, rfl, trivial⟩ (rRow_S b m r) rfl ?_)
    rintro v Θ ⟨rv, rfl, hrv, rfl⟩
    have hr16 := rIds_len m r
    refine S.op (S.q (q_len Tryd.underlying31 rfl) rfl rfl ?_)
    refine S.op (S.q (q_move rfl) rfl rfl ?_)
    first | with_reducible refine S.nilK ?_ | refine S.nil ?_
    refine hK11 _ _ ?_
    refine S.block ?_
    refine S.loop (fun q2 ρ' Γ' => ∃ (i : Nat) (o2 : SV) (L2 : List Nat), q2 = (rowIds m r).length - i ∧ i ≤ (rowIds m r).length ∧ L2 = insAll L ((rowIds m r).take i) ∧ o2.n = L2.length ∧ ρ' = [(0, .pointer (some ⟨b, 0, none⟩)), (3, o2.v), (17, .int .i64 (cs.n : Int)), (18, .int .i64 (r : Int)), (23, rv.v), (24, .int .i64 rv.n), (25, .int .i64 (i : Int))] ∧ Γ' = own o2 68 1 (idsV L2) :: own rv 68 1 (idsV (rowIds m r)) :: RI b m :: Γ) (m := _) (ρ0 := _) (Γ0 := _) (⟨0, ov, L, rfl, by omega, rfl, hov, rfl, rfl⟩) (by repeat (first | exact trivial | refine ⟨rfl, ?_⟩)) Sub.ent ?_
    rintro q2 ρ' Γ' ⟨i, o2, L2, hq2, hi, hL2, ho2, rfl, rfl⟩
    have hL2l := insAll_len ((rowIds m r).take i) L
    rw [← hL2, List.length_take] at hL2l
    refine S.seq fun K12 hK12 => ?_
    refine S.region rfl ?_
    refine S.op (S.q (q_lt rfl rfl) rfl rfl ?_)
    first | with_reducible refine S.nilK ?_ | refine S.nil ?_
    refine hK12 _ _ ?_
    refine S.seq fun K13 hK13 => ?_
    refine S.condD rfl (fun h3 => ?_) (fun h3 => ?_)
    · refine S.ownSome rv (by omega) fun rb ro hra _ _ _ => ?_
      obtain ⟨j, hj⟩ := getE (show i < (rowIds m r).length by omega)
      have hnx : insJ j L2 = insAll L ((rowIds m r).take (i + 1)) := by rw [List.take_add_one, hj, hL2]; exact (insAll_snoc L _ j).symm
      refine S.skip ?_
      with_reducible repeat (first | refine S.then_n ?_ | refine S.then_x ?_ | refine S.then_r ?_ | refine S.inBlock_n ?_ | refine S.inBlock_r ?_ | refine S.inBlock_x rfl ?_ | refine S.noGoto_r ?_ | refine S.noGoto_n ?_ | refine S.noGoto_x ?_)
      refine hK13 _ _ ?_
      refine S.seq fun K14 hK14 => ?_
      refine S.block ?_
      refine S.seq fun K15 hK15 => ?_
      refine S.region rfl ?_
      refine S.op (S.q (q_indexO (i) Tryd.el31 rfl hra rfl rfl (by omega)) rfl rfl ?_)
      refine S.op (S.q (q_loadOw (rv) (i) Tryd.at68 rfl hra (by first | rfl | exact Nat.add_assoc _ _ _ | omega) (idsV_get hj)) rfl rfl ?_)
      refine S.op (S.q (q_assign rfl) rfl rfl ?_)
      first | with_reducible refine S.nilK ?_ | refine S.nil ?_
      refine hK15 _ _ ?_
      refine S.seq fun K16 hK16 => ?_
      refine S.region rfl ?_
      refine S.op (S.q (q_assign rfl) rfl rfl ?_)
      first | with_reducible refine S.nilK ?_ | refine S.nil ?_
      refine hK16 _ _ ?_
      refine S.seq fun K17 hK17 => ?_
      refine S.region rfl ?_
      refine S.op (S.q (q_assign rfl) rfl rfl ?_)
      first | with_reducible refine S.nilK ?_ | refine S.nil ?_
      refine hK17 _ _ ?_
      refine S.seq fun K18 hK18 => ?_
      refine S.seq fun K19 hK19 => ?_
      refine S.region rfl ?_
      refine S.op (S.q (q_move rfl) rfl rfl ?_)
      refine S.op (S.q (q_len Tryd.underlying31 rfl) rfl rfl ?_)
      refine S.ent (Ent.ownNil 68 1) ?_
      show S _ w0 _ (own SV.nil 68 1 (idsV []) :: _) _
      refine S.op (S.q (q_move rfl) rfl rfl ?_)
      first | with_reducible refine S.nilK ?_ | refine S.nil ?_
      refine hK19 _ _ ?_
      refine S.block ?_
      refine S.loop (fun q3 ρ' Γ' => ∃ (k : Nat) (sv : SV) (nl : List Nat) (dn : Bool), q3 = L2.length - k ∧ k ≤ L2.length ∧ insU j false L2 k = (nl, dn) ∧ sv.n = nl.length ∧ ρ' = [(0, .pointer (some ⟨b, 0, none⟩)), (6, .int .u32 (j : Int)), (7, sv.v), (8, .bool dn), (17, .int .i64 (cs.n : Int)), (18, .int .i64 (r : Int)), (23, rv.v), (24, .int .i64 rv.n), (25, .int .i64 (i : Int)), (29, o2.v), (30, .int .i64 o2.n), (31, .int .i64 (k : Int))] ∧   Γ' = own sv 68 1 (idsV nl) :: own o2 68 1 (idsV L2) :: own rv 68 1 (idsV (rowIds m r)) :: RI b m :: Γ) (m := _) (ρ0 := _) (Γ0 := _) (⟨0, SV.nil, [], false, rfl, by omega, rfl, rfl, rfl, rfl⟩) (by repeat (first | exact trivial | refine ⟨rfl, ?_⟩)) Sub.ent ?_
      rintro q3 ρ' Γ' ⟨k, sv, nl, dn, hq3, hk, hiu, hsv, rfl, rfl⟩
      have hnl := insU_len j L2 k
      rw [hiu] at hnl
      have hnl : nl.length ≤ k + 1 := by simp only at hnl; rw [hnl]; split <;> omega
      refine S.seq fun K20 hK20 => ?_
      refine S.region rfl ?_
      refine S.op (S.q (q_lt rfl rfl) rfl rfl ?_)
      first | with_reducible refine S.nilK ?_ | refine S.nil ?_
      refine hK20 _ _ ?_
      refine S.seq fun K21 hK21 => ?_
      refine S.condD rfl (fun h4 => ?_) (fun h4 => ?_)
      · refine S.ownSome o2 (by omega) fun ob oo hoa _ _ _ => ?_
        obtain ⟨x, hx⟩ := getE (show k < L2.length by omega)
        have hxd : L2.getD k 0 = x := by simp [List.getD, hx]
        refine S.skip ?_
        with_reducible repeat (first | refine S.then_n ?_ | refine S.then_x ?_ | refine S.then_r ?_ | refine S.inBlock_n ?_ | refine S.inBlock_r ?_ | refine S.inBlock_x rfl ?_ | refine S.noGoto_r ?_ | refine S.noGoto_n ?_ | refine S.noGoto_x ?_)
        refine hK21 _ _ ?_
        refine S.seq fun K22 hK22 => ?_
        refine S.block ?_
        refine S.seq fun K23 hK23 => ?_
        refine S.region rfl ?_
        refine S.op (S.q (q_indexO (k) Tryd.el31 rfl hoa rfl rfl (by omega)) rfl rfl ?_)
        refine S.op (S.q (q_loadOw (o2) (k) Tryd.at68 rfl hoa (by first | rfl | exact Nat.add_assoc _ _ _ | omega) (idsV_get hx)) rfl rfl ?_)
        refine S.op (S.q (q_assign rfl) rfl rfl ?_)
        first | with_reducible refine S.nilK ?_ | refine S.nil ?_
        refine hK23 _ _ ?_
        refine S.seq fun K24 hK24 => ?_
        refine S.seq fun K25 hK25 => ?_
        refine S.cut (fun ρ' Γ' => ρ' = [(0, .pointer (some ⟨b, 0, none⟩)), (6, .int .u32 (j : Int)), (7, sv.v), (8, .bool dn), (10, .int .u32 (x : Int)), (17, .int .i64 (cs.n : Int)), (18, .int .i64 (r : Int)), (23, rv.v), (24, .int .i64 rv.n), (25, .int .i64 (i : Int)), (29, o2.v), (30, .int .i64 o2.n), (31, .int .i64 (k : Int)), (41, .bool (!dn && decide (j < x)))] ∧   Γ' = own sv 68 1 (idsV nl) :: own o2 68 1 (idsV L2) :: own rv 68 1 (idsV (rowIds m r)) :: RI b m :: Γ) ?_ ?_
        · refine S.regionG ?_
          refine S.g_op rfl (S.q (q_move rfl) rfl rfl ?_)
          refine S.g_op rfl (S.q (q_not rfl) rfl rfl ?_)
          refine S.g_op rfl (S.q (q_move rfl) rfl rfl ?_)
          rcases Bool.eq_false_or_eq_true ((!dn)) with hg15_2 | hg15_2
          · refine S.g_yes rfl rfl rfl (hg15_2) (S.q (q_move rfl) rfl rfl ?_)
            refine S.g_yes rfl rfl rfl (hg15_2) (S.q (q_move rfl) rfl rfl ?_)
            refine S.g_yes rfl rfl rfl (hg15_2) (S.q (q_gt rfl rfl) rfl rfl ?_)
            refine S.g_op rfl (S.q (q_pickT rfl (hg15_2) rfl) rfl rfl ?_)
            first | with_reducible refine S.g_nilK ?_ | refine S.g_nil ?_
            with_reducible repeat (first | refine S.then_n ?_ | refine S.then_x ?_ | refine S.then_r ?_ | refine S.inBlock_n ?_ | refine S.inBlock_r ?_ | refine S.inBlock_x rfl ?_ | refine S.noGoto_r ?_ | refine S.noGoto_n ?_ | refine S.noGoto_x ?_)
            first | (rw [show (!dn && decide (j < x)) = decide ((j : Int) < (x : Int)) by rw [hg15_2, Bool.true_and]; exact decide_eq_decide.2 (by omega)]; exact S.meet ⟨rfl, rfl⟩ ⟨rfl, rfl, rfl, rfl, rfl, rfl, rfl, rfl, rfl, rfl, rfl, rfl, rfl, rfl, trivial⟩ Sub.ent) | (rw [show (!dn && decide (j < x)) = false by rw [hg15_2]; rfl]; exact S.meet ⟨rfl, rfl⟩ ⟨rfl, rfl, rfl, rfl, rfl, rfl, rfl, rfl, rfl, rfl, rfl, rfl, rfl, rfl, trivial⟩ Sub.ent)
          · refine S.g_no rfl rfl rfl (hg15_2) rfl rfl ?_
            refine S.g_no rfl rfl rfl (hg15_2) rfl rfl ?_
            refine S.g_no rfl rfl rfl (hg15_2) rfl rfl ?_
            refine S.g_op rfl (S.q (q_pickF rfl (hg15_2) rfl) rfl rfl ?_)
            first | with_reducible refine S.g_nilK ?_ | refine S.g_nil ?_
            with_reducible repeat (first | refine S.then_n ?_ | refine S.then_x ?_ | refine S.then_r ?_ | refine S.inBlock_n ?_ | refine S.inBlock_r ?_ | refine S.inBlock_x rfl ?_ | refine S.noGoto_r ?_ | refine S.noGoto_n ?_ | refine S.noGoto_x ?_)
            first | (rw [show (!dn && decide (j < x)) = decide ((j : Int) < (x : Int)) by rw [hg15_2, Bool.true_and]; exact decide_eq_decide.2 (by omega)]; exact S.meet ⟨rfl, rfl⟩ ⟨rfl, rfl, rfl, rfl, rfl, rfl, rfl, rfl, rfl, rfl, rfl, rfl, rfl, rfl, trivial⟩ Sub.ent) | (rw [show (!dn && decide (j < x)) = false by rw [hg15_2]; rfl]; exact S.meet ⟨rfl, rfl⟩ ⟨rfl, rfl, rfl, rfl, rfl, rfl, rfl, rfl, rfl, rfl, rfl, rfl, rfl, rfl, trivial⟩ Sub.ent)
        · rintro ρ' Γ' ⟨rfl, rfl⟩
          refine hK25 _ _ ?_
          refine S.cut (fun ρ' Γ' => ∃ (sv2 : SV) (n2 : List Nat) (d2 : Bool), sv2.n = n2.length ∧ n2.length ≤ k + 2 ∧ insU j false L2 (k + 1) = (n2 ++ [x], d2) ∧ ρ' = [(0, .pointer (some ⟨b, 0, none⟩)), (6, .int .u32 (j : Int)), (7, sv2.v), (8, .bool d2), (10, .int .u32 (x : Int)), (17, .int .i64 (cs.n : Int)), (18, .int .i64 (r : Int)), (23, rv.v), (24, .int .i64 rv.n), (25, .int .i64 (i : Int)), (29, o2.v), (30, .int .i64 o2.n), (31, .int .i64 (k : Int))] ∧   Γ' = own sv2 68 1 (idsV n2) :: own o2 68 1 (idsV L2) :: own rv 68 1 (idsV (rowIds m r)) :: RI b m :: Γ) ?_ ?_
          · refine S.cond rfl (fun h5 => ?_) (fun h5 => ?_)
            · have hst : insU j false L2 (k + 1) = ((nl ++ [j]) ++ [x], true) := by rw [insU_t (by rw [hiu, hxd]; exact h5), hiu, hxd]
              have hl5 : (nl ++ [j]).length = nl.length + 1 := by simp
              have hd5 : idsV nl ++ [.int .u32 (j : Int)] = idsV (nl ++ [j]) := by simp
              refine S.seq fun K26 hK26 => ?_
              refine S.region rfl ?_
              refine S.op (S.q (q_move rfl) rfl rfl ?_)
              refine S.op (S.q (q_move rfl) rfl rfl ?_)
              refine S.op (S.buildSlice (pvs := [(_, _)]) [_] Tryd.underlying31 Tryd.inf68 rfl rfl ⟨⟨rfl, rfl⟩, trivial⟩ rfl rfl ?_)
              intro b44
              refine S.op (S.appendOw (s := sv) (1) ([.int .u32 (j : Int)]) Tryd.underlying31 Tryd.inf68 rfl rfl rfl (blk_slAt (b := b44) rfl (by unfold maxLen; omega)) (by first | rfl | exact allOne_bcells _) (⟨by omega, by omega⟩) rfl ?_)
              intro sv2 hsv2
              refine S.op (S.q (q_assign rfl) rfl rfl ?_)
              first | with_reducible refine S.nilK ?_ | refine S.nil ?_
              refine hK26 _ _ ?_
              refine S.region rfl ?_
              refine S.op (S.q (q_assign rfl) rfl rfl ?_)
              first | with_reducible refine S.nilK ?_ | refine S.nil ?_
              with_reducible repeat (first | refine S.then_n ?_ | refine S.then_x ?_ | refine S.then_r ?_ | refine S.inBlock_n ?_ | refine S.inBlock_r ?_ | refine S.inBlock_x rfl ?_ | refine S.noGoto_r ?_ | refine S.noGoto_n ?_ | refine S.noGoto_x ?_)
              first | (rw [hd5]; exact S.meet ⟨sv2, nl ++ [j], true, by omega, by omega, hst, rfl, rfl⟩ ⟨rfl, rfl, rfl, rfl, rfl, rfl, rfl, rfl, rfl, rfl, rfl, rfl, rfl, trivial⟩ Sub.ent) | exact S.meet ⟨sv, nl, dn, hsv, by omega, hst, rfl, rfl⟩ ⟨rfl, rfl, rfl, rfl, rfl, rfl, rfl, rfl, rfl, rfl, rfl, rfl, rfl, trivial⟩ Sub.ent
            · have hst : insU j false L2 (k + 1) = (nl ++ [x], dn) := by rw [insU_f (by rw [hiu, hxd, h5]; decide), hiu, hxd]
              refine S.skip ?_
              with_reducible repeat (first | refine S.then_n ?_ | refine S.then_x ?_ | refine S.then_r ?_ | refine S.inBlock_n ?_ | refine S.inBlock_r ?_ | refine S.inBlock_x rfl ?_ | refine S.noGoto_r ?_ | refine S.noGoto_n ?_ | refine S.noGoto_x ?_)
              with_reducible repeat (first | refine S.then_n ?_ | refine S.then_x ?_ | refine S.then_r ?_ | refine S.inBlock_n ?_ | refine S.inBlock_r ?_ | refine S.inBlock_x rfl ?_ | refine S.noGoto_r ?_ | refine S.noGoto_n ?_ | refine S.noGoto_x ?_)
              first | (rw [hd5]; exact S.meet ⟨sv2, nl ++ [j], true, by omega, by omega, hst, rfl, rfl⟩ ⟨rfl, rfl, rfl, rfl, rfl, rfl, rfl, rfl, rfl, rfl, rfl, rfl, rfl, trivial⟩ Sub.ent) | exact S.meet ⟨sv, nl, dn, hsv, by omega, hst, rfl, rfl⟩ ⟨rfl, rfl, rfl, rfl, rfl, rfl, rfl, rfl, rfl, rfl, rfl, rfl, rfl, trivial⟩ Sub.ent
          · rintro ρ' Γ' ⟨sv2, n2, d2, hsv2, hn2, hst, rfl, rfl⟩
            refine hK24 _ _ ?_
            refine S.region rfl ?_
            refine S.op (S.q (q_move rfl) rfl rfl ?_)
            refine S.op (S.q (q_move rfl) rfl rfl ?_)
            refine S.op (S.buildSlice (pvs := [(_, _)]) [_] Tryd.underlying31 Tryd.inf68 rfl rfl ⟨⟨rfl, rfl⟩, trivial⟩ rfl rfl ?_)
            intro b48
            refine S.op (S.appendOw (s := sv2) (1) ([.int .u32 (x : Int)]) Tryd.underlying31 Tryd.inf68 rfl rfl rfl (blk_slAt (b := b48) rfl (by unfold maxLen; omega)) (by first | rfl | exact allOne_bcells _) (⟨by omega, by omega⟩) rfl ?_)
            intro sv3 hsv3
            refine S.op (S.q (q_assign rfl) rfl rfl ?_)
            first | with_reducible refine S.nilK ?_ | refine S.nil ?_
            with_reducible repeat (first | refine S.then_n ?_ | refine S.then_x ?_ | refine S.then_r ?_ | refine S.inBlock_n ?_ | refine S.inBlock_r ?_ | refine S.inBlock_x rfl ?_ | refine S.noGoto_r ?_ | refine S.noGoto_n ?_ | refine S.noGoto_x ?_)
            refine hK22 _ _ ?_
            refine S.region rfl ?_
            refine S.op (S.q (q_add rfl rfl (inI64 (by omega) (by omega))) rfl rfl ?_)
            refine S.op (S.q (q_move rfl) rfl rfl ?_)
            first | with_reducible refine S.nilK ?_ | refine S.nil ?_
            with_reducible repeat (first | refine S.then_n ?_ | refine S.then_x ?_ | refine S.then_r ?_ | refine S.inBlock_n ?_ | refine S.inBlock_r ?_ | refine S.inBlock_x rfl ?_ | refine S.noGoto_r ?_ | refine S.noGoto_n ?_ | refine S.noGoto_x ?_)
            rw [show idsV n2 ++ [Value.int .u32 (x : Int)] = idsV (n2 ++ [x]) by simp]
            exact S.next (q3 - 1) (⟨k + 1, sv3, n2 ++ [x], d2, by omega, by omega, hst, by rw [List.length_append, List.length_singleton]; omega, rfl, rfl⟩) (by omega) (by repeat (first | exact trivial | refine ⟨rfl, ?_⟩)) Sub.ent
      · have hke : k = L2.length := by omega
        rw [hke] at hiu
        refine S.exit ?_
        with_reducible repeat (first | refine S.then_n ?_ | refine S.then_x ?_ | refine S.then_r ?_ | refine S.inBlock_n ?_ | refine S.inBlock_r ?_ | refine S.inBlock_x rfl ?_ | refine S.noGoto_r ?_ | refine S.noGoto_n ?_ | refine S.noGoto_x ?_)
        with_reducible refine S.inBlock_s ?_
        with_reducible repeat (first | refine S.then_n ?_ | refine S.then_x ?_ | refine S.then_r ?_ | refine S.inBlock_n ?_ | refine S.inBlock_r ?_ | refine S.inBlock_x rfl ?_ | refine S.noGoto_r ?_ | refine S.noGoto_n ?_ | refine S.noGoto_x ?_)
        refine hK18 _ _ ?_
        refine S.seq fun K27 hK27 => ?_
        refine S.seq fun K28 hK28 => ?_
        refine S.region rfl ?_
        refine S.op (S.q (q_move rfl) rfl rfl ?_)
        refine S.op (S.q (q_not rfl) rfl rfl ?_)
        first | with_reducible refine S.nilK ?_ | refine S.nil ?_
        refine hK28 _ _ ?_
        refine S.cond rfl (fun h6 => ?_) (fun h6 => ?_)
        · have hdn : dn = false := by simpa using h6
          have hfin : insJ j L2 = nl ++ [j] := by rw [insJ, hiu, hdn]; rfl
          have hd6 : idsV nl ++ [.int .u32 (j : Int)] = idsV (nl ++ [j]) := by simp
          have hl6 : (nl ++ [j]).length = nl.length + 1 := by simp
          refine S.region rfl ?_
          refine S.op (S.q (q_move rfl) rfl rfl ?_)
          refine S.op (S.q (q_move rfl) rfl rfl ?_)
          refine S.op (S.buildSlice (pvs := [(_, _)]) [_] Tryd.underlying31 Tryd.inf68 rfl rfl ⟨⟨rfl, rfl⟩, trivial⟩ rfl rfl ?_)
          intro b55
          refine S.op (S.appendOw (s := sv) (1) ([.int .u32 (j : Int)]) Tryd.underlying31 Tryd.inf68 rfl rfl rfl (blk_slAt (b := b55) rfl (by unfold maxLen; omega)) (by first | rfl | exact allOne_bcells _) (⟨by omega, by omega⟩) rfl ?_)
          intro sv2 hsv2
          refine S.op (S.q (q_assign rfl) rfl rfl ?_)
          first | with_reducible refine S.nilK ?_ | refine S.nil ?_
          refine hK27 _ _ ?_
          refine S.region rfl ?_
          refine S.op (S.q (q_move rfl) rfl rfl ?_)
          refine S.op (S.q (q_assign rfl) rfl rfl ?_)
          first | with_reducible refine S.nilK ?_ | refine S.nil ?_
          with_reducible repeat (first | refine S.then_n ?_ | refine S.then_x ?_ | refine S.then_r ?_ | refine S.inBlock_n ?_ | refine S.inBlock_r ?_ | refine S.inBlock_x rfl ?_ | refine S.noGoto_r ?_ | refine S.noGoto_n ?_ | refine S.noGoto_x ?_)
          refine hK14 _ _ ?_
          refine S.region rfl ?_
          refine S.op (S.q (q_add rfl rfl (inI64 (by omega) (by omega))) rfl rfl ?_)
          refine S.op (S.q (q_move rfl) rfl rfl ?_)
          first | with_reducible refine S.nilK ?_ | refine S.nil ?_
          with_reducible repeat (first | refine S.then_n ?_ | refine S.then_x ?_ | refine S.then_r ?_ | refine S.inBlock_n ?_ | refine S.inBlock_r ?_ | refine S.inBlock_x rfl ?_ | refine S.noGoto_r ?_ | refine S.noGoto_n ?_ | refine S.noGoto_x ?_)
          first | (rw [hd6]; exact S.next (q2 - 1) ⟨i + 1, sv2, nl ++ [j], by omega, by omega, hfin.symm.trans hnx, by omega, rfl, rfl⟩ (by omega) (by repeat (first | exact trivial | refine ⟨rfl, ?_⟩)) Sub.ent) | exact S.next (q2 - 1) ⟨i + 1, sv, nl, by omega, by omega, hfin.symm.trans hnx, hsv, rfl, rfl⟩ (by omega) (by repeat (first | exact trivial | refine ⟨rfl, ?_⟩)) Sub.ent
        · have hdn : dn = true := by simpa using h6
          have hfin : insJ j L2 = nl := by rw [insJ, hiu, hdn]; rfl
          refine S.skip ?_
          with_reducible repeat (first | refine S.then_n ?_ | refine S.then_x ?_ | refine S.then_r ?_ | refine S.inBlock_n ?_ | refine S.inBlock_r ?_ | refine S.inBlock_x rfl ?_ | refine S.noGoto_r ?_ | refine S.noGoto_n ?_ | refine S.noGoto_x ?_)
          refine hK27 _ _ ?_
          refine S.region rfl ?_
          refine S.op (S.q (q_move rfl) rfl rfl ?_)
          refine S.op (S.q (q_assign rfl) rfl rfl ?_)
          first | with_reducible refine S.nilK ?_ | refine S.nil ?_
          with_reducible repeat (first | refine S.then_n ?_ | refine S.then_x ?_ | refine S.then_r ?_ | refine S.inBlock_n ?_ | refine S.inBlock_r ?_ | refine S.inBlock_x rfl ?_ | refine S.noGoto_r ?_ | refine S.noGoto_n ?_ | refine S.noGoto_x ?_)
          refine hK14 _ _ ?_
          refine S.region rfl ?_
          refine S.op (S.q (q_add rfl rfl (inI64 (by omega) (by omega))) rfl rfl ?_)
          refine S.op (S.q (q_move rfl) rfl rfl ?_)
          first | with_reducible refine S.nilK ?_ | refine S.nil ?_
          with_reducible repeat (first | refine S.then_n ?_ | refine S.then_x ?_ | refine S.then_r ?_ | refine S.inBlock_n ?_ | refine S.inBlock_r ?_ | refine S.inBlock_x rfl ?_ | refine S.noGoto_r ?_ | refine S.noGoto_n ?_ | refine S.noGoto_x ?_)
          first | (rw [hd6]; exact S.next (q2 - 1) ⟨i + 1, sv2, nl ++ [j], by omega, by omega, hfin.symm.trans hnx, by omega, rfl, rfl⟩ (by omega) (by repeat (first | exact trivial | refine ⟨rfl, ?_⟩)) Sub.ent) | exact S.next (q2 - 1) ⟨i + 1, sv, nl, by omega, by omega, hfin.symm.trans hnx, hsv, rfl, rfl⟩ (by omega) (by repeat (first | exact trivial | refine ⟨rfl, ?_⟩)) Sub.ent
    · have hie : i = (rowIds m r).length := by omega
      rw [hie, List.take_length] at hL2
      have hL3 : L2 = insAll [] (rowsIds m (r + 1)) := by rw [rowsIds, insAll_app, ← hL, hL2]
      refine S.exit ?_
      with_reducible repeat (first | refine S.then_n ?_ | refine S.then_x ?_ | refine S.then_r ?_ | refine S.inBlock_n ?_ | refine S.inBlock_r ?_ | refine S.inBlock_x rfl ?_ | refine S.noGoto_r ?_ | refine S.noGoto_n ?_ | refine S.noGoto_x ?_)
      with_reducible refine S.inBlock_s ?_
      with_reducible repeat (first | refine S.then_n ?_ | refine S.then_x ?_ | refine S.then_r ?_ | refine S.inBlock_n ?_ | refine S.inBlock_r ?_ | refine S.inBlock_x rfl ?_ | refine S.noGoto_r ?_ | refine S.noGoto_n ?_ | refine S.noGoto_x ?_)
      with_reducible repeat (first | refine S.then_n ?_ | refine S.then_x ?_ | refine S.then_r ?_ | refine S.inBlock_n ?_ | refine S.inBlock_r ?_ | refine S.inBlock_x rfl ?_ | refine S.noGoto_r ?_ | refine S.noGoto_n ?_ | refine S.noGoto_x ?_)
      refine hK9 _ _ ?_
      refine S.region rfl ?_
      refine S.op (S.q (q_add rfl rfl (inI64 (by omega) (by omega))) rfl rfl ?_)
      refine S.op (S.q (q_move rfl) rfl rfl ?_)
      first | with_reducible refine S.nilK ?_ | refine S.nil ?_
      with_reducible repeat (first | refine S.then_n ?_ | refine S.then_x ?_ | refine S.then_r ?_ | refine S.inBlock_n ?_ | refine S.inBlock_r ?_ | refine S.inBlock_x rfl ?_ | refine S.noGoto_r ?_ | refine S.noGoto_n ?_ | refine S.noGoto_x ?_)
      exact S.next (q - 1) (⟨r + 1, o2, L2, by omega, by omega, hL3, ho2, rfl, rfl⟩) (by omega) (by repeat (first | exact trivial | refine ⟨rfl, ?_⟩)) Sub.ent
  · rw [show r = m.R by omega, insAll_rows hm] at hL
    subst hL
    refine S.exit ?_
    with_reducible repeat (first | refine S.then_n ?_ | refine S.then_x ?_ | refine S.then_r ?_ | refine S.inBlock_n ?_ | refine S.inBlock_r ?_ | refine S.inBlock_x rfl ?_ | refine S.noGoto_r ?_ | refine S.noGoto_n ?_ | refine S.noGoto_x ?_)
    with_reducible refine S.inBlock_s ?_
    with_reducible repeat (first | refine S.then_n ?_ | refine S.then_x ?_ | refine S.then_r ?_ | refine S.inBlock_n ?_ | refine S.inBlock_r ?_ | refine S.inBlock_x rfl ?_ | refine S.noGoto_r ?_ | refine S.noGoto_n ?_ | refine S.noGoto_x ?_)
    refine hK5 _ _ ?_
    refine S.seq fun K29 hK29 => ?_
    refine S.region rfl ?_
    refine S.op (S.q (q_move rfl) rfl rfl ?_)
    refine S.op (S.q (q_assign rfl) rfl rfl ?_)
    first | with_reducible refine S.nilK ?_ | refine S.nil ?_
    refine hK29 _ _ ?_
    refine S.ret ?_
    with_reducible repeat (first | refine S.then_n ?_ | refine S.then_x ?_ | refine S.then_r ?_ | refine S.inBlock_n ?_ | refine S.inBlock_r ?_ | refine S.inBlock_x rfl ?_ | refine S.noGoto_r ?_ | refine S.noGoto_n ?_ | refine S.noGoto_x ?_)
    exact S.fin (rs := [_]) (vs := [_]) Tryd.results68 (⟨rfl, trivial⟩)  (⟨ov, rfl, hov, rfl⟩) Sub.ent
theorem rCopy_S (b : Nat) (m : Mx) : Spec Tryd.prog 26 [.pointer (some ⟨b, 0, none⟩)] [RI b m] fun Γ v Θ => ∃ c, v = .pointer (some ⟨c, 0, none⟩) ∧ Θ = RI c m :: RI b m :: Γ := by
  refine Spec.riOk fun hm => ?_
  refine Spec.of_body Tryd.func26 rfl Tryd.ntmps26 rfl ?_
  intro w0 Γ
  show S _ w0 [(0, .pointer (some ⟨b, 0, none⟩))] (RI b m :: Γ) _
  have hR8 := hm.R8
  have hN16 := hm.N16
  have hN1 := hm.N1
  have hR1 := hm.R1
  refine S.riOpen b m fun cs us rs hri => ?_
  have hcn := hri.cn
  have hun := hri.un
  refine S.ownSome cs (by omega) fun cb co hca _ _ _ => ?_
  have hupo : allOne (upC m) = true := List.all_eq_true.2 fun v hv => by
    obtain ⟨i, _, rfl⟩ := List.mem_map.1 hv
    rfl
  refine S.seq fun K1 hK1 => ?_
  refine S.region rfl ?_
  refine S.op (S.q (q_assign rfl) rfl rfl ?_)
  first | with_reducible refine S.nilK ?_ | refine S.nil ?_
  refine hK1 _ _ ?_
  refine S.seq fun K2 hK2 => ?_
  refine S.seq fun K3 hK3 => ?_
  refine S.region rfl ?_
  refine S.op (S.q (q_move rfl) rfl rfl ?_)
  refine S.op (S.q (q_eqN Tryd.underlying26 rfl rfl) rfl rfl ?_)
  first | with_reducible refine S.nilK ?_ | refine S.nil ?_
  refine hK3 _ _ ?_
  refine S.condF rfl ?_
  refine S.skip ?_
  with_reducible repeat (first | refine S.then_n ?_ | refine S.then_x ?_ | refine S.then_r ?_ | refine S.inBlock_n ?_ | refine S.inBlock_r ?_ | refine S.inBlock_x rfl ?_ | refine S.noGoto_r ?_ | refine S.noGoto_n ?_ | refine S.noGoto_x ?_)
  refine hK2 _ _ ?_
  refine S.seq fun K4 hK4 => ?_
  refine S.region rfl ?_
  refine S.op (S.buildSlice0 Tryd.underlying53 Tryd.inf4 rfl ?_)
  intro b8 hb8
  refine S.op (S.q (q_move rfl) rfl rfl ?_)
  refine S.op (S.q (q_nilCheck rfl) rfl rfl ?_)
  refine S.op (S.q (q_field Tryd.fo55_1 rfl) rfl rfl ?_)
  refine S.op (S.q (q_load Tryd.at53 rfl rfl) rfl rfl ?_)
  refine S.op (S.appendOw (s := b8) (us.n) (upC m) Tryd.underlying53 Tryd.inf4 rfl rfl rfl (fun w hs => (RdS.own (s := us) (e := 4) (sz := 1) (xs := upC m)).at_ hs) (hupo) (⟨by omega, by omega⟩) rfl ?_)
  intro u2 hu2
  rw [List.nil_append]
  refine S.op (S.q (q_build (pvs := [(_, _)]) [_, _] Tryd.z55 Tryd.p55 ⟨⟨rfl, rfl⟩, trivial⟩ rfl) rfl rfl ?_)
  refine S.op (S.box (cs := [_, _]) rfl rfl rfl ?_)
  intro b15
  refine S.op (S.q (q_assign rfl) rfl rfl ?_)
  first | with_reducible refine S.nilK ?_ | refine S.nil ?_
  refine hK4 _ _ ?_
  refine S.seq fun K5 hK5 => ?_
  refine S.seq fun K6 hK6 => ?_
  refine S.region rfl ?_
  refine S.op (S.q (q_move rfl) rfl rfl ?_)
  refine S.op (S.q (q_nilCheck rfl) rfl rfl ?_)
  refine S.op (S.q (q_field Tryd.fo55_0 rfl) rfl rfl ?_)
  refine S.op (S.q (q_load Tryd.at52 rfl rfl) rfl rfl ?_)
  refine S.op (S.q (q_len Tryd.underlying52 rfl) rfl rfl ?_)
  show S _ w0 _ (blk b15 55 #[SV.nil.v, u2.v] :: own u2 4 1 (upC m) :: _) _
  refine S.ent (Ent.ownNil 31 1) ?_
  refine S.ent (Ent.allsNil rrB _) ?_
  show S _ w0 _ (alls [] rrB :: own SV.nil 31 1 (([] : List Rr).map rrV) :: blk b15 55 #[SV.nil.v, u2.v] :: own u2 4 1 (upC m) :: riX b m cs us rs Γ) _
  refine S.op (S.q (q_move rfl) rfl rfl ?_)
  first | with_reducible refine S.nilK ?_ | refine S.nil ?_
  refine hK6 _ _ ?_
  refine S.block ?_
  refine S.loop (fun q ρ' Γ' => ∃ (i : Nat) (r2 : List Rr) (c2 : SV), q = m.R - i ∧ i ≤ m.R ∧ r2.map (·.2) = (List.range i).map (rowN m) ∧ c2.n = i ∧ (∀ p ∈ r2, p.1.n = m.N) ∧ ρ' = [(0, .pointer (some ⟨b, 0, none⟩)), (3, .pointer (some ⟨b15, 0, none⟩)), (19, cs.v), (20, .int .i64 (cs.n : Int)), (21, .int .i64 (i : Int))] ∧   Γ' = alls r2 rrB :: own c2 31 1 (r2.map rrV) :: blk b15 55 #[c2.v, u2.v] :: own u2 4 1 (upC m) :: riX b m cs us rs Γ) (m := _) (ρ0 := _) (Γ0 := _) (⟨0, [], SV.nil, rfl, by omega, rfl, rfl, fun _ h => (by cases h), rfl, rfl⟩) (by repeat (first | exact trivial | refine ⟨rfl, ?_⟩)) Sub.ent ?_
  rintro q ρ' Γ' ⟨i, r2, c2, hq, hi, hdat, hc2, hlen, rfl, rfl⟩
  refine S.seq fun K7 hK7 => ?_
  refine S.region rfl ?_
  refine S.op (S.q (q_lt rfl rfl) rfl rfl ?_)
  first | with_reducible refine S.nilK ?_ | refine S.nil ?_
  refine hK7 _ _ ?_
  refine S.seq fun K8 hK8 => ?_
  refine S.condD rfl (fun h2 => ?_) (fun h2 => ?_)
  · obtain ⟨p, hp, hpd, hpn⟩ := hri.at_ (show i < m.R by omega)
    have hRp : RdS (alls rs rrB) p.1 p.1.n 1 (idsV p.2) := RdS.alls hp RdS.own
    refine S.skip ?_
    with_reducible repeat (first | refine S.then_n ?_ | refine S.then_x ?_ | refine S.then_r ?_ | refine S.inBlock_n ?_ | refine S.inBlock_r ?_ | refine S.inBlock_x rfl ?_ | refine S.noGoto_r ?_ | refine S.noGoto_n ?_ | refine S.noGoto_x ?_)
    refine hK8 _ _ ?_
    refine S.seq fun K9 hK9 => ?_
    refine S.block ?_
    refine S.seq fun K10 hK10 => ?_
    refine S.region rfl ?_
    refine S.op (S.q (q_indexO (i) Tryd.el52 rfl hca rfl rfl (by omega)) rfl rfl ?_)
    refine S.op (S.q (q_loadOw (cs) (i) Tryd.at31 rfl hca (by first | rfl | exact Nat.add_assoc _ _ _ | omega) (by rw [List.getElem?_map, hp]; rfl)) rfl rfl ?_)
    refine S.op (S.q (q_assign rfl) rfl rfl ?_)
    first | with_reducible refine S.nilK ?_ | refine S.nil ?_
    refine hK10 _ _ ?_
    refine S.draw ([blk b15 55 #[c2.v, u2.v]]) [12] Tryd.mixed ?_
    refine S.dr_take 0 [10, 11, 12] rfl (by kernel_rfl) rfl rfl rfl (q_move rfl) Sub.ent ?_
    refine S.dr_take 1 [2, 3, 4, 9, 10, 11, 12] rfl (by kernel_rfl) rfl rfl rfl (q_move rfl) Sub.ent ?_
    refine S.dr_take 2 [3, 4, 9, 10, 11, 12] rfl (by kernel_rfl) rfl rfl rfl (q_nilCheck rfl) Sub.ent ?_
    refine S.dr_take 3 [4, 9, 10, 11, 12] rfl (by kernel_rfl) rfl rfl rfl (q_field Tryd.fo55_0 rfl) Sub.ent ?_
    refine S.dr_take 4 [9, 10, 11, 12] rfl (by kernel_rfl) rfl rfl rfl (q_load Tryd.at52 rfl rfl) Sub.ent ?_
    refine S.dr_take 6 [7, 8, 9, 10, 11, 12] rfl (by kernel_rfl) rfl rfl rfl (q_move rfl) Sub.ent ?_
    refine S.dr_1 (i := 5) (by kernel_rfl) rfl rfl ?_
    refine  (S.buildSlice0 Tryd.underlying31 Tryd.inf68 rfl ?_)
    intro b30 hb30
    refine S.dr_k rfl Sub.ent ?_
    refine S.dr_1 (i := 7) (by kernel_rfl) rfl rfl ?_
    refine  (S.appendOw (s := b30) (p.1.n) (idsV p.2) Tryd.underlying31 Tryd.inf68 rfl rfl rfl (fun w hs => hRp.at_ hs) (idsV_one p.2) (⟨by omega, by omega⟩) rfl ?_)
    intro nv1 hnv1
    rw [List.nil_append]
    refine S.dr_k rfl Sub.ent ?_
    refine S.dr_1 (i := 8) (by kernel_rfl) rfl rfl ?_
    refine  (S.buildSlice (pvs := [(_, _)]) [_] Tryd.underlying52 Tryd.inf31 rfl rfl ⟨⟨rfl, rfl⟩, trivial⟩ rfl rfl ?_)
    intro b33
    refine S.dr_k rfl Sub.ent ?_
    refine S.dr_1 (i := 9) (by kernel_rfl) rfl rfl ?_
    refine  (S.appendOw (s := c2) (1) ([nv1.v]) Tryd.underlying52 Tryd.inf31 rfl rfl rfl (blk_slAt (b := b33) rfl (by unfold maxLen; omega)) (by first | rfl | exact allOne_bcells _) (⟨by omega, by omega⟩) rfl ?_)
    intro c3 hc3
    refine S.dr_k rfl Sub.ent ?_
    refine S.dr_take 10 [11, 12] rfl (by kernel_rfl) rfl rfl rfl (q_nilCheck rfl) Sub.ent ?_
    refine S.dr_take 11 [12] rfl (by kernel_rfl) rfl rfl rfl (q_field Tryd.fo55_0 rfl) Sub.ent ?_
    refine S.dr_1 (i := 12) (by kernel_rfl) rfl rfl ?_
    refine  (S.store (cs' := [_, _]) Tryd.at52 rfl rfl rfl rfl rfl ?_)
    refine S.dr_late ([]) [] rfl ?_
    first | with_reducible refine S.dr_doneK (by kernel_rfl) ?_ | refine S.dr_done (by kernel_rfl) ?_
    with_reducible repeat (first | refine S.then_n ?_ | refine S.then_x ?_ | refine S.then_r ?_ | refine S.inBlock_n ?_ | refine S.inBlock_r ?_ | refine S.inBlock_x rfl ?_ | refine S.noGoto_r ?_ | refine S.noGoto_n ?_ | refine S.noGoto_x ?_)
    refine hK9 _ _ ?_
    refine S.region rfl ?_
    refine S.op (S.q (q_add rfl rfl (inI64 (by omega) (by omega))) rfl rfl ?_)
    refine S.op (S.q (q_move rfl) rfl rfl ?_)
    first | with_reducible refine S.nilK ?_ | refine S.nil ?_
    with_reducible repeat (first | refine S.then_n ?_ | refine S.then_x ?_ | refine S.then_r ?_ | refine S.inBlock_n ?_ | refine S.inBlock_r ?_ | refine S.inBlock_x rfl ?_ | refine S.noGoto_r ?_ | refine S.noGoto_n ?_ | refine S.noGoto_x ?_)
    have hdat2 : (r2 ++ [((nv1, p.2) : Rr)]).map (·.2) = (List.range (i + 1)).map (rowN m) := by rw [List.map_append, hdat, List.range_succ, List.map_append, hpd]; rfl
    have hlen2 : ∀ z ∈ r2 ++ [((nv1, p.2) : Rr)], z.1.n = m.N := fun z hz => by
      rcases List.mem_append.1 hz with h9 | h9
      · exact hlen z h9
      · rw [List.mem_singleton] at h9
        rw [h9]
        show nv1.n = m.N
        omega
    have hmap : r2.map rrV ++ [nv1.v] = (r2 ++ [((nv1, p.2) : Rr)]).map rrV := by rw [List.map_append]; rfl
    rw [hmap]
    refine S.conv2 (own nv1 68 1 (idsV p.2)) (alls r2 rrB) (Ent.allsSnoc rrB r2 ((nv1, p.2) : Rr) _) ?_
    exact S.next (q - 1) (⟨i + 1, r2 ++ [(nv1, p.2)], c3, by omega, by omega, hdat2, by omega, hlen2, rfl, rfl⟩) (by omega) (by repeat (first | exact trivial | refine ⟨rfl, ?_⟩)) Sub.ent
  · rw [show i = m.R by omega] at hdat
    have hri2 : RiOk m c2 u2 r2 := ⟨hm, by omega, by omega, hdat, hlen⟩
    refine S.exit ?_
    with_reducible repeat (first | refine S.then_n ?_ | refine S.then_x ?_ | refine S.then_r ?_ | refine S.inBlock_n ?_ | refine S.inBlock_r ?_ | refine S.inBlock_x rfl ?_ | refine S.noGoto_r ?_ | refine S.noGoto_n ?_ | refine S.noGoto_x ?_)
    with_reducible refine S.inBlock_s ?_
    with_reducible repeat (first | refine S.then_n ?_ | refine S.then_x ?_ | refine S.then_r ?_ | refine S.inBlock_n ?_ | refine S.inBlock_r ?_ | refine S.inBlock_x rfl ?_ | refine S.noGoto_r ?_ | refine S.noGoto_n ?_ | refine S.noGoto_x ?_)
    refine hK5 _ _ ?_
    refine S.seq fun K11 hK11 => ?_
    refine S.region rfl ?_
    refine S.op (S.q (q_move rfl) rfl rfl ?_)
    refine S.op (S.q (q_assign rfl) rfl rfl ?_)
    first | with_reducible refine S.nilK ?_ | refine S.nil ?_
    refine hK11 _ _ ?_
    refine S.ret ?_
    with_reducible repeat (first | refine S.then_n ?_ | refine S.then_x ?_ | refine S.then_r ?_ | refine S.inBlock_n ?_ | refine S.inBlock_r ?_ | refine S.inBlock_x rfl ?_ | refine S.noGoto_r ?_ | refine S.noGoto_n ?_ | refine S.noGoto_x ?_)
    refine S.riClose b15 m c2 u2 r2 hri2 ?_
    refine S.riClose b m cs us rs hri ?_
    refine S.sub (RI b15 m :: RI b m :: Γ) ?_
    exact S.fin (rs := [_]) (vs := [_]) Tryd.results26 (⟨rfl, trivial⟩)  (⟨b15, rfl, rfl⟩) Sub.ent
end Go.Proofs.YtegjmmocnffpiaaDoor
/- The document's shuffle: are nodes free in a row? A job stands in another row. -/
namespace Go.Proofs.YtegjmmocnffpiaaDoor
open Go.RowKit
set_option maxRecDepth 20000
/-! Two members of a family at once. -/
def but2 {α : Type} (os : List α) (i j : Nat) (F : α → Assn) : Assn := stars [alls ((os.take j).take i) F, alls ((os.take j).drop (i + 1)) F, alls (os.drop (j + 1)) F]
theorem Ent.two1 {α : Type} (F : α → Assn) {os : List α} {i j : Nat} {x y : α} (hij : i < j) (hx : os[i]? = some x) (hy : os[j]? = some y) (Γ : List Assn) : Ent (alls os F :: Γ) (F x :: F y :: but2 os i j F :: Γ) := by
  have hx2 : (os.take j)[i]? = some x := by rw [List.getElem?_take_of_lt hij]; exact hx
  refine (Ent.allsAt F hy Γ).trans ?_
  refine ((Ent.allsAt F hx2 _).cons (F y)).trans ?_
  refine (Ent.swap _ _ _).trans (Ent.cons _ (Ent.cons _ ?_))
  exact Ent.pack [alls ((os.take j).take i) F, alls ((os.take j).drop (i + 1)) F, alls (os.drop (j + 1)) F] Γ
theorem Ent.two1Back {α : Type} (F : α → Assn) {os : List α} {i j : Nat} {x y x' y' : α} (hij : i < j) (hx : os[i]? = some x) (hy : os[j]? = some y) (Γ : List Assn) : Ent (F x' :: F y' :: but2 os i j F :: Γ) (alls ((os.set i x').set j y') F :: Γ) := by
  have hx2 : (os.take j)[i]? = some x := by rw [List.getElem?_take_of_lt hij]; exact hx
  have hy2 : (os.set i x')[j]? = some y := by rw [List.getElem?_set_ne (by omega)]; exact hy
  have e1 : (os.set i x').take j = (os.take j).set i x' := List.take_set
  have e2 : (os.set i x').drop (j + 1) = os.drop (j + 1) := List.drop_set_of_lt (by omega)
  refine ((Ent.cons _ (Ent.cons _ (Ent.unpack [alls ((os.take j).take i) F, alls ((os.take j).drop (i + 1)) F, alls (os.drop (j + 1)) F] Γ))).trans (Ent.swap _ _ _)).trans ?_
  refine ((Ent.allsBack F (x' := x') hx2 (alls (os.drop (j + 1)) F :: Γ)).cons (F y')).trans ?_
  rw [← e1, ← e2]
  exact Ent.allsBack F (x' := y') hy2 Γ
theorem Ent.two2 {α : Type} (F : α → Assn) {os : List α} {i j : Nat} {x y : α} (hij : i ≠ j) (hx : os[i]? = some x) (hy : os[j]? = some y) (Γ : List Assn) : Ent (alls os F :: Γ) (F x :: F y :: but2 os (min i j) (max i j) F :: Γ) := by
  rcases Nat.lt_or_gt_of_ne hij with h | h
  · rw [Nat.min_eq_left (by omega), Nat.max_eq_right (by omega)]
    exact Ent.two1 F h hx hy Γ
  · rw [Nat.min_eq_right (by omega), Nat.max_eq_left (by omega)]
    exact (Ent.two1 F h hy hx Γ).trans (Ent.swap _ _ _)
theorem Ent.two2Back {α : Type} (F : α → Assn) {os : List α} {i j : Nat} {x y x' y' : α} (hij : i ≠ j) (hx : os[i]? = some x) (hy : os[j]? = some y) (Γ : List Assn) : Ent (F x' :: F y' :: but2 os (min i j) (max i j) F :: Γ) (alls ((os.set i x').set j y') F :: Γ) := by
  rcases Nat.lt_or_gt_of_ne hij with h | h
  · rw [Nat.min_eq_left (by omega), Nat.max_eq_right (by omega)]
    exact Ent.two1Back F h hx hy Γ
  · rw [Nat.min_eq_right (by omega), Nat.max_eq_left (by omega), List.set_comm _ _ hij]
    exact (Ent.swap _ _ _).trans (Ent.two1Back F h hy hx Γ)
theorem goes_iff {m : Mx} (hm : MxOk m) {r : Nat} {ns : List Nat} (h : ∀ k ∈ ns, k < 16) : tk m.js r &&& ofL ns = 0#16 ↔ ∀ k ∈ ns, atJ m.js r k = 0 := by
  constructor
  · intro e k hk
    refine (busy_iff hm).2 ?_
    cases hb : (tk m.js r).getLsbD k with
    | false => rfl
    | true =>
      have := congrArg (fun s => s.getLsbD k) e
      rw [BitVec.getLsbD_and, hb, (ofL_bit _ _).2 ⟨h k hk, hk⟩] at this
      simp at this
  · intro e
    refine BitVec.eq_of_getLsbD_eq fun k _ => ?_
    rw [BitVec.getLsbD_and]
    cases hb : (ofL ns).getLsbD k with
    | false => simp
    | true => rw [(busy_iff hm).1 (e k ((ofL_bit _ _).1 hb).2)]; simp
theorem rGoes_S (b : Nat) (m : Mx) (r : Nat) (R : Assn) (s : SV) (ns : List Nat) (hsn : s.n = ns.length) (hR : RdS R s s.n 1 (ints (casts ns))) (hr : r < m.R) (hns : ∀ k ∈ ns, k < m.N) : Spec Tryd.prog 50 [.pointer (some ⟨b, 0, none⟩), .int .i64 (r : Int), s.v] [RI b m, R] fun Γ v Θ => v = .bool (decide (tk m.js r &&& ofL ns = 0#16)) ∧ Θ = RI b m :: R :: Γ := by
  refine Spec.riOk fun hm => ?_
  refine Spec.of_body Tryd.func50 rfl Tryd.ntmps50 rfl ?_
  intro w0 Γ
  show S _ w0 [(0, .pointer (some ⟨b, 0, none⟩)), (1, .int .i64 (r : Int)), (2, s.v)] (RI b m :: R :: Γ) _
  refine S.rCap hR fun _ hcap1 hcap2 => ?_
  have hN16 := hm.N16
  have hN1 := hm.N1
  have hgi := goes_iff hm (r := r) (ns := ns) (fun k hk => by have := hns k hk; omega)
  refine S.riOpen b m fun cs us rs hri => ?_
  have hcn := hri.cn
  refine S.ownSome cs (by omega) fun cb co hca _ _ _ => ?_
  obtain ⟨p, hp, hpd, hpn⟩ := hri.at_ hr
  have hRp : RdS (alls rs rrB) p.1 p.1.n 1 (idsV p.2) := RdS.alls hp RdS.own
  refine S.rSome hRp (by omega) fun pb po hpa => ?_
  refine S.seq fun K1 hK1 => ?_
  refine S.region rfl ?_
  refine S.op (S.q (q_assign rfl) rfl rfl ?_)
  first | with_reducible refine S.nilK ?_ | refine S.nil ?_
  refine hK1 _ _ ?_
  refine S.seq fun K2 hK2 => ?_
  refine S.seq fun K3 hK3 => ?_
  refine S.region rfl ?_
  refine S.op (S.q (q_move rfl) rfl rfl ?_)
  refine S.op (S.q (q_len Tryd.underlying69 rfl) rfl rfl ?_)
  refine S.op (S.q (q_move rfl) rfl rfl ?_)
  first | with_reducible refine S.nilK ?_ | refine S.nil ?_
  refine hK3 _ _ ?_
  refine S.block ?_
  refine S.loop (fun q ρ' Γ' => ∃ i : Nat, q = ns.length - i ∧ i ≤ ns.length ∧ (∀ k ∈ ns.take i, atJ m.js r k = 0) ∧ ρ' = [(0, .pointer (some ⟨b, 0, none⟩)), (1, .int .i64 (r : Int)), (9, s.v), (10, .int .i64 s.n), (11, .int .i64 (i : Int))] ∧ Γ' = R :: riX b m cs us rs Γ) (m := _) (ρ0 := _) (Γ0 := _) (⟨0, rfl, by omega, fun _ h => (by cases h), rfl, rfl⟩) (by repeat (first | exact trivial | refine ⟨rfl, ?_⟩)) Sub.ent ?_
  rintro q ρ' Γ' ⟨i, hq, hi, hfree, rfl, rfl⟩
  refine S.seq fun K4 hK4 => ?_
  refine S.region rfl ?_
  refine S.op (S.q (q_lt rfl rfl) rfl rfl ?_)
  first | with_reducible refine S.nilK ?_ | refine S.nil ?_
  refine hK4 _ _ ?_
  refine S.seq fun K5 hK5 => ?_
  refine S.condD rfl (fun h1 => ?_) (fun h1 => ?_)
  · refine S.rSome hR (by omega) fun sb so hsa => ?_
    obtain ⟨y, hy⟩ := getE (show i < ns.length by omega)
    have hyN := hns y (List.mem_of_getElem? hy)
    have hxa := rowN_get (m := m) hyN r
    rw [← hpd] at hxa
    refine S.skip ?_
    with_reducible repeat (first | refine S.then_n ?_ | refine S.then_x ?_ | refine S.then_r ?_ | refine S.inBlock_n ?_ | refine S.inBlock_r ?_ | refine S.inBlock_x rfl ?_ | refine S.noGoto_r ?_ | refine S.noGoto_n ?_ | refine S.noGoto_x ?_)
    refine hK5 _ _ ?_
    refine S.seq fun K6 hK6 => ?_
    refine S.block ?_
    refine S.seq fun K7 hK7 => ?_
    refine S.region rfl ?_
    refine S.op (S.q (q_indexO (i) Tryd.el69 rfl hsa rfl rfl (by omega)) rfl rfl ?_)
    refine S.op (S.q (q_loadR hR i Tryd.at3 rfl hsa (by omega) (by omega) (ints_get (by rw [List.getElem?_map, hy]; rfl))) rfl rfl ?_)
    refine S.op (S.q (q_assign rfl) rfl rfl ?_)
    first | with_reducible refine S.nilK ?_ | refine S.nil ?_
    refine hK7 _ _ ?_
    refine S.seq fun K8 hK8 => ?_
    refine S.region rfl ?_
    refine S.op (S.q (q_move rfl) rfl rfl ?_)
    refine S.op (S.q (q_nilCheck rfl) rfl rfl ?_)
    refine S.op (S.q (q_field Tryd.fo55_0 rfl) rfl rfl ?_)
    refine S.op (S.q (q_load Tryd.at52 rfl rfl) rfl rfl ?_)
    refine S.op (S.q (q_move rfl) rfl rfl ?_)
    refine S.op (S.q (q_indexO (r) Tryd.el52 rfl hca rfl rfl (by omega)) rfl rfl ?_)
    refine S.op (S.q (q_loadOw (cs) (r) Tryd.at31 rfl hca (by first | rfl | exact Nat.add_assoc _ _ _ | omega) (by rw [List.getElem?_map, hp]; rfl)) rfl rfl ?_)
    refine S.op (S.q (q_move rfl) rfl rfl ?_)
    refine S.op (S.q (q_indexO (y) Tryd.el31 rfl hpa rfl rfl (by omega)) rfl rfl ?_)
    refine S.op (S.q (q_loadR hRp y Tryd.at68 rfl hpa (by omega) (by omega) (idsV_get hxa)) rfl rfl ?_)
    refine S.op (S.q (q_ne rfl rfl) rfl rfl ?_)
    first | with_reducible refine S.nilK ?_ | refine S.nil ?_
    refine hK8 _ _ ?_
    refine S.condD rfl (fun h2 => ?_) (fun h2 => ?_)
    · have hno : decide (tk m.js r &&& ofL ns = 0#16) = false := decide_eq_false fun e => h2 (by rw [hgi.1 e y (List.mem_of_getElem? hy)]; rfl)
      refine S.riClose b m cs us rs hri ?_
      refine S.seq fun K9 hK9 => ?_
      refine S.region rfl ?_
      refine S.op (S.q (q_assign rfl) rfl rfl ?_)
      first | with_reducible refine S.nilK ?_ | refine S.nil ?_
      refine hK9 _ _ ?_
      refine S.ret ?_
      with_reducible repeat (first | refine S.then_n ?_ | refine S.then_x ?_ | refine S.then_r ?_ | refine S.inBlock_n ?_ | refine S.inBlock_r ?_ | refine S.inBlock_x rfl ?_ | refine S.noGoto_r ?_ | refine S.noGoto_n ?_ | refine S.noGoto_x ?_)
      exact S.fin (rs := [_]) (vs := [_]) Tryd.results50 (⟨rfl, trivial⟩)  (⟨by rw [hno]; rfl, rfl⟩) Sub.ent
    · have hfree2 : ∀ k ∈ ns.take (i + 1), atJ m.js r k = 0 := fun k hk => by
        rw [List.take_add_one, hy, List.mem_append] at hk
        rcases hk with hk | hk
        · exact hfree k hk
        · have hk : k = y := by simpa using hk
          subst hk
          omega
      refine S.skip ?_
      with_reducible repeat (first | refine S.then_n ?_ | refine S.then_x ?_ | refine S.then_r ?_ | refine S.inBlock_n ?_ | refine S.inBlock_r ?_ | refine S.inBlock_x rfl ?_ | refine S.noGoto_r ?_ | refine S.noGoto_n ?_ | refine S.noGoto_x ?_)
      with_reducible repeat (first | refine S.then_n ?_ | refine S.then_x ?_ | refine S.then_r ?_ | refine S.inBlock_n ?_ | refine S.inBlock_r ?_ | refine S.inBlock_x rfl ?_ | refine S.noGoto_r ?_ | refine S.noGoto_n ?_ | refine S.noGoto_x ?_)
      refine hK6 _ _ ?_
      refine S.region rfl ?_
      refine S.op (S.q (q_add rfl rfl (inI64 (by omega) (by omega))) rfl rfl ?_)
      refine S.op (S.q (q_move rfl) rfl rfl ?_)
      first | with_reducible refine S.nilK ?_ | refine S.nil ?_
      with_reducible repeat (first | refine S.then_n ?_ | refine S.then_x ?_ | refine S.then_r ?_ | refine S.inBlock_n ?_ | refine S.inBlock_r ?_ | refine S.inBlock_x rfl ?_ | refine S.noGoto_r ?_ | refine S.noGoto_n ?_ | refine S.noGoto_x ?_)
      exact S.next (q - 1) (⟨i + 1, by omega, by omega, hfree2, rfl, rfl⟩) (by omega) (by repeat (first | exact trivial | refine ⟨rfl, ?_⟩)) Sub.ent
  · rw [show i = ns.length by omega, List.take_length] at hfree
    have hyes : decide (tk m.js r &&& ofL ns = 0#16) = true := decide_eq_true (hgi.2 hfree)
    refine S.riClose b m cs us rs hri ?_
    refine S.exit ?_
    with_reducible repeat (first | refine S.then_n ?_ | refine S.then_x ?_ | refine S.then_r ?_ | refine S.inBlock_n ?_ | refine S.inBlock_r ?_ | refine S.inBlock_x rfl ?_ | refine S.noGoto_r ?_ | refine S.noGoto_n ?_ | refine S.noGoto_x ?_)
    with_reducible refine S.inBlock_s ?_
    with_reducible repeat (first | refine S.then_n ?_ | refine S.then_x ?_ | refine S.then_r ?_ | refine S.inBlock_n ?_ | refine S.inBlock_r ?_ | refine S.inBlock_x rfl ?_ | refine S.noGoto_r ?_ | refine S.noGoto_n ?_ | refine S.noGoto_x ?_)
    refine hK2 _ _ ?_
    refine S.seq fun K10 hK10 => ?_
    refine S.region rfl ?_
    refine S.op (S.q (q_assign rfl) rfl rfl ?_)
    first | with_reducible refine S.nilK ?_ | refine S.nil ?_
    refine hK10 _ _ ?_
    refine S.ret ?_
    with_reducible repeat (first | refine S.then_n ?_ | refine S.then_x ?_ | refine S.then_r ?_ | refine S.inBlock_n ?_ | refine S.inBlock_r ?_ | refine S.inBlock_x rfl ?_ | refine S.noGoto_r ?_ | refine S.noGoto_n ?_ | refine S.noGoto_x ?_)
    exact S.fin (rs := [_]) (vs := [_]) Tryd.results50 (⟨rfl, trivial⟩)  (⟨by rw [hyes]; rfl, rfl⟩) Sub.ent
set_option maxHeartbeats 1000000 in
theorem rMove_S (b : Nat) (m : Mx) (x : Jb) (t : Nat) (hx : x ∈ m.js) (ht : t < m.R) (hne : t ≠ x.row) (hd : tk m.js t &&& x.ns = 0#16) : Spec Tryd.prog 51 [.pointer (some ⟨b, 0, none⟩), .int .u32 (x.id : Int), .int .i64 (t : Int)] [RI b m] fun Γ v Θ => v = mvV (x.id, (x.row : Int), (t : Int)) ∧ Θ = RI b { m with js := reRow m.js x.id t } :: Γ := by
  refine Spec.riOk fun hm => ?_
  refine Spec.of_body Tryd.func51 rfl Tryd.ntmps51 rfl ?_
  intro w0 Γ
  show S _ w0 [(0, .pointer (some ⟨b, 0, none⟩)), (1, .int .u32 (x.id : Int)), (2, .int .i64 (t : Int))] (RI b m :: Γ) _
  have hR8 := hm.R8
  have hN16 := hm.N16
  have hN1 := hm.N1
  have hxr := hm.row x hx
  have hof := ofR_some (look_mem hm.srt hx)
  have hl16 := lst_len x.ns
  have hl1 : 0 < (lst x.ns).length := List.length_pos_iff.2 fun e => hm.some x hx (lst_nil.1 e)
  have hdel : tk (delJ x.id m.js) t = tk m.js t := by rw [tk_delJ hm hx, if_neg (fun h => hne h.symm)]
  have hok' : MxOk { m with js := reRow m.js x.id t } := hm.ofReRow hx ht (by rw [hdel]; exact hd)
  have hadd := add_del hm hx t
  have hokd := hm.del x.id
  have hrn : ∀ o, rowN ({ m with js := reRow m.js x.id t } : Mx) o = if o = t then setAll (rowN (m.del x.id) o) (lst x.ns) x.id else rowN (m.del x.id) o := fun o => by
    rw [← hadd]
    exact rowN_add hokd (x := ⟨x.id, t, x.ns⟩) (by rw [hadd]; exact hok') o
  refine S.seq fun K1 hK1 => ?_
  refine S.region rfl ?_
  refine S.op (S.alloc Tryd.z113 rfl ?_)
  intro b6
  first | with_reducible refine S.nilK ?_ | refine S.nil ?_
  refine hK1 _ _ ?_
  refine S.seq fun K2 hK2 => ?_
  refine S.region rfl ?_
  refine S.op (S.q (q_move rfl) rfl rfl ?_)
  refine S.op (S.q (q_move rfl) rfl rfl ?_)
  refine S.op (S.call Tryd.en46 (vs := [_, _]) ⟨rfl, rfl, trivial⟩ (rOf_S b m x.id) rfl ?_)
  rintro v Θ ⟨sv, rfl, hsv, rfl⟩
  rw [hof] at hsv ⊢
  simp only at hsv ⊢
  refine S.op (S.q (q_move rfl) rfl rfl ?_)
  refine S.op (S.q (q_extract rfl rfl) rfl rfl ?_)
  refine S.op (S.q (q_extract rfl rfl) rfl rfl ?_)
  refine S.op (S.q (q_extract rfl rfl) rfl rfl ?_)
  refine S.op (S.q (q_assign rfl) rfl rfl ?_)
  refine S.op (S.q (q_assign rfl) rfl rfl ?_)
  refine S.op (S.q (q_assign rfl) rfl rfl ?_)
  first | with_reducible refine S.nilK ?_ | refine S.nil ?_
  refine hK2 _ _ ?_
  refine S.seq fun K3 hK3 => ?_
  refine S.seq fun K4 hK4 => ?_
  refine S.region rfl ?_
  refine S.ownSome sv (by omega) fun sb so hsa _ _ _ => ?_
  refine S.riOpen b m fun cs us rs hri => ?_
  have hcn := hri.cn
  refine S.ownSome cs (by omega) fun cb co hca _ _ _ => ?_
  obtain ⟨pf, hpf, hpfd, hpfn⟩ := hri.at_ hxr
  obtain ⟨pt, hpt, hptd, hptn⟩ := hri.at_ ht
  refine S.rSome (RdS.alls (F := rrB) hpf RdS.own) (by omega) fun fb fo hfa => ?_
  refine S.rSome (RdS.alls (F := rrB) hpt RdS.own) (by omega) fun tb tof hta => ?_
  refine S.conv (alls rs rrB) (Ent.two2 rrB (fun h => hne h.symm) hpf hpt _) ?_
  show S _ w0 _ (own pf.1 68 1 (idsV pf.2) :: own pt.1 68 1 (idsV pt.2) :: but2 rs (min x.row t) (max x.row t) rrB :: _) _
  refine S.op (S.q (q_move rfl) rfl rfl ?_)
  refine S.op (S.q (q_len Tryd.underlying69 rfl) rfl rfl ?_)
  refine S.op (S.q (q_move rfl) rfl rfl ?_)
  first | with_reducible refine S.nilK ?_ | refine S.nil ?_
  refine hK4 _ _ ?_
  refine S.block ?_
  refine S.loop (fun q ρ' Γ' => ∃ (i : Nat) (d e : List Nat), q = (lst x.ns).length - i ∧ i ≤ (lst x.ns).length ∧ d = setAll pf.2 ((lst x.ns).take i) 0 ∧ e = setAll pt.2 ((lst x.ns).take i) x.id ∧ ρ' = [(0, .pointer (some ⟨b, 0, none⟩)), (1, .int .u32 (x.id : Int)), (2, .int .i64 (t : Int)), (6, .pointer (some ⟨b6, 0, none⟩)), (7, .int .i64 (x.row : Int)), (19, sv.v), (20, .int .i64 sv.n), (21, .int .i64 (i : Int))] ∧   Γ' = own pf.1 68 1 (idsV d) :: own pt.1 68 1 (idsV e) :: but2 rs (min x.row t) (max x.row t) rrB :: blk b6 113 #[.int .u32 0, .int .i64 0, .int .i64 0] :: blk b 55 #[cs.v, us.v] :: own cs 31 1 (rs.map rrV) :: own us 4 1 (upC m) :: own sv 3 1 (nds (lst x.ns)) :: Γ) (m := _) (ρ0 := _) (Γ0 := _) (⟨0, pf.2, pt.2, rfl, by omega, rfl, rfl, rfl, rfl⟩) (by repeat (first | exact trivial | refine ⟨rfl, ?_⟩)) Sub.ent ?_
  rintro q ρ' Γ' ⟨i, d, e, hq, hi, hd1, he1, rfl, rfl⟩
  have hdl : d.length = m.N := by rw [hd1, setAll_len, hpfd, rowN_len]
  have hel : e.length = m.N := by rw [he1, setAll_len, hptd, rowN_len]
  refine S.seq fun K5 hK5 => ?_
  refine S.region rfl ?_
  refine S.op (S.q (q_lt rfl rfl) rfl rfl ?_)
  first | with_reducible refine S.nilK ?_ | refine S.nil ?_
  refine hK5 _ _ ?_
  refine S.seq fun K6 hK6 => ?_
  refine S.condD rfl (fun h1 => ?_) (fun h1 => ?_)
  · obtain ⟨y, hy⟩ := getE (show i < (lst x.ns).length by omega)
    have hyN : y < m.N := hm.ns x hx y (mem_lst.1 (List.mem_of_getElem? hy))
    have hd2 : d.set y 0 = setAll pf.2 ((lst x.ns).take (i + 1)) 0 := by rw [hd1, ← setAll_snoc, List.take_add_one, hy]; rfl
    have he2 : e.set y x.id = setAll pt.2 ((lst x.ns).take (i + 1)) x.id := by rw [he1, ← setAll_snoc, List.take_add_one, hy]; rfl
    refine S.skip ?_
    with_reducible repeat (first | refine S.then_n ?_ | refine S.then_x ?_ | refine S.then_r ?_ | refine S.inBlock_n ?_ | refine S.inBlock_r ?_ | refine S.inBlock_x rfl ?_ | refine S.noGoto_r ?_ | refine S.noGoto_n ?_ | refine S.noGoto_x ?_)
    refine hK6 _ _ ?_
    refine S.seq fun K7 hK7 => ?_
    refine S.block ?_
    refine S.seq fun K8 hK8 => ?_
    refine S.region rfl ?_
    refine S.op (S.q (q_indexO (i) Tryd.el69 rfl hsa rfl rfl (by omega)) rfl rfl ?_)
    refine S.op (S.q (q_loadOw (sv) (i) Tryd.at3 rfl hsa (by first | rfl | exact Nat.add_assoc _ _ _ | omega) (by rw [List.getElem?_map, hy]; rfl)) rfl rfl ?_)
    refine S.op (S.q (q_assign rfl) rfl rfl ?_)
    first | with_reducible refine S.nilK ?_ | refine S.nil ?_
    refine hK8 _ _ ?_
    refine S.seq fun K9 hK9 => ?_
    refine S.region rfl ?_
    refine S.op (S.q (q_move rfl) rfl rfl ?_)
    refine S.op (S.q (q_nilCheck rfl) rfl rfl ?_)
    refine S.op (S.q (q_field Tryd.fo55_0 rfl) rfl rfl ?_)
    refine S.op (S.q (q_load Tryd.at52 rfl rfl) rfl rfl ?_)
    refine S.op (S.q (q_move rfl) rfl rfl ?_)
    refine S.op (S.q (q_indexO (x.row) Tryd.el52 rfl hca rfl rfl (by omega)) rfl rfl ?_)
    refine S.op (S.q (q_loadOw (cs) (x.row) Tryd.at31 rfl hca (by first | rfl | exact Nat.add_assoc _ _ _ | omega) (by rw [List.getElem?_map, hpf]; rfl)) rfl rfl ?_)
    refine S.op (S.q (q_move rfl) rfl rfl ?_)
    refine S.op (S.q (q_indexO (y) Tryd.el31 rfl hfa rfl rfl (by omega)) rfl rfl ?_)
    refine S.op (S.storeOw (pf.1) (y) Tryd.at68 rfl rfl rfl hfa (by first | rfl | exact Nat.add_assoc _ _ _ | omega) (by rw [List.length_map]; omega) (idsV_set d y 0) ?_)
    first | with_reducible refine S.nilK ?_ | refine S.nil ?_
    refine hK9 _ _ ?_
    refine S.region rfl ?_
    refine S.op (S.q (q_move rfl) rfl rfl ?_)
    refine S.op (S.q (q_nilCheck rfl) rfl rfl ?_)
    refine S.op (S.q (q_field Tryd.fo55_0 rfl) rfl rfl ?_)
    refine S.op (S.q (q_load Tryd.at52 rfl rfl) rfl rfl ?_)
    refine S.op (S.q (q_move rfl) rfl rfl ?_)
    refine S.op (S.q (q_indexO (t) Tryd.el52 rfl hca rfl rfl (by omega)) rfl rfl ?_)
    refine S.op (S.q (q_loadOw (cs) (t) Tryd.at31 rfl hca (by first | rfl | exact Nat.add_assoc _ _ _ | omega) (by rw [List.getElem?_map, hpt]; rfl)) rfl rfl ?_)
    refine S.op (S.q (q_move rfl) rfl rfl ?_)
    refine S.op (S.q (q_move rfl) rfl rfl ?_)
    refine S.op (S.q (q_indexO (y) Tryd.el31 rfl hta rfl rfl (by omega)) rfl rfl ?_)
    refine S.op (S.storeOw (pt.1) (y) Tryd.at68 rfl rfl rfl hta (by first | rfl | exact Nat.add_assoc _ _ _ | omega) (by rw [List.length_map]; omega) (idsV_set e y x.id) ?_)
    first | with_reducible refine S.nilK ?_ | refine S.nil ?_
    with_reducible repeat (first | refine S.then_n ?_ | refine S.then_x ?_ | refine S.then_r ?_ | refine S.inBlock_n ?_ | refine S.inBlock_r ?_ | refine S.inBlock_x rfl ?_ | refine S.noGoto_r ?_ | refine S.noGoto_n ?_ | refine S.noGoto_x ?_)
    refine hK7 _ _ ?_
    refine S.region rfl ?_
    refine S.op (S.q (q_add rfl rfl (inI64 (by omega) (by omega))) rfl rfl ?_)
    refine S.op (S.q (q_move rfl) rfl rfl ?_)
    first | with_reducible refine S.nilK ?_ | refine S.nil ?_
    with_reducible repeat (first | refine S.then_n ?_ | refine S.then_x ?_ | refine S.then_r ?_ | refine S.inBlock_n ?_ | refine S.inBlock_r ?_ | refine S.inBlock_x rfl ?_ | refine S.noGoto_r ?_ | refine S.noGoto_n ?_ | refine S.noGoto_x ?_)
    exact S.next (q - 1) (⟨i + 1, d.set y 0, e.set y x.id, by omega, by omega, hd2, he2, rfl, rfl⟩) (by omega) (by repeat (first | exact trivial | refine ⟨rfl, ?_⟩)) Sub.ent
  · rw [show i = (lst x.ns).length by omega, List.take_length] at hd1 he1
    have hri1 : RiOk (m.del x.id) cs us (rs.set x.row (pf.1, d)) := hri.set hokd rfl rfl hpf (by rw [hd1, hpfd, rowN_del hm hx, if_pos rfl]) (fun o ho => by rw [rowN_del hm hx, if_neg ho])
    have hpt2 : (rs.set x.row (pf.1, d))[t]? = some pt := by rw [List.getElem?_set_ne (fun h => hne h.symm)]; exact hpt
    have hri2 : RiOk ({ m with js := reRow m.js x.id t } : Mx) cs us ((rs.set x.row (pf.1, d)).set t (pt.1, e)) := hri1.set hok' rfl rfl hpt2 (by rw [he1, hptd, hrn, if_pos rfl, rowN_del hm hx, if_neg hne]) (fun o ho => by rw [hrn, if_neg ho])
    refine S.conv3 (own pf.1 68 1 (idsV d)) (own pt.1 68 1 (idsV e)) (but2 rs (min x.row t) (max x.row t) rrB) (Ent.two2Back rrB (x' := (pf.1, d)) (y' := (pt.1, e)) (fun h => hne h.symm) hpf hpt _) ?_
    rw [← rrV_set hpf d, ← rrV_set hpt2 e, show upC m = upC ({ m with js := reRow m.js x.id t } : Mx) from rfl]
    refine S.riClose b ({ m with js := reRow m.js x.id t } : Mx) cs us ((rs.set x.row (pf.1, d)).set t (pt.1, e)) hri2 ?_
    refine S.exit ?_
    with_reducible repeat (first | refine S.then_n ?_ | refine S.then_x ?_ | refine S.then_r ?_ | refine S.inBlock_n ?_ | refine S.inBlock_r ?_ | refine S.inBlock_x rfl ?_ | refine S.noGoto_r ?_ | refine S.noGoto_n ?_ | refine S.noGoto_x ?_)
    with_reducible refine S.inBlock_s ?_
    with_reducible repeat (first | refine S.then_n ?_ | refine S.then_x ?_ | refine S.then_r ?_ | refine S.inBlock_n ?_ | refine S.inBlock_r ?_ | refine S.inBlock_x rfl ?_ | refine S.noGoto_r ?_ | refine S.noGoto_n ?_ | refine S.noGoto_x ?_)
    refine hK3 _ _ ?_
    refine S.seq fun K10 hK10 => ?_
    refine S.region rfl ?_
    refine S.op (S.q (q_move rfl) rfl rfl ?_)
    refine S.op (S.q (q_move rfl) rfl rfl ?_)
    refine S.op (S.q (q_move rfl) rfl rfl ?_)
    refine S.op (S.q (q_build (pvs := [(_, _), (_, _), (_, _)]) [_, _, _] Tryd.z113 Tryd.p113 ⟨⟨rfl, rfl⟩, ⟨rfl, rfl⟩, ⟨rfl, rfl⟩, trivial⟩ rfl) rfl rfl ?_)
    refine S.op (S.storeS (cs' := [_, _, _]) Tryd.ag113 rfl rfl rfl rfl rfl rfl ?_)
    first | with_reducible refine S.nilK ?_ | refine S.nil ?_
    refine hK10 _ _ ?_
    refine S.ret ?_
    with_reducible repeat (first | refine S.then_n ?_ | refine S.then_x ?_ | refine S.then_r ?_ | refine S.inBlock_n ?_ | refine S.inBlock_r ?_ | refine S.inBlock_x rfl ?_ | refine S.noGoto_r ?_ | refine S.noGoto_n ?_ | refine S.noGoto_x ?_)
    exact S.fin (rs := [_]) (vs := [_]) Tryd.results51 (⟨⟨_, _, rfl, lod_agg [_, _, _] Tryd.ag113 rfl ⟨rfl, rfl, rfl, trivial⟩⟩, trivial⟩)  (⟨rfl, rfl⟩) Sub.ent
end Go.Proofs.YtegjmmocnffpiaaDoor
/- The document's shuffle: Unify, Repack. -/
namespace Go.Proofs.YtegjmmocnffpiaaDoor
open Go.RowKit
set_option maxRecDepth 20000
theorem uni_step {m : Mx} (hm : MxOk m) {i j : Nat} (hi : i < m.R) (hj : j < m.R) (hij : j ≠ i) (hz : tk m.js j &&& tk m.js i = 0#16) {k : Nat} (hk : k < (rowIds m j).length) {zs : List Mv} {m3 : Mx} (h : runUp m i (rowIds m j) k = some (zs, m3)) :
    ∃ y, y ∈ m3.js ∧ (rowIds m j)[k]? = some y.id ∧ y.row = j ∧ tk m3.js i &&& y.ns = 0#16 ∧ MxOk m3 ∧ m3.R = m.R ∧ zs.length = k ∧ runUp m i (rowIds m j) (k + 1) = some (zs ++ [(y.id, (j : Int), (i : Int))], { m3 with js := reRow m3.js y.id i }) := by
  obtain ⟨h1, h2, h3⟩ := runUp_some hm (Nat.le_of_lt hk) h
  obtain ⟨a, ha⟩ := runUp_can hm hj hi hij hz (k + 1) hk
  have hg : (rowIds m j).getD k 0 = (rowIds m j)[k] := by simp [List.getD, List.getElem?_eq_getElem hk]
  have ha2 := ha
  rw [runUp, h] at ha2
  simp only [hg] at ha2
  cases hv : moveR m3 (rowIds m j)[k] i with
  | mk o m4 =>
    rw [hv] at ha2
    cases o with
    | none => cases ha2
    | some mv =>
      simp only [Option.some.injEq] at ha2
      obtain ⟨y, y1, y2, y3, y4⟩ := moveR_some hv
      obtain ⟨hy, hyi⟩ := look_some y1
      have hm3 : m3 = { m with js := toRow m.js ((rowIds m j).take k) i } := h2
      have hR : m3.R = m.R := by rw [hm3]
      have hnd := rowIds_nodup hm hj
      have hnk : (rowIds m j)[k] ∉ (rowIds m j).take k := fun hmem => by
        obtain ⟨q, hq, e⟩ := List.getElem_of_mem hmem
        rw [List.length_take] at hq
        rw [List.getElem_take] at e
        exact List.pairwise_iff_getElem.1 hnd q k (by omega) hk (by omega) e
      have hyj : y.row = j := by
        have hym : y ∈ toRow m.js ((rowIds m j).take k) i := by rw [hm3] at hy; exact hy
        rcases mem_toRow.1 hym with ⟨x, _, x2, rfl⟩ | ⟨x1, _⟩
        · exact absurd (show (rowIds m j)[k] ∈ _ by rw [← hyi]; exact x2) hnk
        · obtain ⟨z, z1, z2, z3⟩ := (mem_rowIds hm hj).1 (List.getElem_mem hk)
          rw [← id_inj hm.srt z1 x1 (z3.trans hyi.symm)]
          exact z2
      have hcm := y2
      rw [canMove, Bool.and_eq_true, decide_eq_true_eq, Int.toNat_natCast, tk_delJ h1 hy, if_neg (by omega)] at hcm
      refine ⟨y, hy, by rw [List.getElem?_eq_getElem hk, hyi], hyj, hcm.2, h1, hR, h3, ?_⟩
      rw [ha, ← ha2, y3, y4, hyi, hyj, Int.toNat_natCast]
theorem lst_tkU {m : Mx} (hm : MxOk m) (j : Nat) : bitU (tk m.js j) m.N = lst (tk m.js j) := rise_ext (bitU_rise _ _) (lst_rise _) fun i => by
  rw [mem_bitU, mem_lst]
  refine ⟨fun h => h.2, fun h => ⟨?_, h⟩⟩
  obtain ⟨x, x1, _, x3⟩ := (tk_bit _ _ _).1 h
  exact hm.ns x x1 i x3
set_option maxHeartbeats 2000000 in
theorem rUnify_S (b : Nat) (m : Mx) : Spec Tryd.prog 16 [.pointer (some ⟨b, 0, none⟩)] [RI b m] fun Γ v Θ => ∃ (c : Nat) (sv : SV), v = .tuple #[.pointer (some ⟨c, 0, none⟩), sv.v] ∧ sv.n = (unifyR m).2.length ∧
    Θ = own sv 113 3 ((unifyR m).2.flatMap mvC) :: RI c (unifyR m).1 :: RI b m :: Γ := by
  refine Spec.riOk fun hm => ?_
  refine Spec.of_body Tryd.func16 rfl Tryd.ntmps16 rfl ?_
  intro w0 Γ
  show S _ w0 [(0, .pointer (some ⟨b, 0, none⟩))] (RI b m :: Γ) _
  have hR8 := hm.R8
  refine S.seq fun K1 hK1 => ?_
  refine S.region rfl ?_
  refine S.op (S.q (q_assign rfl) rfl rfl ?_)
  refine S.op (S.q (q_assign rfl) rfl rfl ?_)
  first | with_reducible refine S.nilK ?_ | refine S.nil ?_
  refine hK1 _ _ ?_
  refine S.seq fun K2 hK2 => ?_
  refine S.seq fun K3 hK3 => ?_
  refine S.region rfl ?_
  refine S.op (S.q (q_move rfl) rfl rfl ?_)
  refine S.op (S.q (q_eqN Tryd.underlying26 rfl rfl) rfl rfl ?_)
  first | with_reducible refine S.nilK ?_ | refine S.nil ?_
  refine hK3 _ _ ?_
  refine S.condF rfl ?_
  refine S.skip ?_
  with_reducible repeat (first | refine S.then_n ?_ | refine S.then_x ?_ | refine S.then_r ?_ | refine S.inBlock_n ?_ | refine S.inBlock_r ?_ | refine S.inBlock_x rfl ?_ | refine S.noGoto_r ?_ | refine S.noGoto_n ?_ | refine S.noGoto_x ?_)
  refine hK2 _ _ ?_
  refine S.seq fun K4 hK4 => ?_
  refine S.region rfl ?_
  refine S.op (S.q (q_move rfl) rfl rfl ?_)
  refine S.op (S.call Tryd.en26 (vs := [_]) ⟨rfl, trivial⟩ (rCopy_S b m) rfl ?_)
  rintro v Θ ⟨c, rfl, rfl⟩
  refine S.op (S.q (q_assign rfl) rfl rfl ?_)
  first | with_reducible refine S.nilK ?_ | refine S.nil ?_
  refine hK4 _ _ ?_
  refine S.seq fun K5 hK5 => ?_
  refine S.region rfl ?_
  refine S.op (S.q (q_assign rfl) rfl rfl ?_)
  first | with_reducible refine S.nilK ?_ | refine S.nil ?_
  refine hK5 _ _ ?_
  refine S.seq fun K6 hK6 => ?_
  refine S.seq fun K7 hK7 => ?_
  refine S.region rfl ?_
  refine S.riOpen c m fun cs us rs hri => ?_
  have hcn := hri.cn
  refine S.op (S.q (q_move rfl) rfl rfl ?_)
  refine S.op (S.q (q_nilCheck rfl) rfl rfl ?_)
  refine S.op (S.q (q_field Tryd.fo55_0 rfl) rfl rfl ?_)
  refine S.op (S.q (q_load Tryd.at52 rfl rfl) rfl rfl ?_)
  refine S.op (S.q (q_len Tryd.underlying52 rfl) rfl rfl ?_)
  refine S.riClose c m cs us rs hri ?_
  refine S.ent (Ent.ownNil 113 3) ?_
  show S _ w0 _ (own SV.nil 113 3 (([] : List Mv).flatMap mvC) :: _) _
  refine S.op (S.q (q_move rfl) rfl rfl ?_)
  first | with_reducible refine S.nilK ?_ | refine S.nil ?_
  refine hK7 _ _ ?_
  refine S.block ?_
  refine S.loop (fun q ρ' Γ' => ∃ (i : Nat) (m1 : Mx) (sv : SV) (xs : List Mv), q = m.R - i ∧ i ≤ m.R ∧ uniUp m i = (m1, xs) ∧ MxOk m1 ∧ m1.R = m.R ∧ sv.n = xs.length ∧ xs.length ≤ 128 * i ∧ ρ' = [(4, .pointer (some ⟨c, 0, none⟩)), (5, sv.v), (22, .int .i64 (cs.n : Int)), (23, .int .i64 (i : Int))] ∧   Γ' = own sv 113 3 (xs.flatMap mvC) :: RI c m1 :: RI b m :: Γ) (m := _) (ρ0 := _) (Γ0 := _) (⟨0, m, SV.nil, [], rfl, by omega, rfl, hm, rfl, rfl, by simp, rfl, rfl⟩) (by repeat (first | exact trivial | refine ⟨rfl, ?_⟩)) Sub.ent ?_
  rintro q ρ' Γ' ⟨i, m1, sv, xs, hq, hi, hun, hm1, hR1, hsv, hxl, rfl, rfl⟩
  refine S.seq fun K8 hK8 => ?_
  refine S.region rfl ?_
  refine S.op (S.q (q_lt rfl rfl) rfl rfl ?_)
  first | with_reducible refine S.nilK ?_ | refine S.nil ?_
  refine hK8 _ _ ?_
  refine S.seq fun K9 hK9 => ?_
  refine S.condD rfl (fun h2 => ?_) (fun h2 => ?_)
  · refine S.skip ?_
    with_reducible repeat (first | refine S.then_n ?_ | refine S.then_x ?_ | refine S.then_r ?_ | refine S.inBlock_n ?_ | refine S.inBlock_r ?_ | refine S.inBlock_x rfl ?_ | refine S.noGoto_r ?_ | refine S.noGoto_n ?_ | refine S.noGoto_x ?_)
    refine hK9 _ _ ?_
    refine S.seq fun K10 hK10 => ?_
    refine S.block ?_
    refine S.seq fun K11 hK11 => ?_
    refine S.region rfl ?_
    refine S.op (S.q (q_move rfl) rfl rfl ?_)
    refine S.op (S.q (q_assign rfl) rfl rfl ?_)
    first | with_reducible refine S.nilK ?_ | refine S.nil ?_
    refine hK11 _ _ ?_
    refine S.seq fun K12 hK12 => ?_
    refine S.region rfl ?_
    refine S.op (S.q (q_move rfl) rfl rfl ?_)
    refine S.op (S.q (q_add rfl rfl (inI64 (by omega) (by omega))) rfl rfl ?_)
    refine S.op (S.q (q_assign rfl) rfl rfl ?_)
    first | with_reducible refine S.nilK ?_ | refine S.nil ?_
    refine hK12 _ _ ?_
    refine S.block ?_
    refine S.loop (fun q2 ρ' Γ' => ∃ (k : Nat) (m2 : Mx) (s2 : SV) (ys : List Mv) (zj : Int), zj = i + 1 + k ∧ q2 = m.R - (i + 1) - k ∧ k ≤ m.R - (i + 1) ∧ uniIn i (m1, xs) k = (m2, ys) ∧ MxOk m2 ∧ m2.R = m.R ∧ s2.n = ys.length ∧ ys.length ≤ 128 * i + 16 * k ∧ ρ' = [(4, .pointer (some ⟨c, 0, none⟩)), (5, s2.v), (6, .int .i64 (i : Int)), (7, .int .i64 zj), (22, .int .i64 (cs.n : Int)), (23, .int .i64 (i : Int))] ∧   Γ' = own s2 113 3 (ys.flatMap mvC) :: RI c m2 :: RI b m :: Γ) (m := _) (ρ0 := _) (Γ0 := _) (⟨0, m1, sv, xs, (i : Int) + 1, by omega, rfl, by omega, rfl, hm1, hR1, hsv, by omega, rfl, rfl⟩) (by repeat (first | exact trivial | refine ⟨rfl, ?_⟩)) Sub.ent ?_
    rintro q2 ρ' Γ' ⟨k, m2, s2, ys, zj, hzj, hq2, hk, hui, hm2, hR2, hs2, hyl, rfl, rfl⟩
    have hN16 := hm2.N16
    have hN1 := hm2.N1
    obtain ⟨j, hj⟩ : ∃ j, j = i + 1 + k := ⟨_, rfl⟩
    obtain rfl : zj = (j : Int) := by omega
    have hnext : uniIn i (m1, xs) (k + 1) = ((allR m2 j i).2, ys ++ (allR m2 j i).1) := by
      show allStep (uniIn i (m1, xs) k) i (i + 1 + k) = _
      rw [hui, ← hj]
      rfl
    have hak := allR_ok hm2 (f := j) (t := i)
    have hal := allR_len hm2 j i
    refine S.riOpen c m2 fun c2 u2 r2 hri2 => ?_
    have hcn2 := hri2.cn
    refine S.seq fun K13 hK13 => ?_
    refine S.seq fun K14 hK14 => ?_
    refine S.region rfl ?_
    refine S.op (S.q (q_move rfl) rfl rfl ?_)
    refine S.op (S.q (q_move rfl) rfl rfl ?_)
    refine S.op (S.q (q_nilCheck rfl) rfl rfl ?_)
    refine S.op (S.q (q_field Tryd.fo55_0 rfl) rfl rfl ?_)
    refine S.op (S.q (q_load Tryd.at52 rfl rfl) rfl rfl ?_)
    refine S.op (S.q (q_len Tryd.underlying52 rfl) rfl rfl ?_)
    refine S.op (S.q (q_lt rfl rfl) rfl rfl ?_)
    first | with_reducible refine S.nilK ?_ | refine S.nil ?_
    refine hK14 _ _ ?_
    refine S.condD rfl (fun h3 => ?_) (fun h3 => ?_)
    · have hjR : j < m2.R := by omega
      refine S.ownSome c2 (by omega) fun cb co hca _ _ _ => ?_
      obtain ⟨p, hp, hpd, hpn⟩ := hri2.at_ hjR
      have hRp : RdS (alls r2 rrB) p.1 p.1.n 1 (idsV p.2) := RdS.alls hp RdS.own
      refine S.rSome hRp (by omega) fun pb po hpa => ?_
      refine S.ent (Ent.ownNil 3 1) ?_
      show S _ w0 _ (own SV.nil 3 1 (nds []) :: _) _
      refine S.skip ?_
      with_reducible repeat (first | refine S.then_n ?_ | refine S.then_x ?_ | refine S.then_r ?_ | refine S.inBlock_n ?_ | refine S.inBlock_r ?_ | refine S.inBlock_x rfl ?_ | refine S.noGoto_r ?_ | refine S.noGoto_n ?_ | refine S.noGoto_x ?_)
      refine hK13 _ _ ?_
      refine S.seq fun K15 hK15 => ?_
      refine S.block ?_
      refine S.seq fun K16 hK16 => ?_
      refine S.region rfl ?_
      refine S.op (S.q (q_assign rfl) rfl rfl ?_)
      first | with_reducible refine S.nilK ?_ | refine S.nil ?_
      refine hK16 _ _ ?_
      refine S.seq fun K17 hK17 => ?_
      refine S.seq fun K18 hK18 => ?_
      refine S.region rfl ?_
      refine S.op (S.q (q_move rfl) rfl rfl ?_)
      refine S.op (S.q (q_nilCheck rfl) rfl rfl ?_)
      refine S.op (S.q (q_field Tryd.fo55_0 rfl) rfl rfl ?_)
      refine S.op (S.q (q_load Tryd.at52 rfl rfl) rfl rfl ?_)
      refine S.op (S.q (q_move rfl) rfl rfl ?_)
      refine S.op (S.q (q_indexO (j) Tryd.el52 rfl hca rfl rfl (by omega)) rfl rfl ?_)
      refine S.op (S.q (q_loadOw (c2) (j) Tryd.at31 rfl hca (by first | rfl | exact Nat.add_assoc _ _ _ | omega) (by rw [List.getElem?_map, hp]; rfl)) rfl rfl ?_)
      refine S.op (S.q (q_len Tryd.underlying31 rfl) rfl rfl ?_)
      refine S.op (S.q (q_move rfl) rfl rfl ?_)
      first | with_reducible refine S.nilK ?_ | refine S.nil ?_
      refine hK18 _ _ ?_
      refine S.block ?_
      refine S.loop (fun q3 ρ' Γ' => ∃ (n : Nat) (nv1 : SV) (nl : List Nat), q3 = m2.N - n ∧ n ≤ m2.N ∧ nl = bitU (tk m2.js j) n ∧ nv1.n = nl.length ∧ ρ' = [(4, .pointer (some ⟨c, 0, none⟩)), (5, s2.v), (6, .int .i64 (i : Int)), (7, .int .i64 (j : Int)), (8, nv1.v), (22, .int .i64 (cs.n : Int)), (23, .int .i64 (i : Int)), (43, p.1.v), (44, .int .i64 p.1.n), (45, .int .i64 (n : Int))] ∧   Γ' = own nv1 3 1 (nds nl) :: own s2 113 3 (ys.flatMap mvC) :: riX c m2 c2 u2 r2 (RI b m :: Γ)) (m := _) (ρ0 := _) (Γ0 := _) (⟨0, SV.nil, [], rfl, by omega, rfl, rfl, rfl, rfl⟩) (by repeat (first | exact trivial | refine ⟨rfl, ?_⟩)) Sub.ent ?_
      rintro q3 ρ' Γ' ⟨n, nv1, nl, hq3, hn, hnl, hnv, rfl, rfl⟩
      have hlen := bitU_len (tk m2.js j) n
      rw [← hnl] at hlen
      refine S.seq fun K19 hK19 => ?_
      refine S.region rfl ?_
      refine S.op (S.q (q_lt rfl rfl) rfl rfl ?_)
      first | with_reducible refine S.nilK ?_ | refine S.nil ?_
      refine hK19 _ _ ?_
      refine S.seq fun K20 hK20 => ?_
      refine S.condD rfl (fun h4 => ?_) (fun h4 => ?_)
      · have hxa := rowN_get (m := m2) (i := n) (by omega) j
        rw [← hpd] at hxa
        have hbz := busy_iff hm2 (r := j) (i := n)
        refine S.skip ?_
        with_reducible repeat (first | refine S.then_n ?_ | refine S.then_x ?_ | refine S.then_r ?_ | refine S.inBlock_n ?_ | refine S.inBlock_r ?_ | refine S.inBlock_x rfl ?_ | refine S.noGoto_r ?_ | refine S.noGoto_n ?_ | refine S.noGoto_x ?_)
        refine hK20 _ _ ?_
        refine S.seq fun K21 hK21 => ?_
        refine S.block ?_
        refine S.seq fun K22 hK22 => ?_
        refine S.region rfl ?_
        refine S.op (S.q (q_move rfl) rfl rfl ?_)
        refine S.op (S.q (q_indexO (n) Tryd.el31 rfl hpa rfl rfl (by omega)) rfl rfl ?_)
        refine S.op (S.q (q_loadR hRp n Tryd.at68 rfl hpa (by omega) (by omega) (idsV_get hxa)) rfl rfl ?_)
        refine S.op (S.q (q_assign rfl) rfl rfl ?_)
        refine S.op (S.q (q_assign rfl) rfl rfl ?_)
        first | with_reducible refine S.nilK ?_ | refine S.nil ?_
        refine hK22 _ _ ?_
        refine S.seq fun K23 hK23 => ?_
        refine S.region rfl ?_
        refine S.op (S.q (q_move rfl) rfl rfl ?_)
        refine S.op (S.q (q_ne rfl rfl) rfl rfl ?_)
        first | with_reducible refine S.nilK ?_ | refine S.nil ?_
        refine hK23 _ _ ?_
        refine S.condD rfl (fun h5 => ?_) (fun h5 => ?_)
        · have hb : (tk m2.js j).getLsbD n = true := by
            cases hb : (tk m2.js j).getLsbD n with
            | true => rfl
            | false => exact absurd (by rw [hbz.2 hb]; rfl) h5
          have hs4 : nl ++ [n] = bitU (tk m2.js j) (n + 1) := by rw [bitU, if_pos hb, hnl]
          have hl4 : (nl ++ [n]).length = nl.length + 1 := by simp
          have hd4 : nds nl ++ [.int .i64 (n : Int)] = nds (nl ++ [n]) := by simp
          refine S.region rfl ?_
          refine S.op (S.q (q_move rfl) rfl rfl ?_)
          refine S.op (S.q (q_move rfl) rfl rfl ?_)
          refine S.op (S.buildSlice (pvs := [(_, _)]) [_] Tryd.underlying69 Tryd.inf3 rfl rfl ⟨⟨rfl, rfl⟩, trivial⟩ rfl rfl ?_)
          intro b54
          refine S.op (S.appendOw (s := nv1) (1) ([.int .i64 (n : Int)]) Tryd.underlying69 Tryd.inf3 rfl rfl rfl (blk_slAt (b := b54) rfl (by unfold maxLen; omega)) (by first | rfl | exact allOne_bcells _) (⟨by omega, by omega⟩) rfl ?_)
          intro nv2 hnv2
          refine S.op (S.q (q_assign rfl) rfl rfl ?_)
          first | with_reducible refine S.nilK ?_ | refine S.nil ?_
          with_reducible repeat (first | refine S.then_n ?_ | refine S.then_x ?_ | refine S.then_r ?_ | refine S.inBlock_n ?_ | refine S.inBlock_r ?_ | refine S.inBlock_x rfl ?_ | refine S.noGoto_r ?_ | refine S.noGoto_n ?_ | refine S.noGoto_x ?_)
          refine hK21 _ _ ?_
          refine S.region rfl ?_
          refine S.op (S.q (q_add rfl rfl (inI64 (by omega) (by omega))) rfl rfl ?_)
          refine S.op (S.q (q_move rfl) rfl rfl ?_)
          first | with_reducible refine S.nilK ?_ | refine S.nil ?_
          with_reducible repeat (first | refine S.then_n ?_ | refine S.then_x ?_ | refine S.then_r ?_ | refine S.inBlock_n ?_ | refine S.inBlock_r ?_ | refine S.inBlock_x rfl ?_ | refine S.noGoto_r ?_ | refine S.noGoto_n ?_ | refine S.noGoto_x ?_)
          first | (rw [hd4]; exact S.next (q3 - 1) ⟨n + 1, nv2, nl ++ [n], by omega, by omega, hs4, by omega, rfl, rfl⟩ (by omega) (by repeat (first | exact trivial | refine ⟨rfl, ?_⟩)) Sub.ent) | exact S.next (q3 - 1) ⟨n + 1, nv1, nl, by omega, by omega, hs4, hnv, rfl, rfl⟩ (by omega) (by repeat (first | exact trivial | refine ⟨rfl, ?_⟩)) Sub.ent
        · have hb : (tk m2.js j).getLsbD n = false := hbz.1 (by omega)
          have hs4 : nl = bitU (tk m2.js j) (n + 1) := by rw [bitU, if_neg (by rw [hb]; decide), hnl]
          refine S.skip ?_
          with_reducible repeat (first | refine S.then_n ?_ | refine S.then_x ?_ | refine S.then_r ?_ | refine S.inBlock_n ?_ | refine S.inBlock_r ?_ | refine S.inBlock_x rfl ?_ | refine S.noGoto_r ?_ | refine S.noGoto_n ?_ | refine S.noGoto_x ?_)
          with_reducible repeat (first | refine S.then_n ?_ | refine S.then_x ?_ | refine S.then_r ?_ | refine S.inBlock_n ?_ | refine S.inBlock_r ?_ | refine S.inBlock_x rfl ?_ | refine S.noGoto_r ?_ | refine S.noGoto_n ?_ | refine S.noGoto_x ?_)
          refine hK21 _ _ ?_
          refine S.region rfl ?_
          refine S.op (S.q (q_add rfl rfl (inI64 (by omega) (by omega))) rfl rfl ?_)
          refine S.op (S.q (q_move rfl) rfl rfl ?_)
          first | with_reducible refine S.nilK ?_ | refine S.nil ?_
          with_reducible repeat (first | refine S.then_n ?_ | refine S.then_x ?_ | refine S.then_r ?_ | refine S.inBlock_n ?_ | refine S.inBlock_r ?_ | refine S.inBlock_x rfl ?_ | refine S.noGoto_r ?_ | refine S.noGoto_n ?_ | refine S.noGoto_x ?_)
          first | (rw [hd4]; exact S.next (q3 - 1) ⟨n + 1, nv2, nl ++ [n], by omega, by omega, hs4, by omega, rfl, rfl⟩ (by omega) (by repeat (first | exact trivial | refine ⟨rfl, ?_⟩)) Sub.ent) | exact S.next (q3 - 1) ⟨n + 1, nv1, nl, by omega, by omega, hs4, hnv, rfl, rfl⟩ (by omega) (by repeat (first | exact trivial | refine ⟨rfl, ?_⟩)) Sub.ent
      · rw [show n = m2.N by omega, lst_tkU hm2] at hnl
        refine S.riClose c m2 c2 u2 r2 hri2 ?_
        have hnsN : ∀ z ∈ nl, z < m2.N := fun z hz => by
          rw [hnl] at hz
          obtain ⟨x, x1, _, x3⟩ := (tk_bit _ _ _).1 (mem_lst.1 hz)
          exact hm2.ns x x1 z x3
        have hofl : ofL nl = tk m2.js j := by rw [hnl, ofL_lst]
        refine S.exit ?_
        with_reducible repeat (first | refine S.then_n ?_ | refine S.then_x ?_ | refine S.then_r ?_ | refine S.inBlock_n ?_ | refine S.inBlock_r ?_ | refine S.inBlock_x rfl ?_ | refine S.noGoto_r ?_ | refine S.noGoto_n ?_ | refine S.noGoto_x ?_)
        with_reducible refine S.inBlock_s ?_
        with_reducible repeat (first | refine S.then_n ?_ | refine S.then_x ?_ | refine S.then_r ?_ | refine S.inBlock_n ?_ | refine S.inBlock_r ?_ | refine S.inBlock_x rfl ?_ | refine S.noGoto_r ?_ | refine S.noGoto_n ?_ | refine S.noGoto_x ?_)
        refine hK17 _ _ ?_
        refine S.seq fun K24 hK24 => ?_
        refine S.seq fun K25 hK25 => ?_
        refine S.region rfl ?_
        refine S.op (S.q (q_move rfl) rfl rfl ?_)
        refine S.op (S.q (q_move rfl) rfl rfl ?_)
        refine S.op (S.q (q_move rfl) rfl rfl ?_)
        refine S.op (S.call Tryd.en50 (vs := [_, _, _]) ⟨rfl, rfl, rfl, trivial⟩ (rGoes_S c m2 i (own nv1 3 1 (nds nl)) nv1 nl hnv (rdNds nv1 3 nl) (by omega) hnsN) rfl ?_)
        rintro v Θ ⟨rfl, rfl⟩
        rw [hofl]
        refine S.op (S.q (q_not rfl) rfl rfl ?_)
        first | with_reducible refine S.nilK ?_ | refine S.nil ?_
        refine hK25 _ _ ?_
        refine S.cond rfl (fun h6 => ?_) (fun h6 => ?_)
        · have hz : tk m2.js j &&& tk m2.js i ≠ 0#16 := fun e => by
            rw [BitVec.and_comm] at e
            rw [decide_eq_true e] at h6
            cases h6
          have hno := allR_no hm2 hjR (show j ≠ i by omega) hz
          rw [hno, List.append_nil] at hnext
          refine S.exit ?_
          with_reducible repeat (first | refine S.then_n ?_ | refine S.then_x ?_ | refine S.then_r ?_ | refine S.inBlock_n ?_ | refine S.inBlock_r ?_ | refine S.inBlock_x rfl ?_ | refine S.noGoto_r ?_ | refine S.noGoto_n ?_ | refine S.noGoto_x ?_)
          with_reducible refine S.inBlock_s ?_
          with_reducible repeat (first | refine S.then_n ?_ | refine S.then_x ?_ | refine S.then_r ?_ | refine S.inBlock_n ?_ | refine S.inBlock_r ?_ | refine S.inBlock_x rfl ?_ | refine S.noGoto_r ?_ | refine S.noGoto_n ?_ | refine S.noGoto_x ?_)
          refine hK15 _ _ ?_
          refine S.region rfl ?_
          refine S.op (S.q (q_move rfl) rfl rfl ?_)
          refine S.op (S.q (q_add rfl rfl (inI64 (by omega) (by omega))) rfl rfl ?_)
          refine S.op (S.q (q_assign rfl) rfl rfl ?_)
          first | with_reducible refine S.nilK ?_ | refine S.nil ?_
          with_reducible repeat (first | refine S.then_n ?_ | refine S.then_x ?_ | refine S.then_r ?_ | refine S.inBlock_n ?_ | refine S.inBlock_r ?_ | refine S.inBlock_x rfl ?_ | refine S.noGoto_r ?_ | refine S.noGoto_n ?_ | refine S.noGoto_x ?_)
          first | exact S.next (q2 - 1) ⟨k + 1, m2, s2, ys, (j : Int) + 1, by omega, by omega, by omega, hnext, hm2, hR2, hs2, by omega, rfl, rfl⟩ (by omega) (by repeat (first | exact trivial | refine ⟨rfl, ?_⟩)) Sub.ent | exact S.next (q2 - 1) ⟨k + 1, m3, s3, ys ++ zs, (j : Int) + 1, by omega, by omega, by omega, hnext, hak.1, hak.2.trans hR2, by omega, by omega, rfl, rfl⟩ (by omega) (by repeat (first | exact trivial | refine ⟨rfl, ?_⟩)) Sub.ent
        · have hz : tk m2.js j &&& tk m2.js i = 0#16 := by
            rw [BitVec.and_comm]
            exact Classical.byContradiction fun e => by rw [decide_eq_false e] at h6; cases h6
          refine S.skip ?_
          with_reducible repeat (first | refine S.then_n ?_ | refine S.then_x ?_ | refine S.then_r ?_ | refine S.inBlock_n ?_ | refine S.inBlock_r ?_ | refine S.inBlock_x rfl ?_ | refine S.noGoto_r ?_ | refine S.noGoto_n ?_ | refine S.noGoto_x ?_)
          refine hK24 _ _ ?_
          refine S.seq fun K26 hK26 => ?_
          refine S.region rfl ?_
          refine S.op (S.q (q_move rfl) rfl rfl ?_)
          refine S.op (S.q (q_move rfl) rfl rfl ?_)
          refine S.op (S.call Tryd.en19 (vs := [_, _]) ⟨rfl, rfl, trivial⟩ (rRow_S c m2 j) rfl ?_)
          rintro v Θ ⟨rv, rfl, hrv, rfl⟩
          have hr16 := rIds_len m2 j
          refine S.op (S.q (q_len Tryd.underlying31 rfl) rfl rfl ?_)
          refine S.op (S.q (q_move rfl) rfl rfl ?_)
          first | with_reducible refine S.nilK ?_ | refine S.nil ?_
          refine hK26 _ _ ?_
          refine S.block ?_
          refine S.loop (fun q4 ρ' Γ' => ∃ (n : Nat) (m3 : Mx) (s3 : SV) (zs : List Mv), q4 = (rowIds m2 j).length - n ∧ n ≤ (rowIds m2 j).length ∧ runUp m2 i (rowIds m2 j) n = some (zs, m3) ∧ s3.n = ys.length + zs.length ∧ zs.length = n ∧ ρ' = [(4, .pointer (some ⟨c, 0, none⟩)), (5, s3.v), (6, .int .i64 (i : Int)), (7, .int .i64 (j : Int)), (22, .int .i64 (cs.n : Int)), (23, .int .i64 (i : Int)), (64, rv.v), (65, .int .i64 rv.n), (66, .int .i64 (n : Int))] ∧   Γ' = own s3 113 3 ((ys ++ zs).flatMap mvC) :: own rv 68 1 (idsV (rowIds m2 j)) :: RI c m3 :: RI b m :: Γ) (m := _) (ρ0 := _) (Γ0 := _) (⟨0, m2, s2, [], rfl, by omega, rfl, hs2, rfl, rfl, by rw [List.append_nil]⟩) (by repeat (first | exact trivial | refine ⟨rfl, ?_⟩)) Sub.ent ?_
          rintro q4 ρ' Γ' ⟨n, m3, s3, zs, hq4, hn, hru, hs3, hzl, rfl, rfl⟩
          refine S.seq fun K27 hK27 => ?_
          refine S.region rfl ?_
          refine S.op (S.q (q_lt rfl rfl) rfl rfl ?_)
          first | with_reducible refine S.nilK ?_ | refine S.nil ?_
          refine hK27 _ _ ?_
          refine S.seq fun K28 hK28 => ?_
          refine S.condD rfl (fun h7 => ?_) (fun h7 => ?_)
          · refine S.ownSome rv (by omega) fun rb ro hra _ _ _ => ?_
            obtain ⟨y, hy, hyk, hyj, hyz, hm3, hR3, _, hru2⟩ := uni_step hm2 (show i < m2.R by omega) hjR (show j ≠ i by omega) hz (show n < (rowIds m2 j).length by omega) hru
            have hzl2 : (zs ++ [(y.id, (j : Int), (i : Int))]).length = n + 1 := by rw [List.length_append, hzl]; rfl
            refine S.skip ?_
            with_reducible repeat (first | refine S.then_n ?_ | refine S.then_x ?_ | refine S.then_r ?_ | refine S.inBlock_n ?_ | refine S.inBlock_r ?_ | refine S.inBlock_x rfl ?_ | refine S.noGoto_r ?_ | refine S.noGoto_n ?_ | refine S.noGoto_x ?_)
            refine hK28 _ _ ?_
            refine S.seq fun K29 hK29 => ?_
            refine S.block ?_
            refine S.seq fun K30 hK30 => ?_
            refine S.region rfl ?_
            refine S.op (S.q (q_indexO (n) Tryd.el31 rfl hra rfl rfl (by omega)) rfl rfl ?_)
            refine S.op (S.q (q_loadOw (rv) (n) Tryd.at68 rfl hra (by first | rfl | exact Nat.add_assoc _ _ _ | omega) (idsV_get hyk)) rfl rfl ?_)
            refine S.op (S.q (q_assign rfl) rfl rfl ?_)
            first | with_reducible refine S.nilK ?_ | refine S.nil ?_
            refine hK30 _ _ ?_
            refine S.seq fun K31 hK31 => ?_
            refine S.region rfl ?_
            refine S.op (S.q (q_move rfl) rfl rfl ?_)
            refine S.op (S.q (q_move rfl) rfl rfl ?_)
            refine S.op (S.q (q_move rfl) rfl rfl ?_)
            refine S.op (S.call Tryd.en51 (vs := [_, _, _]) ⟨rfl, rfl, rfl, trivial⟩ (rMove_S c m3 y i hy (by omega) (by omega) hyz) rfl ?_)
            rintro v Θ ⟨rfl, rfl⟩
            rw [hyj]
            refine S.op (S.alloc Tryd.z113 rfl ?_)
            intro b13
            refine S.op (S.storeS (cs' := [_, _, _]) Tryd.ag113 rfl rfl rfl rfl rfl rfl ?_)
            first | with_reducible refine S.nilK ?_ | refine S.nil ?_
            refine hK31 _ _ ?_
            refine S.region rfl ?_
            refine S.op (S.q (q_move rfl) rfl rfl ?_)
            refine S.op (S.q (q_loadS [_, _, _] Tryd.ag113 rfl rfl ⟨rfl, rfl, rfl, trivial⟩) rfl rfl ?_)
            refine S.op (S.buildSlice (pvs := [(_, _)]) [_, _, _] Tryd.underlying49 Tryd.inf113 rfl rfl ⟨⟨rfl, rfl⟩, trivial⟩ rfl rfl ?_)
            intro b76
            refine S.op (S.appendOw (s := s3) (1) (mvC (y.id, (j : Int), (i : Int))) Tryd.underlying49 Tryd.inf113 rfl rfl rfl (blk_slAt (b := b76) rfl (by unfold maxLen; omega)) (by first | rfl | exact allOne_bcells _) (⟨by omega, by omega⟩) rfl ?_)
            intro s4 hs4
            refine S.op (S.q (q_assign rfl) rfl rfl ?_)
            first | with_reducible refine S.nilK ?_ | refine S.nil ?_
            with_reducible repeat (first | refine S.then_n ?_ | refine S.then_x ?_ | refine S.then_r ?_ | refine S.inBlock_n ?_ | refine S.inBlock_r ?_ | refine S.inBlock_x rfl ?_ | refine S.noGoto_r ?_ | refine S.noGoto_n ?_ | refine S.noGoto_x ?_)
            refine hK29 _ _ ?_
            refine S.region rfl ?_
            refine S.op (S.q (q_add rfl rfl (inI64 (by omega) (by omega))) rfl rfl ?_)
            refine S.op (S.q (q_move rfl) rfl rfl ?_)
            first | with_reducible refine S.nilK ?_ | refine S.nil ?_
            with_reducible repeat (first | refine S.then_n ?_ | refine S.then_x ?_ | refine S.then_r ?_ | refine S.inBlock_n ?_ | refine S.inBlock_r ?_ | refine S.inBlock_x rfl ?_ | refine S.noGoto_r ?_ | refine S.noGoto_n ?_ | refine S.noGoto_x ?_)
            rw [flat_snoc mvC (ys ++ zs) (y.id, (j : Int), (i : Int)), List.append_assoc]
            exact S.next (q4 - 1) (⟨n + 1, { m3 with js := reRow m3.js y.id i }, s4, zs ++ [(y.id, (j : Int), (i : Int))], by omega, by omega, hru2, by rw [hzl2]; omega, hzl2, rfl, rfl⟩) (by omega) (by repeat (first | exact trivial | refine ⟨rfl, ?_⟩)) Sub.ent
          · have hall : allR m2 j i = (zs, m3) := by
              rw [show n = (rowIds m2 j).length by omega] at hru
              unfold allR
              rw [hru]
            rw [hall] at hnext hal hak
            have hal : zs.length ≤ 16 := hal
            have hyzl : (ys ++ zs).length = ys.length + zs.length := List.length_append
            refine S.exit ?_
            with_reducible repeat (first | refine S.then_n ?_ | refine S.then_x ?_ | refine S.then_r ?_ | refine S.inBlock_n ?_ | refine S.inBlock_r ?_ | refine S.inBlock_x rfl ?_ | refine S.noGoto_r ?_ | refine S.noGoto_n ?_ | refine S.noGoto_x ?_)
            with_reducible refine S.inBlock_s ?_
            with_reducible repeat (first | refine S.then_n ?_ | refine S.then_x ?_ | refine S.then_r ?_ | refine S.inBlock_n ?_ | refine S.inBlock_r ?_ | refine S.inBlock_x rfl ?_ | refine S.noGoto_r ?_ | refine S.noGoto_n ?_ | refine S.noGoto_x ?_)
            with_reducible repeat (first | refine S.then_n ?_ | refine S.then_x ?_ | refine S.then_r ?_ | refine S.inBlock_n ?_ | refine S.inBlock_r ?_ | refine S.inBlock_x rfl ?_ | refine S.noGoto_r ?_ | refine S.noGoto_n ?_ | refine S.noGoto_x ?_)
            refine hK15 _ _ ?_
            refine S.region rfl ?_
            refine S.op (S.q (q_move rfl) rfl rfl ?_)
            refine S.op (S.q (q_add rfl rfl (inI64 (by omega) (by omega))) rfl rfl ?_)
            refine S.op (S.q (q_assign rfl) rfl rfl ?_)
            first | with_reducible refine S.nilK ?_ | refine S.nil ?_
            with_reducible repeat (first | refine S.then_n ?_ | refine S.then_x ?_ | refine S.then_r ?_ | refine S.inBlock_n ?_ | refine S.inBlock_r ?_ | refine S.inBlock_x rfl ?_ | refine S.noGoto_r ?_ | refine S.noGoto_n ?_ | refine S.noGoto_x ?_)
            first | exact S.next (q2 - 1) ⟨k + 1, m2, s2, ys, (j : Int) + 1, by omega, by omega, by omega, hnext, hm2, hR2, hs2, by omega, rfl, rfl⟩ (by omega) (by repeat (first | exact trivial | refine ⟨rfl, ?_⟩)) Sub.ent | exact S.next (q2 - 1) ⟨k + 1, m3, s3, ys ++ zs, (j : Int) + 1, by omega, by omega, by omega, hnext, hak.1, hak.2.trans hR2, by omega, by omega, rfl, rfl⟩ (by omega) (by repeat (first | exact trivial | refine ⟨rfl, ?_⟩)) Sub.ent
    · refine S.riClose c m2 c2 u2 r2 hri2 ?_
      have hkR : k = m.R - (i + 1) := by omega
      have hun2 : uniUp m (i + 1) = (m2, ys) := by rw [uniUp, hun, ← hui, hkR]
      refine S.exit ?_
      with_reducible repeat (first | refine S.then_n ?_ | refine S.then_x ?_ | refine S.then_r ?_ | refine S.inBlock_n ?_ | refine S.inBlock_r ?_ | refine S.inBlock_x rfl ?_ | refine S.noGoto_r ?_ | refine S.noGoto_n ?_ | refine S.noGoto_x ?_)
      with_reducible refine S.inBlock_s ?_
      with_reducible repeat (first | refine S.then_n ?_ | refine S.then_x ?_ | refine S.then_r ?_ | refine S.inBlock_n ?_ | refine S.inBlock_r ?_ | refine S.inBlock_x rfl ?_ | refine S.noGoto_r ?_ | refine S.noGoto_n ?_ | refine S.noGoto_x ?_)
      with_reducible repeat (first | refine S.then_n ?_ | refine S.then_x ?_ | refine S.then_r ?_ | refine S.inBlock_n ?_ | refine S.inBlock_r ?_ | refine S.inBlock_x rfl ?_ | refine S.noGoto_r ?_ | refine S.noGoto_n ?_ | refine S.noGoto_x ?_)
      refine hK10 _ _ ?_
      refine S.region rfl ?_
      refine S.op (S.q (q_add rfl rfl (inI64 (by omega) (by omega))) rfl rfl ?_)
      refine S.op (S.q (q_move rfl) rfl rfl ?_)
      first | with_reducible refine S.nilK ?_ | refine S.nil ?_
      with_reducible repeat (first | refine S.then_n ?_ | refine S.then_x ?_ | refine S.then_r ?_ | refine S.inBlock_n ?_ | refine S.inBlock_r ?_ | refine S.inBlock_x rfl ?_ | refine S.noGoto_r ?_ | refine S.noGoto_n ?_ | refine S.noGoto_x ?_)
      exact S.next (q - 1) (⟨i + 1, m2, s2, ys, by omega, by omega, hun2, hm2, hR2, hs2, by omega, rfl, rfl⟩) (by omega) (by repeat (first | exact trivial | refine ⟨rfl, ?_⟩)) Sub.ent
  · have hfin : unifyR m = (m1, xs) := by rw [unifyR, show m.R = i by omega]; exact hun
    refine S.exit ?_
    with_reducible repeat (first | refine S.then_n ?_ | refine S.then_x ?_ | refine S.then_r ?_ | refine S.inBlock_n ?_ | refine S.inBlock_r ?_ | refine S.inBlock_x rfl ?_ | refine S.noGoto_r ?_ | refine S.noGoto_n ?_ | refine S.noGoto_x ?_)
    with_reducible refine S.inBlock_s ?_
    with_reducible repeat (first | refine S.then_n ?_ | refine S.then_x ?_ | refine S.then_r ?_ | refine S.inBlock_n ?_ | refine S.inBlock_r ?_ | refine S.inBlock_x rfl ?_ | refine S.noGoto_r ?_ | refine S.noGoto_n ?_ | refine S.noGoto_x ?_)
    refine hK6 _ _ ?_
    refine S.seq fun K32 hK32 => ?_
    refine S.region rfl ?_
    refine S.op (S.q (q_move rfl) rfl rfl ?_)
    refine S.op (S.q (q_move rfl) rfl rfl ?_)
    refine S.op (S.q (q_assign rfl) rfl rfl ?_)
    refine S.op (S.q (q_assign rfl) rfl rfl ?_)
    first | with_reducible refine S.nilK ?_ | refine S.nil ?_
    refine hK32 _ _ ?_
    refine S.ret ?_
    with_reducible repeat (first | refine S.then_n ?_ | refine S.then_x ?_ | refine S.then_r ?_ | refine S.inBlock_n ?_ | refine S.inBlock_r ?_ | refine S.inBlock_x rfl ?_ | refine S.noGoto_r ?_ | refine S.noGoto_n ?_ | refine S.noGoto_x ?_)
    exact S.fin (rs := [_, _]) (vs := [_, _]) Tryd.results16 (⟨rfl, rfl, trivial⟩)  (⟨c, sv, rfl, by rw [hfin]; exact hsv, by rw [hfin]⟩) Sub.ent
end Go.Proofs.YtegjmmocnffpiaaDoor
