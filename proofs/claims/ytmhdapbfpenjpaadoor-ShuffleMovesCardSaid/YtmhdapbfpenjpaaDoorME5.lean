/- slices.Sort at whole numbers of 32 bits: what chooses, what scatters, what is partly in order. -/
import Derived.Sort.AssemblyPlain
import Derived.Sort.LotD1
import Derived.Test.YtmhdapbfpenjpaaDoorME4
/- Rows put together, jobs put ahead: the moves lead there one by one; nobody loses a node; no more rows are used. Of no program. -/
namespace Go.Proofs.YtmhdapbfpenjpaaDoor
open Go.RowKit
set_option maxRecDepth 20000
/-- Moves, one by one, each of which can be. -/
def Mvs (m : Mx) : List Mv → Mx → Prop
  | [], m' => m' = m
  | x :: xs, m' => (moveR m x.1 x.2.2).1 = some x ∧ Mvs (moveR m x.1 x.2.2).2 xs m'
theorem go_append {m m1 m2 : Mx} {xs ys : List Mv} (h : Mvs m xs m1) (h2 : Mvs m1 ys m2) : Mvs m (xs ++ ys) m2 := by
  induction xs generalizing m with
  | nil => rw [show m1 = m from h] at h2; exact h2
  | cons x xs ih => exact ⟨h.1, ih h.2⟩
theorem go_one {m m' : Mx} {j : Nat} {z : Int} {x : Mv} (h : moveR m j z = (some x, m')) : Mvs m [x] m' := by
  obtain ⟨y, _, _, rfl, _⟩ := moveR_some h
  refine ⟨by rw [h], ?_⟩
  show m' = _
  rw [h]
theorem runUp_go {m : Mx} {z : Int} {ids : List Nat} : ∀ {q : Nat} {a : List Mv × Mx}, runUp m z ids q = some a → Mvs m a.1 a.2
  | 0, a, h => by
    simp only [runUp, Option.some.injEq] at h
    subst h
    rfl
  | q + 1, a, h => by
    rw [runUp] at h
    cases hr : runUp m z ids q with
    | none => rw [hr] at h; cases h
    | some b =>
      rw [hr] at h
      simp only at h
      cases hv : moveR b.2 (ids.getD q 0) z with
      | mk x m' =>
        rw [hv] at h
        cases x with
        | none => cases h
        | some x =>
          simp only [Option.some.injEq] at h
          subst h
          exact go_append (runUp_go hr) (go_one hv)
theorem allR_go (m : Mx) (f : Nat) (z : Int) : Mvs m (allR m f z).1 (allR m f z).2 := by
  unfold allR
  cases h : runUp m z (rowIds m f) (rowIds m f).length with
  | none => rfl
  | some a => exact runUp_go h
theorem uniIn_go {m0 : Mx} {i : Nat} {a : Mx × List Mv} (h : Mvs m0 a.2 a.1) : ∀ q, Mvs m0 (uniIn i a q).2 (uniIn i a q).1
  | 0 => h
  | q + 1 => go_append (uniIn_go h q) (allR_go _ _ _)
theorem uniUp_go (m : Mx) : ∀ i, Mvs m (uniUp m i).2 (uniUp m i).1
  | 0 => rfl
  | i + 1 => uniIn_go (uniUp_go m i) _
theorem unify_go (m : Mx) : Mvs m (unifyR m).2 (unifyR m).1 := uniUp_go m _
theorem repRow_go {m0 : Mx} {j : Nat} {ids : List Nat} {a : Mx × List Mv} (h : Mvs m0 a.2 a.1) : ∀ q, Mvs m0 (repRow j ids a q).2 (repRow j ids a q).1
  | 0 => h
  | q + 1 => by
    have ih := repRow_go (ids := ids) h q (j := j)
    rw [repRow]
    cases ht : repTry (repRow j ids a q).1 (ids.getD q 0) j with
    | none => exact ih
    | some r =>
      obtain ⟨i, _, hv, _⟩ := repTry_first ht
      exact go_append ih (go_one hv)
theorem repUp_go (m : Mx) : ∀ k, Mvs m (repUp m k).2 (repUp m k).1
  | 0 => rfl
  | k + 1 => repRow_go (repUp_go m k) _
theorem repack_go (m : Mx) : Mvs m (repackR m).2 (repackR m).1 := repUp_go m _
/-! Nobody loses a node. -/
abbrev idNs (x : Jb) : Nat × Bs := (x.id, x.ns)
structure Keep (m m' : Mx) : Prop where
  ok : MxOk m'
  R : m'.R = m.R
  N : m'.N = m.N
  up : m'.up = m.up
  js : m'.js.map idNs = m.js.map idNs
theorem Keep.refl {m : Mx} (h : MxOk m) : Keep m m := ⟨h, rfl, rfl, rfl, rfl⟩
theorem Keep.trans {a b c : Mx} (h : Keep a b) (h2 : Keep b c) : Keep a c := ⟨h2.ok, h2.R.trans h.R, h2.N.trans h.N, h2.up.trans h.up, h2.js.trans h.js⟩
theorem reRow_keep (js : List Jb) (j t : Nat) : (reRow js j t).map idNs = js.map idNs := by
  rw [reRow, List.map_map]
  refine List.map_congr_left fun x _ => ?_
  show idNs (if x.id = j then _ else x) = _
  split <;> rfl
theorem Keep.move {m : Mx} (hm : MxOk m) (j : Nat) (z : Int) : Keep m (moveR m j z).2 := by
  obtain ⟨h1, h2, h3⟩ := moveR_N m j z
  refine ⟨moveR_ok hm j z, h1, h2, h3, ?_⟩
  cases hv : moveR m j z with
  | mk x m' =>
    cases x with
    | none => rw [(moveR_none hv).1]
    | some x =>
      obtain ⟨y, _, _, _, e⟩ := moveR_some hv
      rw [e]
      exact reRow_keep _ _ _
theorem Keep.go {xs : List Mv} : ∀ {m m' : Mx}, MxOk m → Mvs m xs m' → Keep m m' := by
  induction xs with
  | nil => intro m m' hm h; rw [show m' = m from h]; exact .refl hm
  | cons x xs ih => intro m m' hm h; exact (Keep.move hm x.1 x.2.2).trans (ih (moveR_ok hm _ _) h.2)
theorem Keep.unify {m : Mx} (hm : MxOk m) : Keep m (unifyR m).1 := Keep.go hm (unify_go m)
theorem Keep.repack {m : Mx} (hm : MxOk m) : Keep m (repackR m).1 := Keep.go hm (repack_go m)
theorem look_keep {js js' : List Jb} (h : js'.map idNs = js.map idNs) (j : Nat) : (look js' j).map idNs = (look js j).map idNs := by
  induction js generalizing js' with
  | nil => rw [List.map_eq_nil_iff.1 h]
  | cons x js ih =>
    cases js' with
    | nil => cases h
    | cons y js' =>
      rw [List.map_cons, List.map_cons, List.cons.injEq] at h
      obtain ⟨h1, h2⟩ := h
      have h3 : y.id = x.id := congrArg Prod.fst h1
      have ih := ih h2
      unfold look at ih ⊢
      rw [List.find?_cons, List.find?_cons, h3]
      by_cases e : x.id = j
      · simp only [e, decide_true, Option.map_some]
        exact congrArg some h1
      · simp only [e, decide_false]
        exact ih
theorem Keep.of_ {m m' : Mx} (h : Keep m m') (j : Nat) : (ofR m' j).2 = (ofR m j).2 := by
  have h1 := look_keep h.js j
  unfold ofR
  cases e1 : look m.js j with
  | none =>
    rw [e1] at h1
    cases e2 : look m'.js j with
    | none => rfl
    | some y => rw [e2] at h1; cases h1
  | some x =>
    rw [e1] at h1
    cases e2 : look m'.js j with
    | none => rw [e2] at h1; cases h1
    | some y =>
      rw [e2] at h1
      simp only [Option.map_some, Option.some.injEq] at h1
      have h2 : y.ns = x.ns := congrArg Prod.snd h1
      show (lst y.ns, true) = (lst x.ns, true)
      rw [h2]
theorem Keep.ids {m m' : Mx} (h : Keep m m') : m'.js.map (·.id) = m.js.map (·.id) := by
  have := congrArg (List.map Prod.fst) h.js
  simpa [List.map_map, Function.comp_def] using this
/-! How many rows are used. -/
def cnt (p : Nat → Bool) : Nat → Nat
  | 0 => 0
  | r + 1 => if p r = true then cnt p r + 1 else cnt p r
theorem cnt_le {p q : Nat → Bool} : ∀ {n : Nat}, (∀ r, r < n → p r = true → q r = true) → cnt p n ≤ cnt q n
  | 0, _ => Nat.le_refl _
  | n + 1, h => by
    have ih := cnt_le (n := n) fun r hr => h r (by omega)
    have h9 := h n (by omega)
    rw [cnt, cnt]
    by_cases e : p n = true
    · rw [if_pos e, if_pos (h9 e)]; omega
    · rw [if_neg e]; split <;> omega
theorem cnt_but (p : Nat → Bool) (i : Nat) : ∀ n, cnt p n ≤ cnt (fun r => p r && decide (r ≠ i)) n + 1
  | 0 => by simp [cnt]
  | n + 1 => by
    have ih := cnt_but p i n
    rw [cnt, cnt]
    by_cases e : n = i
    · have h1 : cnt p n ≤ cnt (fun r => p r && decide (r ≠ i)) n := cnt_le fun r hr hp => by
        have : r ≠ i := by omega
        simp [hp, this]
      have h2 : ¬ ((p n && decide (n ≠ i)) = true) := by simp [e]
      rw [if_neg h2]
      split <;> omega
    · have h2 : (p n && decide (n ≠ i)) = p n := by simp [e]
      rw [h2]
      split <;> omega
theorem cnt_less {p : Nat → Bool} {i : Nat} (h : p i = true) : ∀ {n : Nat}, i < n → cnt (fun r => p r && decide (r ≠ i)) n + 1 ≤ cnt p n
  | 0, hn => by omega
  | n + 1, hn => by
    rw [cnt, cnt]
    by_cases e : n = i
    · have h1 : cnt (fun r => p r && decide (r ≠ i)) n ≤ cnt p n := cnt_le fun r hr hp => by
        simp only [Bool.and_eq_true] at hp
        exact hp.1
      have h2 : ¬ ((p n && decide (n ≠ i)) = true) := by simp [e]
      rw [if_neg h2, if_pos (by rw [e]; exact h)]
      omega
    · have ih := cnt_less h (n := n) (by omega)
      have h2 : (p n && decide (n ≠ i)) = p n := by simp [e]
      rw [h2]
      split <;> omega
/-- One that is used no more for one that is. -/
theorem cnt_swap {p q : Nat → Bool} {i j n : Nat} (h : ∀ r, r < n → r ≠ i → p r = true → q r = true) (hp : p j = false) (hq : q j = true) (hj : j < n) : cnt p n ≤ cnt q n := by
  have h1 := cnt_but p i n
  have h2 := cnt_less hq hj
  have h3 : cnt (fun r => p r && decide (r ≠ i)) n ≤ cnt (fun r => q r && decide (r ≠ j)) n := cnt_le fun r hr hb => by
    simp only [Bool.and_eq_true, decide_eq_true_eq] at hb ⊢
    refine ⟨h r hr hb.2 hb.1, fun e => ?_⟩
    rw [e, hp] at hb
    exact absurd hb.1 (by decide)
  omega
def useB (m : Mx) (r : Nat) : Bool := decide (0 < (rowIds m r).length)
theorem usedUp_cnt (m : Mx) : ∀ r, usedUp m r = cnt (useB m) r
  | 0 => rfl
  | r + 1 => by
    rw [usedUp, cnt, usedUp_cnt m r]
    by_cases e : 0 < (rowIds m r).length
    · rw [if_pos e, if_pos (show useB m r = true from decide_eq_true e)]
    · rw [if_neg e, if_neg (show ¬ useB m r = true by simpa [useB] using e)]
theorem useB_iff {m : Mx} (hm : MxOk m) {r : Nat} (hr : r < m.R) : useB m r = true ↔ ∃ x ∈ m.js, x.row = r := by
  rw [useB, decide_eq_true_eq]
  constructor
  · intro h
    cases e : rowIds m r with
    | nil => rw [e] at h; simp at h
    | cons a l =>
      obtain ⟨x, h1, h2, _⟩ := (mem_rowIds hm hr).1 (show a ∈ rowIds m r by rw [e]; exact List.mem_cons_self ..)
      exact ⟨x, h1, h2⟩
  · rintro ⟨x, h1, h2⟩
    have := (mem_rowIds hm hr).2 ⟨x, h1, h2, rfl⟩
    cases e : rowIds m r with
    | nil => rw [e] at this; cases this
    | cons a l => simp
theorem useB_tk {m : Mx} (hm : MxOk m) {r : Nat} (hr : r < m.R) : useB m r = true ↔ tk m.js r ≠ 0#16 := by
  have h := rowIds_nil hm hr
  rw [useB, decide_eq_true_eq]
  constructor
  · intro h1 e
    rw [h.2 e] at h1
    simp at h1
  · intro h1
    cases e : rowIds m r with
    | nil => exact absurd (h.1 e) h1
    | cons a l => simp
theorem allR_used {m : Mx} (hm : MxOk m) {f t : Nat} (hf : f < m.R) (ht : t < m.R) (hft : f ≠ t) : cnt (useB (allR m f t).2) m.R ≤ cnt (useB m) m.R := by
  by_cases hd : tk m.js f &&& tk m.js t = 0#16
  · by_cases h0 : tk m.js f = 0#16
    · rw [allR_nil hm hf h0]; exact Nat.le_refl _
    · obtain ⟨hok, hR⟩ := allR_ok hm (f := f) (t := t)
      have hy := allR_yes hm hf ht hft hd
      refine cnt_swap (i := t) (j := f) (fun r hr hne hp => ?_) ?_ ((useB_tk hm hf).2 h0) hf
      · have h1 := (useB_tk hok (by rw [hR]; exact hr)).1 hp
        rw [hy, if_neg hne] at h1
        by_cases e : r = f
        · rw [if_pos e] at h1; exact absurd rfl h1
        · rw [if_neg e] at h1; exact (useB_tk hm hr).2 h1
      · cases hb : useB (allR m f t).2 f with
        | false => rfl
        | true =>
          have h1 := (useB_tk hok (by rw [hR]; exact hf)).1 hb
          rw [hy, if_neg hft, if_pos rfl] at h1
          exact absurd rfl h1
  · rw [allR_no hm hf hft hd]; exact Nat.le_refl _
theorem uniIn_used {m : Mx} (hm : MxOk m) {i : Nat} (xs : List Mv) : ∀ q, i + 1 + q ≤ m.R → MxOk (uniIn i (m, xs) q).1 ∧ (uniIn i (m, xs) q).1.R = m.R ∧ cnt (useB (uniIn i (m, xs) q).1) m.R ≤ cnt (useB m) m.R
  | 0, _ => ⟨hm, rfl, Nat.le_refl _⟩
  | q + 1, hq => by
    obtain ⟨h1, h2, h3⟩ := uniIn_used (i := i) hm xs q (by omega)
    obtain ⟨h4, h5⟩ := allR_ok h1 (f := i + 1 + q) (t := i)
    have h6 := allR_used h1 (f := i + 1 + q) (t := i) (by omega) (by omega) (by omega)
    rw [h2] at h6
    exact ⟨h4, h5.trans h2, Nat.le_trans h6 h3⟩
theorem uniUp_used {m : Mx} (hm : MxOk m) : ∀ k, k ≤ m.R → MxOk (uniUp m k).1 ∧ (uniUp m k).1.R = m.R ∧ cnt (useB (uniUp m k).1) m.R ≤ cnt (useB m) m.R
  | 0, _ => ⟨hm, rfl, Nat.le_refl _⟩
  | k + 1, hk => by
    obtain ⟨h1, h2, h3⟩ := uniUp_used hm k (by omega)
    obtain ⟨h4, h5, h6⟩ := uniIn_used h1 (i := k) (uniUp m k).2 (m.R - (k + 1)) (by omega)
    rw [h2] at h6
    exact ⟨h4, h5.trans h2, Nat.le_trans h6 h3⟩
theorem unify_used {m : Mx} (hm : MxOk m) : usedUp (unifyR m).1 (unifyR m).1.R ≤ usedUp m m.R := by
  obtain ⟨h1, h2, h3⟩ := uniUp_used hm m.R (Nat.le_refl _)
  rw [usedUp_cnt, usedUp_cnt, show (unifyR m).1.R = m.R from h2]
  exact h3
/-- While row j's jobs are put ahead: e is the first row ahead that nobody had. -/
structure RepU (m0 m : Mx) (j e : Nat) (ids : List Nat) (p : Nat) : Prop where
  ok : MxOk m
  R : m.R = m0.R
  was : ∀ x ∈ m.js, ∃ x0 ∈ m0.js, x0.id = x.id ∧ x0.ns = x.ns ∧ (x.row = x0.row ∨ (x0.row = j ∧ x.row < j ∧ x.row ≤ e))
  gone : e < j → ∀ x ∈ m.js, x.id ∈ ids.take p → x.row ≤ e
  left : ∀ x ∈ m.js, x.id ∈ ids.drop p → x.row = j
theorem RepU.step {m0 m : Mx} {j e : Nat} {ids : List Nat} {p : Nat} (h0 : MxOk m0) (he : e < j → ∀ x ∈ m0.js, x.row ≠ e) (h : RepU m0 m j e ids p) (hp : p < ids.length) (hnd : ids.Nodup) (hin : ∃ x ∈ m.js, x.id = ids[p]) :
    (repTry m ids[p] j = none → RepU m0 m j e ids (p + 1)) ∧ ∀ r, repTry m ids[p] j = some r → RepU m0 r.2 j e ids (p + 1) := by
  have htake : ∀ y, y ∈ ids.take (p + 1) → y = ids[p] ∨ y ∈ ids.take p := fun y hy => by
    rw [List.take_add_one, List.getElem?_eq_getElem hp, List.mem_append] at hy
    rcases hy with hy | hy
    · exact .inr hy
    · left; simpa using hy
  have hdrop : ids.drop p = ids[p] :: ids.drop (p + 1) := List.drop_eq_getElem_cons hp
  -- whoever is next may go to e
  have hcan : e < j → ∀ y ∈ m.js, y.id = ids[p] → (moveR m y.id e).1 ≠ none := fun hej y hy hyi hn => by
    have hyj : y.row = j := h.left y hy (by rw [hdrop, hyi]; exact List.mem_cons_self ..)
    have h9 := move_no h.ok hy (i := e) (by omega) hn
    obtain ⟨k, k1, k2⟩ := meet_iff.1 h9
    obtain ⟨x, x1, x2, x3⟩ := (tk_bit _ _ _).1 k1
    obtain ⟨x0, a1, a2, a3, a4⟩ := h.was x x1
    obtain ⟨y0, b1, b2, b3, b4⟩ := h.was y hy
    have a5 : x0.row = j := by
      rcases a4 with a4 | a4
      · exact absurd (a4.symm.trans x2) (he hej x0 a1)
      · exact a4.1
    have b5 : y0.row = j := by
      rcases b4 with b4 | b4
      · exact b4.symm.trans hyj
      · exact b4.1
    have hne : x0.id ≠ y0.id := fun e9 => by
      have e8 : x.id = y.id := by rw [← a2, ← b2, e9]
      have e7 := id_inj h.ok.srt x1 hy e8
      rw [e7] at x2
      omega
    exact h0.dis x0 a1 y0 b1 hne (a5.trans b5.symm) k (by rw [a3]; exact x3) (by rw [b3]; exact k2)
  constructor
  · intro ht
    refine ⟨h.ok, h.R, h.was, fun hej x hx hi => ?_, fun x hx hi => h.left x hx (by rw [hdrop]; exact List.mem_cons_of_mem _ hi)⟩
    rcases htake _ hi with e9 | e9
    · exact absurd (by rw [e9]; exact repTry_none ht e hej) (hcan hej x hx e9)
    · exact h.gone hej x hx e9
  · intro r ht
    obtain ⟨i, hi, hv, hno⟩ := repTry_first ht
    obtain ⟨y, hl, _, _, hm'⟩ := moveR_some hv
    obtain ⟨hy, hyi⟩ := look_some hl
    have hyj : y.row = j := h.left y hy (by rw [hdrop, hyi]; exact List.mem_cons_self ..)
    have hie : e < j → i ≤ e := fun hej => by
      refine Classical.byContradiction fun hc => ?_
      exact hcan hej y hy hyi (by rw [hyi]; exact hno e (by omega))
    have hok' := moveR_ok h.ok ids[p] i
    rw [hv] at hok'
    have hok' : MxOk r.2 := hok'
    have hjs : r.2.js = reRow m.js y.id i := by rw [hm', hyi, Int.toNat_natCast]
    have hR : r.2.R = m.R := by rw [hm']
    have hmem : ∀ x, x ∈ r.2.js ↔ x = ⟨y.id, i, y.ns⟩ ∨ (x ∈ m.js ∧ x.id ≠ y.id) := fun x => by rw [hjs]; exact mem_reRow h.ok.srt hy i x
    refine ⟨hok', hR.trans h.R, fun x hx => ?_, fun hej x hx hxi => ?_, fun x hx hxi => ?_⟩
    · rcases (hmem x).1 hx with rfl | ⟨x1, x2⟩
      · obtain ⟨y0, b1, b2, b3, b4⟩ := h.was y hy
        refine ⟨y0, b1, b2, b3, .inr ⟨?_, hi, ?_⟩⟩
        · rcases b4 with b4 | b4
          · exact b4.symm.trans hyj
          · exact b4.1
        · show i ≤ e
          by_cases hej : e < j
          · exact hie hej
          · omega
      · exact h.was x x1
    · rcases (hmem x).1 hx with rfl | ⟨x1, x2⟩
      · exact hie hej
      · rcases htake _ hxi with e9 | e9
        · exact absurd (e9.trans hyi.symm) x2
        · exact h.gone hej x x1 e9
    · rcases (hmem x).1 hx with rfl | ⟨x1, x2⟩
      · exfalso
        have hxi : y.id ∈ ids.drop (p + 1) := hxi
        rw [hyi] at hxi
        obtain ⟨q, hq, e9⟩ := List.getElem_of_mem hxi
        rw [List.getElem_drop] at e9
        have hq' : p + 1 + q < ids.length := by rw [List.length_drop] at hq; omega
        have := List.pairwise_iff_getElem.1 hnd p (p + 1 + q) hp hq' (by omega)
        exact this e9.symm
      · exact h.left x x1 (by rw [hdrop]; exact List.mem_cons_of_mem _ hxi)
theorem repRow_U {m : Mx} {j e : Nat} (hm : MxOk m) (hj : j < m.R) (he : e < j → ∀ x ∈ m.js, x.row ≠ e) (xs : List Mv) : ∀ p, p ≤ (rowIds m j).length → RepU m (repRow j (rowIds m j) (m, xs) p).1 j e (rowIds m j) p
  | 0, _ => ⟨hm, rfl, fun x hx => ⟨x, hx, rfl, rfl, .inl rfl⟩, fun _ x _ h => (by cases h), fun x hx hi => by
      obtain ⟨y, y1, y2, y3⟩ := (mem_rowIds hm hj).1 hi
      rw [← id_inj hm.srt y1 hx y3]
      exact y2⟩
  | p + 1, hp => by
    have h1 := repRow_U hm hj he xs p (by omega)
    have hp' : p < (rowIds m j).length := by omega
    have hg : (rowIds m j).getD p 0 = (rowIds m j)[p] := by simp [List.getD, List.getElem?_eq_getElem hp']
    have hin : ∃ x ∈ (repRow j (rowIds m j) (m, xs) p).1.js, x.id = (rowIds m j)[p] := by
      obtain ⟨y, y1, _, y3⟩ := (mem_rowIds hm hj).1 (List.getElem_mem hp')
      have hk : Mvs m (repRow j (rowIds m j) (m, []) p).2 (repRow j (rowIds m j) (m, []) p).1 := repRow_go (a := (m, [])) rfl p
      have hsame : ∀ q (ys zs : List Mv), (repRow j (rowIds m j) (m, ys) q).1 = (repRow j (rowIds m j) (m, zs) q).1 := by
        intro q
        induction q with
        | zero => intro ys zs; rfl
        | succ q ih =>
          intro ys zs
          rw [repRow, repRow, ih ys zs]
          cases repTry (repRow j (rowIds m j) (m, zs) q).1 ((rowIds m j).getD q 0) j with
          | none => exact ih ys zs
          | some r => rfl
      have h9 := (Keep.go hm hk).ids
      rw [hsame p [] xs] at h9
      have h8 : (rowIds m j)[p] ∈ m.js.map (·.id) := List.mem_map.2 ⟨y, y1, y3⟩
      rw [← h9] at h8
      obtain ⟨x, x1, x2⟩ := List.mem_map.1 h8
      exact ⟨x, x1, x2⟩
    have hs := h1.step hm he hp' (rowIds_nodup hm hj) hin
    rw [repRow, hg]
    cases ht : repTry (repRow j (rowIds m j) (m, xs) p).1 (rowIds m j)[p] j with
    | none => exact hs.1 ht
    | some r => exact hs.2 r ht
theorem repRow_used {m : Mx} {j : Nat} (hm : MxOk m) (hj : j < m.R) (xs : List Mv) : MxOk (repRow j (rowIds m j) (m, xs) (rowIds m j).length).1 ∧ (repRow j (rowIds m j) (m, xs) (rowIds m j).length).1.R = m.R ∧ cnt (useB (repRow j (rowIds m j) (m, xs) (rowIds m j).length).1) m.R ≤ cnt (useB m) m.R := by
  -- the first row ahead that nobody has
  obtain ⟨e, he1, he2, he3⟩ : ∃ e, e ≤ j ∧ (∀ r, r < e → useB m r = true) ∧ (e < j → useB m e = false) := by
    clear xs
    induction j with
    | zero => exact ⟨0, Nat.le_refl _, fun r hr => (by omega), fun h => (by omega)⟩
    | succ j ih =>
      obtain ⟨e, h1, h2, h3⟩ := ih (by omega)
      by_cases hej : e < j
      · exact ⟨e, by omega, h2, fun _ => h3 hej⟩
      · obtain rfl : e = j := by omega
        cases hb : useB m e with
        | false => exact ⟨e, by omega, h2, fun _ => hb⟩
        | true => exact ⟨e + 1, by omega, fun r hr => by
            by_cases er : r = e
            · rw [er]; exact hb
            · exact h2 r (by omega), fun h => (by omega)⟩
  have hemp : e < j → ∀ x ∈ m.js, x.row ≠ e := fun hej x hx hr => by
    have := (useB_iff hm (show e < m.R by omega)).2 ⟨x, hx, hr⟩
    rw [he3 hej] at this
    cases this
  have hU := repRow_U hm hj hemp xs _ (Nat.le_refl _)
  refine ⟨hU.ok, hU.R, ?_⟩
  have hpt : ∀ r, r < m.R → (r ≠ e ∨ ¬ e < j) → useB (repRow j (rowIds m j) (m, xs) (rowIds m j).length).1 r = true → useB m r = true := fun r hr hre hb => by
    obtain ⟨x, x1, x2⟩ := (useB_iff hU.ok (by rw [hU.R]; exact hr)).1 hb
    obtain ⟨x0, a1, _, _, a4⟩ := hU.was x x1
    rcases a4 with a4 | ⟨_, a5, a6⟩
    · exact (useB_iff hm hr).2 ⟨x0, a1, a4.symm.trans x2⟩
    · exact he2 r (by omega)
  by_cases hej : e < j
  · by_cases h0 : useB m j = true
    · refine cnt_swap (i := e) (j := j) (fun r hr hne hb => hpt r hr (.inl hne) hb) ?_ h0 hj
      cases hb : useB (repRow j (rowIds m j) (m, xs) (rowIds m j).length).1 j with
      | false => rfl
      | true =>
        obtain ⟨x, x1, x2⟩ := (useB_iff hU.ok (by rw [hU.R]; exact hj)).1 hb
        obtain ⟨x0, a1, a2, _, a4⟩ := hU.was x x1
        rcases a4 with a4 | ⟨_, a5, _⟩
        · have h9 : x.id ∈ rowIds m j := by rw [← a2]; exact (mem_rowIds hm hj).2 ⟨x0, a1, a4.symm.trans x2, rfl⟩
          have := hU.gone hej x x1 (by rw [List.take_length]; exact h9)
          omega
        · omega
    · have h1 : (rowIds m j).length = 0 := by
        have h2 : ¬ 0 < (rowIds m j).length := by simpa [useB] using h0
        omega
      rw [h1]
      exact Nat.le_refl _
  · exact cnt_le fun r hr hb => hpt r hr (.inr hej) hb
theorem repUp_used {m : Mx} (hm : MxOk m) : ∀ k, k + 1 ≤ m.R → MxOk (repUp m k).1 ∧ (repUp m k).1.R = m.R ∧ cnt (useB (repUp m k).1) m.R ≤ cnt (useB m) m.R
  | 0, _ => ⟨hm, rfl, Nat.le_refl _⟩
  | k + 1, hk => by
    obtain ⟨h1, h2, h3⟩ := repUp_used hm k (by omega)
    obtain ⟨h4, h5, h6⟩ := repRow_used (j := k + 1) h1 (by omega) (repUp m k).2
    rw [h2] at h6
    exact ⟨h4, h5.trans h2, Nat.le_trans h6 h3⟩
theorem repack_used {m : Mx} (hm : MxOk m) : usedUp (repackR m).1 (repackR m).1.R ≤ usedUp m m.R := by
  have hR := hm.R1
  obtain ⟨h1, h2, h3⟩ := repUp_used hm (m.R - 1) (by omega)
  rw [usedUp_cnt, usedUp_cnt, show (repackR m).1.R = m.R from h2]
  exact h3
end Go.Proofs.YtmhdapbfpenjpaaDoor
/- The laws of shuffle: awake. -/
namespace Go.Proofs.YtmhdapbfpenjpaaDoor
open Go.RowKit
set_option maxRecDepth 20000
def aw1 : Mx := (putR (mx0 3 3) 1 0 [0, 1]).2
def aw2 : Mx := (putR aw1 2 1 [2]).2
def aw3 : Mx := (putR aw2 3 2 [0]).2
def aw4 : Mx := (unifyR aw3).1
theorem awake13 : (unifyR aw3).2 = [(2, 1, 0), (3, 2, 1)] ∧ atR aw4 0 2 = 2 ∧ atR aw4 1 0 = 3 ∧ usedUp aw4 aw4.R = 2 ∧ atR aw3 1 2 = 2 := ⟨by kernel_rfl, by kernel_rfl, by kernel_rfl, by kernel_rfl, by kernel_rfl⟩
theorem awake_S {W : World} (hW : TabW W) : Spec Tryd.prog 23 [] [old W] fun Γ v Θ => v = .bool true ∧ Θ = old W :: Γ := by
  refine Spec.of_body Tryd.func23 rfl Tryd.ntmps23 rfl ?_
  intro w0 Γ
  obtain ⟨f1, f2, f3, f4, f5⟩ := awake13
  show S _ w0 [] (old W :: Γ) _
  refine S.seq fun K1 hK1 => ?_
  refine S.region rfl ?_
  refine S.op (S.q (q_assign rfl) rfl rfl ?_)
  first | with_reducible refine S.nilK ?_ | refine S.nil ?_
  refine hK1 _ _ ?_
  refine S.seq fun K2 hK2 => ?_
  refine S.region rfl ?_
  refine S.op (S.call Tryd.en45 (vs := [_, _]) ⟨rfl, rfl, trivial⟩ (New_S 3 3 (by omega) (by omega) (by omega) (by omega)) rfl ?_)
  rintro v Θ ⟨b, rfl, rfl⟩
  refine S.op (S.q (q_move rfl) rfl rfl ?_)
  refine S.op (S.q (q_extract rfl rfl) rfl rfl ?_)
  refine S.op (S.q (q_extract rfl rfl) rfl rfl ?_)
  refine S.op (S.q (q_assign rfl) rfl rfl ?_)
  refine S.op (S.q (q_assign rfl) rfl rfl ?_)
  first | with_reducible refine S.nilK ?_ | refine S.nil ?_
  refine hK2 _ _ ?_
  refine S.seq fun K3 hK3 => ?_
  refine S.region rfl ?_
  refine S.op (S.q (q_move rfl) rfl rfl ?_)
  refine S.op (S.buildSlice (pvs := [(_, _), (_, _)]) [_, _] Tryd.underlying47 Tryd.inf3 rfl rfl ⟨⟨rfl, rfl⟩, ⟨rfl, rfl⟩, trivial⟩ rfl rfl ?_)
  intro b10
  refine S.op (S.call Tryd.en44 (vs := [_, _, _, _]) ⟨rfl, rfl, rfl, rfl, trivial⟩ (Put_S b (mx0 3 3) 1 0 (blk b10 3 #[.int .i64 0, .int .i64 1]) ⟨some ⟨b10, 0, none⟩, 2, 2⟩ [0, 1] rfl (rdBlk (cs := [.int .i64 0, .int .i64 1]) rfl (by unfold maxLen; omega)) (by omega)) rfl ?_)
  rintro v Θ ⟨rfl, rfl⟩
  rw [show (putR (mx0 3 3) 1 0 [0, 1]).2 = aw1 from rfl]
  first | with_reducible refine S.nilK ?_ | refine S.nil ?_
  refine hK3 _ _ ?_
  refine S.seq fun K4 hK4 => ?_
  refine S.region rfl ?_
  refine S.op (S.q (q_move rfl) rfl rfl ?_)
  refine S.op (S.buildSlice (pvs := [(_, _)]) [_] Tryd.underlying47 Tryd.inf3 rfl rfl ⟨⟨rfl, rfl⟩, trivial⟩ rfl rfl ?_)
  intro b13
  refine S.op (S.call Tryd.en44 (vs := [_, _, _, _]) ⟨rfl, rfl, rfl, rfl, trivial⟩ (Put_S b aw1 2 1 (blk b13 3 #[.int .i64 2]) ⟨some ⟨b13, 0, none⟩, 1, 1⟩ [2] rfl (rdBlk (cs := [.int .i64 2]) rfl (by unfold maxLen; omega)) (by omega)) rfl ?_)
  rintro v Θ ⟨rfl, rfl⟩
  rw [show (putR aw1 2 1 [2]).2 = aw2 from rfl]
  first | with_reducible refine S.nilK ?_ | refine S.nil ?_
  refine hK4 _ _ ?_
  refine S.seq fun K5 hK5 => ?_
  refine S.region rfl ?_
  refine S.op (S.q (q_move rfl) rfl rfl ?_)
  refine S.op (S.buildSlice (pvs := [(_, _)]) [_] Tryd.underlying47 Tryd.inf3 rfl rfl ⟨⟨rfl, rfl⟩, trivial⟩ rfl rfl ?_)
  intro b16
  refine S.op (S.call Tryd.en44 (vs := [_, _, _, _]) ⟨rfl, rfl, rfl, rfl, trivial⟩ (Put_S b aw2 3 2 (blk b16 3 #[.int .i64 0]) ⟨some ⟨b16, 0, none⟩, 1, 1⟩ [0] rfl (rdBlk (cs := [.int .i64 0]) rfl (by unfold maxLen; omega)) (by omega)) rfl ?_)
  rintro v Θ ⟨rfl, rfl⟩
  rw [show (putR aw2 3 2 [0]).2 = aw3 from rfl]
  first | with_reducible refine S.nilK ?_ | refine S.nil ?_
  refine hK5 _ _ ?_
  refine S.seq fun K6 hK6 => ?_
  refine S.region rfl ?_
  refine S.op (S.q (q_move rfl) rfl rfl ?_)
  refine S.op (S.call Tryd.en25 (vs := [_]) ⟨rfl, trivial⟩ (Unify_S b aw3 hW) rfl ?_)
  rintro v Θ ⟨c, sv, rfl, hsv, rfl⟩
  rw [show (unifyR aw3).1 = aw4 from rfl]
  rw [f1] at hsv ⊢
  have hsv2 : sv.n = 2 := hsv
  refine S.ownSome sv (by omega) fun sb so hsa _ _ _ => ?_
  refine S.op (S.q (q_move rfl) rfl rfl ?_)
  refine S.op (S.q (q_extract rfl rfl) rfl rfl ?_)
  refine S.op (S.q (q_extract rfl rfl) rfl rfl ?_)
  refine S.op (S.q (q_assign rfl) rfl rfl ?_)
  refine S.op (S.q (q_assign rfl) rfl rfl ?_)
  first | with_reducible refine S.nilK ?_ | refine S.nil ?_
  refine hK6 _ _ ?_
  refine S.seq fun K7 hK7 => ?_
  refine S.regionG ?_
  refine S.g_op rfl (S.q (q_move rfl) rfl rfl ?_)
  refine S.g_op rfl (S.q (q_len Tryd.underlying56 rfl) rfl rfl ?_)
  refine S.g_op rfl (S.q (q_eq rfl rfl) rfl rfl ?_)
  refine S.g_op rfl (S.q (q_move rfl) rfl rfl ?_)
  refine S.g_yes rfl rfl rfl ((decide_eq_true (by omega))) (S.q (q_move rfl) rfl rfl ?_)
  refine S.g_yes rfl rfl rfl ((decide_eq_true (by omega))) (S.q (q_indexO (0) Tryd.el56 rfl hsa rfl (by omega) (by omega)) rfl rfl ?_)
  refine S.g_yes rfl rfl rfl ((decide_eq_true (by omega))) (S.q (q_loadOwS (sv) (0 * 3) [_, _, _] Tryd.ag92 rfl hsa (by first | rfl | exact Nat.add_assoc _ _ _ | omega) rfl (flat_seg (enc := mvC) (sz := 3) (os := [((2, 1, 0) : Mv), (3, 2, 1)]) (i := 0) (x := (2, 1, 0)) (fun _ => rfl) rfl)) rfl rfl ?_)
  refine S.g_yes rfl rfl rfl ((decide_eq_true (by omega))) (S.q (q_build (pvs := [(_, _), (_, _), (_, _)]) [_, _, _] Tryd.z92 Tryd.p92 ⟨⟨rfl, rfl⟩, ⟨rfl, rfl⟩, ⟨rfl, rfl⟩, trivial⟩ rfl) rfl rfl ?_)
  refine S.g_yes rfl rfl rfl ((decide_eq_true (by omega))) (S.q (q_eqMv (2, 1, 0) (2, 1, 0) (.inl rfl) rfl rfl) rfl rfl ?_)
  refine S.g_op rfl (S.q (q_pickT rfl ((decide_eq_true (by omega))) rfl) rfl rfl ?_)
  refine S.g_op rfl (S.q (q_move rfl) rfl rfl ?_)
  refine S.g_yes rfl rfl rfl ((decide_eq_true rfl)) (S.q (q_move rfl) rfl rfl ?_)
  refine S.g_yes rfl rfl rfl ((decide_eq_true rfl)) (S.call Tryd.en38 (vs := [_, _, _]) ⟨rfl, rfl, rfl, trivial⟩ (At_S c aw4 0 2) rfl ?_)
  rintro v Θ ⟨rfl, rfl⟩
  refine S.g_yes rfl rfl rfl ((decide_eq_true rfl)) (S.q (q_eq rfl rfl) rfl rfl ?_)
  refine S.g_op rfl (S.q (q_pickT rfl ((decide_eq_true rfl)) rfl) rfl rfl ?_)
  refine S.g_op rfl (S.q (q_move rfl) rfl rfl ?_)
  refine S.g_yes rfl rfl rfl ((decide_eq_true (by rw [f2]; rfl))) (S.q (q_move rfl) rfl rfl ?_)
  refine S.g_yes rfl rfl rfl ((decide_eq_true (by rw [f2]; rfl))) (S.call Tryd.en38 (vs := [_, _, _]) ⟨rfl, rfl, rfl, trivial⟩ (At_S c aw4 1 0) rfl ?_)
  rintro v Θ ⟨rfl, rfl⟩
  refine S.g_yes rfl rfl rfl ((decide_eq_true (by rw [f2]; rfl))) (S.q (q_eq rfl rfl) rfl rfl ?_)
  refine S.g_op rfl (S.q (q_pickT rfl ((decide_eq_true (by rw [f2]; rfl))) rfl) rfl rfl ?_)
  refine S.g_op rfl (S.q (q_move rfl) rfl rfl ?_)
  refine S.g_yes rfl rfl rfl ((decide_eq_true (by rw [f3]; rfl))) (S.q (q_move rfl) rfl rfl ?_)
  refine S.g_yes rfl rfl rfl ((decide_eq_true (by rw [f3]; rfl))) (S.call Tryd.en31 (vs := [_]) ⟨rfl, trivial⟩ (Used_S c aw4 hW) rfl ?_)
  rintro v Θ ⟨rfl, rfl⟩
  refine S.g_yes rfl rfl rfl ((decide_eq_true (by rw [f3]; rfl))) (S.q (q_eq rfl rfl) rfl rfl ?_)
  refine S.g_op rfl (S.q (q_pickT rfl ((decide_eq_true (by rw [f3]; rfl))) rfl) rfl rfl ?_)
  refine S.g_op rfl (S.q (q_move rfl) rfl rfl ?_)
  refine S.g_yes rfl rfl rfl ((decide_eq_true (by rw [f4]; rfl))) (S.q (q_move rfl) rfl rfl ?_)
  refine S.g_yes rfl rfl rfl ((decide_eq_true (by rw [f4]; rfl))) (S.call Tryd.en38 (vs := [_, _, _]) ⟨rfl, rfl, rfl, trivial⟩ (At_S b aw3 1 2) rfl ?_)
  rintro v Θ ⟨rfl, rfl⟩
  refine S.g_yes rfl rfl rfl ((decide_eq_true (by rw [f4]; rfl))) (S.q (q_eq rfl rfl) rfl rfl ?_)
  refine S.g_op rfl (S.q (q_pickT rfl ((decide_eq_true (by rw [f4]; rfl))) rfl) rfl rfl ?_)
  refine S.g_op rfl (S.q (q_assign rfl) rfl rfl ?_)
  first | with_reducible refine S.g_nilK ?_ | refine S.g_nil ?_
  refine hK7 _ _ ?_
  refine S.ret ?_
  with_reducible repeat (first | refine S.then_n ?_ | refine S.then_x ?_ | refine S.then_r ?_ | refine S.inBlock_n ?_ | refine S.inBlock_r ?_ | refine S.inBlock_x rfl ?_ | refine S.noGoto_r ?_ | refine S.noGoto_n ?_ | refine S.noGoto_x ?_)
  exact S.fin (rs := [_]) (vs := [_]) Tryd.results23 (⟨rfl, trivial⟩)  (⟨by simp only [resV]; rw [f5]; rfl, rfl⟩) Sub.ent
end Go.Proofs.YtmhdapbfpenjpaaDoor
/- Regions that draw their order: an operation that looks at no memory may be taken at any time. Of no program. -/
namespace Go.Proofs.YtmhdapbfpenjpaaDoor
open Go.RowKit
section
variable {P : Program} {ops : Array Oper} {Q : Exit → Act → World → Prop} {H : World → Prop} {late : Nat → Bool}
theorem wpT_firstP {i : Nat} {oi : Oper} {v : Value} (hi : ops[i]? = some oi) (hsel : ∀ (j : Nat) (o : Oper) cs b, ops[j]? = some o → o.op ≠ .select cs b)
    (hQ : ∀ c a w, Q (.panic c) (a.put oi.dst v) w → Q (.panic c) a w) (hni : late i ≠ true) :
    ∀ (fuel : Nat) (listed : Array Bool) (a : Act) (w : World),
      (∀ j oj, ops[j]? = some oj → j ≠ i → listed.getD j true = false → (∀ e ∈ oj.after, Region.binds .any e = true → e.on ≠ i) → oi.apart ops oj = true) →
      i ∈ Region.ready .any ops listed → Yields P ops oi v a → H w →
      wpT P ops Q H late fuel (listed.setIfInBounds i true) (a.put oi.dst v) w → wpT P ops Q H late (fuel + 1) listed a w := by
  have yes : ∀ (fuel : Nat) (listed : Array Bool) (a : Act) (w : World), Yields P ops oi v a → H w → wpT P ops Q H late fuel (listed.setIfInBounds i true) (a.put oi.dst v) w →
      wpOp P ops Q i (fun a' w' => if late i = true then wpAny P .any ops Q fuel (listed.setIfInBounds i true) a' w' else H w' ∧ wpT P ops Q H late fuel (listed.setIfInBounds i true) a' w') a w := by
    intro fuel listed a w hy hS hh
    refine hy.wpOp hi ?_
    simp only [hni]
    exact ⟨hS, hh⟩
  intro fuel
  induction fuel with
  | zero =>
    intro listed a w _ hr hy hS hh
    refine ⟨fun h => (by rw [h] at hr; cases hr), fun j hj => ?_⟩
    by_cases hji : j = i
    · subst hji; exact yes 0 listed a w hy hS hh
    · have := ready_mono hj hji
      rw [hh.1] at this
      cases this
  | succ fuel ih =>
    intro listed a w hfree hr hy hS hh
    refine ⟨fun h => (by rw [h] at hr; cases hr), fun j hj => ?_⟩
    by_cases hji : j = i
    · subst hji; exact yes (fuel + 1) listed a w hy hS hh
    · have h1 := hh.2 j (ready_mono hj hji)
      obtain ⟨hjun, oj, hoj, hall⟩ := mem_ready.1 hj
      have hnot : ∀ e ∈ oj.after, Region.binds .any e = true → e.on ≠ i := fun e he hb heq => by
        have h1 := hall e he hb
        have h0 := (mem_ready.1 hr).1
        rw [heq] at h1
        rcases Nat.lt_or_ge i listed.size with h' | h'
        · simp [h'] at h0 h1; rw [h0] at h1; cases h1
        · simp [Array.getElem?_eq_none h'] at h1
      have h2 := wpOp_put hoj (hfree j oj hoj hji hjun hnot) (fun cs b => hsel i oi cs b hi) (fun cs b => hsel j oj cs b hoj) hQ hy h1
      have hfree' : ∀ k ok, ops[k]? = some ok → k ≠ i → (listed.setIfInBounds j true).getD k true = false →
          (∀ e ∈ ok.after, Region.binds .any e = true → e.on ≠ i) → oi.apart ops ok = true := fun k ok hk hki hun hno => by
        refine hfree k ok hk hki ?_ hno
        by_cases hjk : j = k
        · subst hjk; exact hjun
        · rw [getD_set_ne true hjk] at hun; exact hun
      refine wpOp_mono (fun a' w' h3 => ?_) h2
      obtain ⟨h3, h4⟩ := h3
      by_cases hl : late j = true
      · rw [if_pos hl] at h4 ⊢
        refine wpAny_first hi hsel hQ fuel (listed.setIfInBounds j true) a' w' hfree' (ready_mono hr (Ne.symm hji)) h3 ?_
        rw [Array.setIfInBounds_comm _ _ hji]
        exact h4
      · rw [if_neg hl] at h4 ⊢
        refine ⟨h4.1, ih (listed.setIfInBounds j true) a' w' hfree' (ready_mono hr (Ne.symm hji)) h3 h4.1 ?_⟩
        rw [Array.setIfInBounds_comm _ _ hji]
        exact h4.2
end
def takeOkP (ops : Array Oper) (listed : Array Bool) (i : Nat) (late : List Nat) : Bool :=
  Region.noSelect ops && Region.free .any ops listed i && (Region.ready .any ops listed).contains i && !late.contains i
section
variable {P : Program} {n : Nat} {md : Bool} {w0 : WM md} {ρ : Env} {Γ : List Assn} {Q : Exit → Act → World → Prop} {ops : Array Oper} {d : Nat} {Hs : List Assn} {late : List Nat} {fuel : Nat} {listed : Array Bool}
theorem S.dr_takeP {o : Oper} {v : Value} (i : Nat) (hi : ops[i]? = some o) (hok : takeOkP ops listed i late = true) (hg : o.guard = none) (hd : o.dst = some d) (hn : Nat.blt d n = true) (hy : Qv P n ρ [] o v) (hH : Ent Γ Hs)
    (k : S n w0 ((d, v) :: ρ) Γ (Dr P ops Q Hs late fuel (listed.setIfInBounds i true))) : S n w0 ρ Γ (Dr P ops Q Hs late (fuel + 1) listed) := by
  intro a w ha hs hx
  unfold takeOkP at hok
  simp only [Bool.and_eq_true] at hok
  obtain ⟨⟨⟨h1, h2⟩, h3⟩, h4⟩ := hok
  have hY : Yields P ops o v a := .inl ⟨by simp [Region.wanted, hg], fun w => hy a w ha ⟨HL.emp, HL.emp_le _, trivial⟩⟩
  unfold Dr
  refine wpT_firstP hi (Region.noSelect_spec h1) (fun _ _ _ h => h) (by simpa using h4) fuel listed a w (Region.free_spec hi h2) (by simpa using h3) hY (hs.ent hH) ?_
  rw [hd]
  exact k _ _ (ha.put hn v) hs hx
end
section
variable {P : Program} {n : Nat} {md : Bool} {w0 : WM md} {ρ : Env} {Γ : List Assn} {Q : Exit → Act → World → Prop} {rest : List Oper}
/-- What follows, hidden: so that nobody reckons it ahead of its time. -/
theorem S.opH {o : Oper} (h : ∀ K : Act → World → Prop, (∀ ρ Γ, S n w0 ρ Γ (wpL P Q rest) → S n w0 ρ Γ K) → S n w0 ρ Γ (Ow P Q o K)) : S n w0 ρ Γ (wpL P Q (o :: rest)) := h _ fun _ _ h => h
end
end Go.Proofs.YtmhdapbfpenjpaaDoor
/- slices.Sort at whole numbers of 32 bits: the inner functions, each as the plain one. -/
namespace Go.Proofs.YtmhdapbfpenjpaaDoor
open Go.RowKit
open Go.Sort
set_option maxRecDepth 20000
abbrev uA (d : Array Int) : List Value := d.toList.map (Value.int .u32)
theorem uA_len (d : Array Int) : (uA d).length = d.size := by simp
theorem uA_get {d : Array Int} {i : Nat} (h : i < d.size) : (uA d)[i]? = some (.int .u32 d[i]!) := by simp [h]
theorem uA_set (d : Array Int) (i : Nat) (x : Int) : (uA d).set i (.int .u32 x) = uA (d.setIfInBounds i x) := by simp [uA, List.map_set]
theorem swpZ (d : Array Int) (i j : Nat) : (swp d i j).size = d.size := by simp [swp]
theorem isNaNU_S (x : Int) : Spec Tryd.prog 115 [.int .u32 x] [] fun Γ v Θ => v = .bool false ∧ Θ = Γ := by
  refine Spec.of_body Tryd.func115 rfl Tryd.ntmps115 rfl ?_
  intro w0 Γ
  show S _ w0 [(0, .int .u32 x)] Γ _
  refine S.seq fun K1 hK1 => ?_
  refine S.region rfl ?_
  refine S.op (S.q (q_assign rfl) rfl rfl ?_)
  first | with_reducible refine S.nilK ?_ | refine S.nil ?_
  refine hK1 _ _ ?_
  refine S.seq fun K2 hK2 => ?_
  refine S.region rfl ?_
  refine S.op (S.q (q_move rfl) rfl rfl ?_)
  refine S.op (S.q (q_move rfl) rfl rfl ?_)
  refine S.op (S.q (q_ne rfl rfl) rfl rfl ?_)
  refine S.op (S.q (q_assign rfl) rfl rfl ?_)
  first | with_reducible refine S.nilK ?_ | refine S.nil ?_
  refine hK2 _ _ ?_
  refine S.ret ?_
  with_reducible repeat (first | refine S.then_n ?_ | refine S.then_x ?_ | refine S.then_r ?_ | refine S.inBlock_n ?_ | refine S.inBlock_r ?_ | refine S.inBlock_x rfl ?_ | refine S.noGoto_r ?_ | refine S.noGoto_n ?_ | refine S.noGoto_x ?_)
  exact S.fin (rs := [_]) (vs := [_]) Tryd.results115 (⟨rfl, trivial⟩)  (⟨by simp only [resV]; rw [decide_eq_false (fun h => h rfl)], rfl⟩) Sub.ent
theorem Less_S (x y : Int) : Spec Tryd.prog 127 [.int .u32 x, .int .u32 y] [] fun Γ v Θ => v = .bool (ltInt x y) ∧ Θ = Γ := by
  refine Spec.of_body Tryd.func127 rfl Tryd.ntmps127 rfl ?_
  intro w0 Γ
  show S _ w0 [(0, .int .u32 x), (1, .int .u32 y)] Γ _
  refine S.seq fun K1 hK1 => ?_
  refine S.region rfl ?_
  refine S.op (S.q (q_assign rfl) rfl rfl ?_)
  first | with_reducible refine S.nilK ?_ | refine S.nil ?_
  refine hK1 _ _ ?_
  refine S.seq fun K2 hK2 => ?_
  refine S.regionG ?_
  refine S.g_op rfl (S.q (q_move rfl) rfl rfl ?_)
  refine S.g_op rfl (S.call Tryd.en115 (vs := [_]) ⟨rfl, trivial⟩ (isNaNU_S x) rfl ?_)
  rintro v Θ ⟨rfl, rfl⟩
  refine S.g_op rfl (S.q (q_move rfl) rfl rfl ?_)
  refine S.g_no rfl rfl rfl (rfl) rfl rfl ?_
  refine S.g_no rfl rfl rfl (rfl) rfl rfl ?_
  refine S.g_no rfl rfl rfl (rfl) rfl rfl ?_
  refine S.g_op rfl (S.q (q_pickF rfl (rfl) rfl) rfl rfl ?_)
  refine S.g_op rfl (S.q (q_move rfl) rfl rfl ?_)
  refine S.g_yes rfl rfl rfl (rfl) (S.q (q_move rfl) rfl rfl ?_)
  refine S.g_yes rfl rfl rfl (rfl) (S.q (q_move rfl) rfl rfl ?_)
  refine S.g_yes rfl rfl rfl (rfl) (S.q (q_lt rfl rfl) rfl rfl ?_)
  refine S.g_op rfl (S.q (q_pickF rfl (rfl) rfl) rfl rfl ?_)
  refine S.g_op rfl (S.q (q_assign rfl) rfl rfl ?_)
  first | with_reducible refine S.g_nilK ?_ | refine S.g_nil ?_
  refine hK2 _ _ ?_
  refine S.ret ?_
  with_reducible repeat (first | refine S.then_n ?_ | refine S.then_x ?_ | refine S.then_r ?_ | refine S.inBlock_n ?_ | refine S.inBlock_r ?_ | refine S.inBlock_x rfl ?_ | refine S.noGoto_r ?_ | refine S.noGoto_n ?_ | refine S.noGoto_x ?_)
  exact S.fin (rs := [_]) (vs := [_]) Tryd.results127 (⟨rfl, trivial⟩)  (⟨rfl, rfl⟩) Sub.ent
theorem insInner_stop {a j : Nat} {d : Array Int} (h : ¬ (a < j ∧ ltInt d[j]! d[j - 1]! = true)) : insInner ltInt a j d = d := by
  cases j with
  | zero => rfl
  | succ j =>
    rw [insInner, if_neg]
    simp only [Nat.add_sub_cancel] at h
    simp only [Bool.and_eq_true, decide_eq_true_eq]
    exact h
theorem insInner_step {a j : Nat} {d : Array Int} (h : a < j) (h2 : ltInt d[j]! d[j - 1]! = true) : insInner ltInt a j d = insInner ltInt a (j - 1) (swp d j (j - 1)) := by
  cases j with
  | zero => omega
  | succ j =>
    simp only [Nat.add_sub_cancel] at h2 ⊢
    rw [insInner, if_pos]
    simp only [Bool.and_eq_true, decide_eq_true_eq]
    exact ⟨h, h2⟩
theorem insSort_S (s : SV) (d : Array Int) (a b : Nat) (hab : a ≤ b) (hb : b ≤ d.size) (hsz : d.size ≤ 65535) (hsn : s.n = d.size) : Spec Tryd.prog 121 [s.v, .int .i64 (a : Int), .int .i64 (b : Int)] [own s 44 1 (uA d)] fun Γ _ Θ => Θ = own s 44 1 (uA (insertionSort ltInt d a b)) :: Γ := by
  refine Spec.of_body Tryd.func121 rfl Tryd.ntmps121 rfl ?_
  intro w0 Γ
  show S _ w0 [(0, s.v), (1, .int .i64 (a : Int)), (2, .int .i64 (b : Int))] (own s 44 1 (uA d) :: Γ) _
  refine S.seq fun K1 hK1 => ?_
  refine S.region rfl ?_
  refine S.op (S.q (q_move rfl) rfl rfl ?_)
  refine S.op (S.q (q_add rfl rfl (inI64 (by omega) (by omega))) rfl rfl ?_)
  refine S.op (S.q (q_assign rfl) rfl rfl ?_)
  first | with_reducible refine S.nilK ?_ | refine S.nil ?_
  refine hK1 _ _ ?_
  refine S.block ?_
  refine S.loop (fun q ρ' Γ' => ∃ (i : Nat) (e : Array Int), q = b - i ∧ a + 1 ≤ i ∧ i ≤ 65536 ∧ e.size = d.size ∧ insOuter ltInt a b i e = insertionSort ltInt d a b ∧ ρ' = [(0, s.v), (1, .int .i64 (a : Int)), (2, .int .i64 (b : Int)), (6, .int .i64 (i : Int))] ∧ Γ' = own s 44 1 (uA e) :: Γ) (m := _) (ρ0 := _) (Γ0 := _) (⟨a + 1, d, rfl, by omega, by omega, rfl, rfl, rfl, rfl⟩) (by repeat (first | exact trivial | refine ⟨rfl, ?_⟩)) Sub.ent ?_
  rintro q ρ' Γ' ⟨i, e, hq, hai, hi9, hes, hio, rfl, rfl⟩
  refine S.seq fun K2 hK2 => ?_
  refine S.seq fun K3 hK3 => ?_
  refine S.region rfl ?_
  refine S.op (S.q (q_move rfl) rfl rfl ?_)
  refine S.op (S.q (q_move rfl) rfl rfl ?_)
  refine S.op (S.q (q_lt rfl rfl) rfl rfl ?_)
  first | with_reducible refine S.nilK ?_ | refine S.nil ?_
  refine hK3 _ _ ?_
  refine S.condD rfl (fun h1 => ?_) (fun h1 => ?_)
  · refine S.ownSome s (by omega) fun sb so hsa _ _ _ => ?_
    refine S.skip ?_
    with_reducible repeat (first | refine S.then_n ?_ | refine S.then_x ?_ | refine S.then_r ?_ | refine S.inBlock_n ?_ | refine S.inBlock_r ?_ | refine S.inBlock_x rfl ?_ | refine S.noGoto_r ?_ | refine S.noGoto_n ?_ | refine S.noGoto_x ?_)
    refine hK2 _ _ ?_
    refine S.seq fun K4 hK4 => ?_
    refine S.cut (fun ρ' Γ' => ∃ e2 : Array Int, e2.size = d.size ∧ e2 = insInner ltInt a i e ∧ ρ' = [(0, s.v), (1, .int .i64 (a : Int)), (2, .int .i64 (b : Int)), (6, .int .i64 (i : Int))] ∧ Γ' = own s 44 1 (uA e2) :: Γ) ?_ ?_
    · refine S.block ?_
      refine S.seq fun K5 hK5 => ?_
      refine S.region rfl ?_
      refine S.op (S.q (q_move rfl) rfl rfl ?_)
      refine S.op (S.q (q_assign rfl) rfl rfl ?_)
      first | with_reducible refine S.nilK ?_ | refine S.nil ?_
      refine hK5 _ _ ?_
      refine S.block ?_
      refine S.loop (fun q2 ρ' Γ' => ∃ (j : Nat) (z : Int) (e2 : Array Int), q2 = j ∧ z = j ∧ j ≤ i ∧ e2.size = d.size ∧ insInner ltInt a j e2 = insInner ltInt a i e ∧ ρ' = [(0, s.v), (1, .int .i64 (a : Int)), (2, .int .i64 (b : Int)), (6, .int .i64 (i : Int)), (7, .int .i64 z)] ∧ Γ' = own s 44 1 (uA e2) :: Γ) (m := _) (ρ0 := _) (Γ0 := _) (⟨i, i, e, rfl, rfl, Nat.le_refl _, hes, rfl, rfl, rfl⟩) (by repeat (first | exact trivial | refine ⟨rfl, ?_⟩)) Sub.ent ?_
      rintro q2 ρ' Γ' ⟨j, z, e2, hq2, hz, hji, he2, hin, rfl, rfl⟩
      refine S.seq fun K6 hK6 => ?_
      refine S.seq fun K7 hK7 => ?_
      refine S.draw ([own s 44 1 (uA e2)]) [] Tryd.mixed ?_
      refine S.dr_take 0 [] rfl (by kernel_rfl) rfl rfl rfl (q_move rfl) Sub.ent ?_
      refine S.dr_take 1 [] rfl (by kernel_rfl) rfl rfl rfl (q_move rfl) Sub.ent ?_
      refine S.dr_take 2 [] rfl (by kernel_rfl) rfl rfl rfl (q_gt rfl rfl) Sub.ent ?_
      refine S.dr_take 3 [] rfl (by kernel_rfl) rfl rfl rfl (q_move rfl) Sub.ent ?_
      by_cases hg4_3 : (a : Int) < z
      · refine S.dr_takeY 4 [] rfl (by kernel_rfl) rfl rfl rfl (decide_eq_true hg4_3) rfl rfl (q_move rfl) Sub.ent ?_
        refine S.dr_takeY 5 [] rfl (by kernel_rfl) rfl rfl rfl (decide_eq_true hg4_3) rfl rfl (q_move rfl) Sub.ent ?_
        refine S.dr_takeY 6 [] rfl (by kernel_rfl) rfl rfl rfl (decide_eq_true hg4_3) rfl rfl (q_indexO (j) Tryd.el31 rfl hsa rfl hz (by omega)) Sub.ent ?_
        refine S.dr_takeY 7 [] rfl (by kernel_rfl) rfl rfl rfl (decide_eq_true hg4_3) rfl rfl (q_loadOw (s) (j) Tryd.at44 rfl hsa (by first | rfl | exact Nat.add_assoc _ _ _ | omega) (uA_get (by omega))) Sub.ent ?_
        refine S.dr_takeY 8 [] rfl (by kernel_rfl) rfl rfl rfl (decide_eq_true hg4_3) rfl rfl (q_move rfl) Sub.ent ?_
        refine S.dr_takeY 9 [] rfl (by kernel_rfl) rfl rfl rfl (decide_eq_true hg4_3) rfl rfl (q_move rfl) Sub.ent ?_
        refine S.dr_takeY 10 [] rfl (by kernel_rfl) rfl rfl rfl (decide_eq_true hg4_3) rfl rfl (q_sub rfl rfl (inI64 (by omega) (by omega))) Sub.ent ?_
        refine S.dr_takeY 11 [] rfl (by kernel_rfl) rfl rfl rfl (decide_eq_true hg4_3) rfl rfl (q_indexO (j - 1) Tryd.el31 rfl hsa rfl (by omega) (by omega)) Sub.ent ?_
        refine S.dr_takeY 12 [] rfl (by kernel_rfl) rfl rfl rfl (decide_eq_true hg4_3) rfl rfl (q_loadOw (s) (j - 1) Tryd.at44 rfl hsa (by first | rfl | exact Nat.add_assoc _ _ _ | omega) (uA_get (by omega))) Sub.ent ?_
        refine S.dr_1Y (i := 13) (by kernel_rfl) rfl rfl rfl rfl (decide_eq_true hg4_3) ?_
        refine  (S.call Tryd.en127 (vs := [_, _]) ⟨rfl, rfl, trivial⟩ (Less_S (e2[j]!) (e2[j - 1]!)) rfl ?_)
        rintro v Θ ⟨rfl, rfl⟩
        refine S.dr_k rfl Sub.ent ?_
        refine S.dr_take 14 [] rfl (by kernel_rfl) rfl rfl rfl (q_pickT rfl (decide_eq_true hg4_3) rfl) Sub.ent ?_
        first | with_reducible refine S.dr_doneK (by kernel_rfl) ?_ | refine S.dr_done (by kernel_rfl) ?_
        refine hK7 _ _ ?_
        refine S.cond rfl (fun h2 => ?_) (fun h2 => ?_)
        · have hst := insInner_step (a := a) (j := j) (d := e2) (by omega) h2
          rw [hin] at hst
          refine S.skip ?_
          with_reducible repeat (first | refine S.then_n ?_ | refine S.then_x ?_ | refine S.then_r ?_ | refine S.inBlock_n ?_ | refine S.inBlock_r ?_ | refine S.inBlock_x rfl ?_ | refine S.noGoto_r ?_ | refine S.noGoto_n ?_ | refine S.noGoto_x ?_)
          refine hK6 _ _ ?_
          refine S.seq fun K8 hK8 => ?_
          refine S.block ?_
          refine S.draw ([own s 44 1 (uA e2)]) [15] Tryd.mixed ?_
          refine S.dr_take 0 [14, 15, 16, 17] rfl (by kernel_rfl) rfl rfl rfl (q_move rfl) Sub.ent ?_
          refine S.dr_take 1 [14, 15, 16, 17] rfl (by kernel_rfl) rfl rfl rfl (q_move rfl) Sub.ent ?_
          refine S.dr_takeP 2 rfl (by kernel_rfl) rfl rfl rfl (q_move rfl) Sub.ent ?_
          refine S.dr_takeP 3 rfl (by kernel_rfl) rfl rfl rfl (q_move rfl) Sub.ent ?_
          refine S.dr_takeP 4 rfl (by kernel_rfl) rfl rfl rfl (q_sub rfl rfl (inI64 (by omega) (by omega))) Sub.ent ?_
          refine S.dr_take 5 [8, 9, 14, 15, 16, 17] rfl (by kernel_rfl) rfl rfl rfl (q_move rfl) Sub.ent ?_
          refine S.dr_take 6 [7, 8, 9, 14, 15, 16, 17] rfl (by kernel_rfl) rfl rfl rfl (q_move rfl) Sub.ent ?_
          refine S.dr_take 7 [8, 9, 14, 15, 16, 17] rfl (by kernel_rfl) rfl rfl rfl (q_sub rfl rfl (inI64 (by omega) (by omega))) Sub.ent ?_
          refine S.dr_take 8 [9, 14, 15, 16, 17] rfl (by kernel_rfl) rfl rfl rfl (q_indexO (j - 1) Tryd.el31 rfl hsa rfl (by omega) (by omega)) Sub.ent ?_
          refine S.dr_take 9 [14, 15, 16, 17] rfl (by kernel_rfl) rfl rfl rfl (q_loadOw (s) (j - 1) Tryd.at44 rfl hsa (by first | rfl | exact Nat.add_assoc _ _ _ | omega) (uA_get (by omega))) Sub.ent ?_
          refine S.dr_take 10 [12, 13, 14, 15, 16, 17] rfl (by kernel_rfl) rfl rfl rfl (q_move rfl) Sub.ent ?_
          refine S.dr_take 11 [12, 13, 14, 15, 16, 17] rfl (by kernel_rfl) rfl rfl rfl (q_move rfl) Sub.ent ?_
          refine S.dr_take 12 [13, 14, 15, 16, 17] rfl (by kernel_rfl) rfl rfl rfl (q_indexO (j) Tryd.el31 rfl hsa rfl hz (by omega)) Sub.ent ?_
          refine S.dr_take 13 [14, 15, 16, 17] rfl (by kernel_rfl) rfl rfl rfl (q_loadOw (s) (j) Tryd.at44 rfl hsa (by first | rfl | exact Nat.add_assoc _ _ _ | omega) (uA_get (by omega))) Sub.ent ?_
          refine S.dr_take 14 [15, 16, 17] rfl (by kernel_rfl) rfl rfl rfl (q_indexO (j) Tryd.el31 rfl hsa rfl hz (by omega)) Sub.ent ?_
          refine S.dr_1 (i := 15) (by kernel_rfl) rfl rfl ?_
          refine  (S.storeOw (s) (j) Tryd.at44 rfl rfl rfl hsa (by first | rfl | exact Nat.add_assoc _ _ _ | omega) (by rw [uA_len]; omega) (uA_set _ _ _) ?_)
          refine S.dr_late ([]) [] rfl ?_
          refine S.dr_take 16 [] rfl (by kernel_rfl) rfl rfl rfl (q_indexO (j - 1) Tryd.el31 rfl hsa rfl (by omega) (by omega)) Sub.ent ?_
          refine S.dr_1 (i := 17) (by kernel_rfl) rfl rfl ?_
          refine  (S.storeOw (s) (j - 1) Tryd.at44 rfl rfl rfl hsa (by first | rfl | exact Nat.add_assoc _ _ _ | omega) (by rw [uA_len, Array.size_setIfInBounds]; omega) (show _ = uA (Go.Sort.swp e2 (j) (j - 1)) from uA_set _ _ _) ?_)
          refine S.dr_k rfl Sub.ent ?_
          first | with_reducible refine S.dr_doneK (by kernel_rfl) ?_ | refine S.dr_done (by kernel_rfl) ?_
          with_reducible repeat (first | refine S.then_n ?_ | refine S.then_x ?_ | refine S.then_r ?_ | refine S.inBlock_n ?_ | refine S.inBlock_r ?_ | refine S.inBlock_x rfl ?_ | refine S.noGoto_r ?_ | refine S.noGoto_n ?_ | refine S.noGoto_x ?_)
          refine hK8 _ _ ?_
          refine S.region rfl ?_
          refine S.op (S.q (q_move rfl) rfl rfl ?_)
          refine S.op (S.q (q_sub rfl rfl (inI64 (by omega) (by omega))) rfl rfl ?_)
          refine S.op (S.q (q_assign rfl) rfl rfl ?_)
          first | with_reducible refine S.nilK ?_ | refine S.nil ?_
          with_reducible repeat (first | refine S.then_n ?_ | refine S.then_x ?_ | refine S.then_r ?_ | refine S.inBlock_n ?_ | refine S.inBlock_r ?_ | refine S.inBlock_x rfl ?_ | refine S.noGoto_r ?_ | refine S.noGoto_n ?_ | refine S.noGoto_x ?_)
          exact S.next (j - 1) (⟨j - 1, z - 1, swp e2 j (j - 1), rfl, by omega, by omega, by rw [swpZ, he2], hst.symm, rfl, rfl⟩) (by omega) (by repeat (first | exact trivial | refine ⟨rfl, ?_⟩)) Sub.ent
        · have hst : insInner ltInt a j e2 = e2 := insInner_stop (fun h => by rw [h.2] at h2; cases h2)
          refine S.exit ?_
          with_reducible repeat (first | refine S.then_n ?_ | refine S.then_x ?_ | refine S.then_r ?_ | refine S.inBlock_n ?_ | refine S.inBlock_r ?_ | refine S.inBlock_x rfl ?_ | refine S.noGoto_r ?_ | refine S.noGoto_n ?_ | refine S.noGoto_x ?_)
          with_reducible refine S.inBlock_s ?_
          with_reducible repeat (first | refine S.then_n ?_ | refine S.then_x ?_ | refine S.then_r ?_ | refine S.inBlock_n ?_ | refine S.inBlock_r ?_ | refine S.inBlock_x rfl ?_ | refine S.noGoto_r ?_ | refine S.noGoto_n ?_ | refine S.noGoto_x ?_)
          with_reducible repeat (first | refine S.then_n ?_ | refine S.then_x ?_ | refine S.then_r ?_ | refine S.inBlock_n ?_ | refine S.inBlock_r ?_ | refine S.inBlock_x rfl ?_ | refine S.noGoto_r ?_ | refine S.noGoto_n ?_ | refine S.noGoto_x ?_)
          with_reducible repeat (first | refine S.then_n ?_ | refine S.then_x ?_ | refine S.then_r ?_ | refine S.inBlock_n ?_ | refine S.inBlock_r ?_ | refine S.inBlock_x rfl ?_ | refine S.noGoto_r ?_ | refine S.noGoto_n ?_ | refine S.noGoto_x ?_)
          exact S.meet ⟨e2, he2, hst.symm.trans hin, rfl, rfl⟩ ⟨rfl, rfl, rfl, rfl, trivial⟩ Sub.ent
      · have hst : insInner ltInt a j e2 = e2 := insInner_stop (fun h => hg4_3 (by omega))
        refine S.dr_takeN 4 [] rfl (by kernel_rfl) rfl rfl rfl (decide_eq_false hg4_3) rfl rfl Sub.ent ?_
        refine S.dr_takeN 5 [] rfl (by kernel_rfl) rfl rfl rfl (decide_eq_false hg4_3) rfl rfl Sub.ent ?_
        refine S.dr_takeN 6 [] rfl (by kernel_rfl) rfl rfl rfl (decide_eq_false hg4_3) rfl rfl Sub.ent ?_
        refine S.dr_takeN 7 [] rfl (by kernel_rfl) rfl rfl rfl (decide_eq_false hg4_3) rfl rfl Sub.ent ?_
        refine S.dr_takeN 8 [] rfl (by kernel_rfl) rfl rfl rfl (decide_eq_false hg4_3) rfl rfl Sub.ent ?_
        refine S.dr_takeN 9 [] rfl (by kernel_rfl) rfl rfl rfl (decide_eq_false hg4_3) rfl rfl Sub.ent ?_
        refine S.dr_takeN 10 [] rfl (by kernel_rfl) rfl rfl rfl (decide_eq_false hg4_3) rfl rfl Sub.ent ?_
        refine S.dr_takeN 11 [] rfl (by kernel_rfl) rfl rfl rfl (decide_eq_false hg4_3) rfl rfl Sub.ent ?_
        refine S.dr_takeN 12 [] rfl (by kernel_rfl) rfl rfl rfl (decide_eq_false hg4_3) rfl rfl Sub.ent ?_
        refine S.dr_takeN 13 [] rfl (by kernel_rfl) rfl rfl rfl (decide_eq_false hg4_3) rfl rfl Sub.ent ?_
        refine S.dr_take 14 [] rfl (by kernel_rfl) rfl rfl rfl (q_pickF rfl (decide_eq_false hg4_3) rfl) Sub.ent ?_
        first | with_reducible refine S.dr_doneK (by kernel_rfl) ?_ | refine S.dr_done (by kernel_rfl) ?_
        refine hK7 _ _ ?_
        refine S.condF rfl ?_
        refine S.exit ?_
        with_reducible repeat (first | refine S.then_n ?_ | refine S.then_x ?_ | refine S.then_r ?_ | refine S.inBlock_n ?_ | refine S.inBlock_r ?_ | refine S.inBlock_x rfl ?_ | refine S.noGoto_r ?_ | refine S.noGoto_n ?_ | refine S.noGoto_x ?_)
        with_reducible refine S.inBlock_s ?_
        with_reducible repeat (first | refine S.then_n ?_ | refine S.then_x ?_ | refine S.then_r ?_ | refine S.inBlock_n ?_ | refine S.inBlock_r ?_ | refine S.inBlock_x rfl ?_ | refine S.noGoto_r ?_ | refine S.noGoto_n ?_ | refine S.noGoto_x ?_)
        with_reducible repeat (first | refine S.then_n ?_ | refine S.then_x ?_ | refine S.then_r ?_ | refine S.inBlock_n ?_ | refine S.inBlock_r ?_ | refine S.inBlock_x rfl ?_ | refine S.noGoto_r ?_ | refine S.noGoto_n ?_ | refine S.noGoto_x ?_)
        with_reducible repeat (first | refine S.then_n ?_ | refine S.then_x ?_ | refine S.then_r ?_ | refine S.inBlock_n ?_ | refine S.inBlock_r ?_ | refine S.inBlock_x rfl ?_ | refine S.noGoto_r ?_ | refine S.noGoto_n ?_ | refine S.noGoto_x ?_)
        exact S.meet ⟨e2, he2, hst.symm.trans hin, rfl, rfl⟩ ⟨rfl, rfl, rfl, rfl, trivial⟩ Sub.ent
    · rintro ρ' Γ' ⟨e2, he2, hin, rfl, rfl⟩
      refine hK4 _ _ ?_
      refine S.region rfl ?_
      refine S.op (S.q (q_move rfl) rfl rfl ?_)
      refine S.op (S.q (q_add rfl rfl (inI64 (by omega) (by omega))) rfl rfl ?_)
      refine S.op (S.q (q_assign rfl) rfl rfl ?_)
      first | with_reducible refine S.nilK ?_ | refine S.nil ?_
      with_reducible repeat (first | refine S.then_n ?_ | refine S.then_x ?_ | refine S.then_r ?_ | refine S.inBlock_n ?_ | refine S.inBlock_r ?_ | refine S.inBlock_x rfl ?_ | refine S.noGoto_r ?_ | refine S.noGoto_n ?_ | refine S.noGoto_x ?_)
      exact S.next (q - 1) (⟨i + 1, e2, by omega, by omega, by omega, he2, by rw [hin, ← hio]; conv => rhs; rw [insOuter, if_pos (by omega)], rfl, rfl⟩) (by omega) (by repeat (first | exact trivial | refine ⟨rfl, ?_⟩)) Sub.ent
  · refine S.exit ?_
    with_reducible repeat (first | refine S.then_n ?_ | refine S.then_x ?_ | refine S.then_r ?_ | refine S.inBlock_n ?_ | refine S.inBlock_r ?_ | refine S.inBlock_x rfl ?_ | refine S.noGoto_r ?_ | refine S.noGoto_n ?_ | refine S.noGoto_x ?_)
    with_reducible refine S.inBlock_s ?_
    with_reducible repeat (first | refine S.then_n ?_ | refine S.then_x ?_ | refine S.then_r ?_ | refine S.inBlock_n ?_ | refine S.inBlock_r ?_ | refine S.inBlock_x rfl ?_ | refine S.noGoto_r ?_ | refine S.noGoto_n ?_ | refine S.noGoto_x ?_)
    with_reducible repeat (first | refine S.then_n ?_ | refine S.then_x ?_ | refine S.then_r ?_ | refine S.inBlock_n ?_ | refine S.inBlock_r ?_ | refine S.inBlock_x rfl ?_ | refine S.noGoto_r ?_ | refine S.noGoto_n ?_ | refine S.noGoto_x ?_)
    exact S.finN (rs := []) (vs := []) Tryd.results121 (trivial)  (by have hfin : insertionSort ltInt d a b = e := (by rw [← hio, insOuter, if_neg (by omega)]); rw [hfin]) Sub.ent
theorem sift_sizeN (hi F : Nat) : ∀ (n r : Nat) (d : Array Int), hi - r ≤ n → (siftDown ltInt hi F r d).size = d.size
  | 0, r, d, h => by rw [siftDown, dif_pos (by omega)]
  | n + 1, r, d, h => by
    rw [siftDown]
    split
    · rfl
    split
    · split
      · rfl
      split
      · rw [sift_sizeN hi F n _ _ (by omega), swpZ]
      · rfl
    · split
      · rfl
      · rw [sift_sizeN hi F n _ _ (by omega), swpZ]
theorem sift_size (hi F r : Nat) (d : Array Int) : (siftDown ltInt hi F r d).size = d.size := sift_sizeN hi F _ r d (Nat.le_refl _)
theorem siftDown_S (s : SV) (d : Array Int) (lo hi F : Nat) (hF : F + hi ≤ d.size) (hlo : lo ≤ 65535) (hsz : d.size ≤ 65535) (hsn : s.n = d.size) : Spec Tryd.prog 139 [s.v, .int .i64 (lo : Int), .int .i64 (hi : Int), .int .i64 (F : Int)] [own s 44 1 (uA d)] fun Γ _ Θ => Θ = own s 44 1 (uA (siftDown ltInt hi F lo d)) :: Γ := by
  refine Spec.of_body Tryd.func139 rfl Tryd.ntmps139 rfl ?_
  intro w0 Γ
  show S _ w0 [(0, s.v), (1, .int .i64 (lo : Int)), (2, .int .i64 (hi : Int)), (3, .int .i64 (F : Int))] (own s 44 1 (uA d) :: Γ) _
  refine S.seq fun K1 hK1 => ?_
  refine S.region rfl ?_
  refine S.op (S.q (q_move rfl) rfl rfl ?_)
  refine S.op (S.q (q_assign rfl) rfl rfl ?_)
  first | with_reducible refine S.nilK ?_ | refine S.nil ?_
  refine hK1 _ _ ?_
  refine S.block ?_
  refine S.loop (fun q ρ' Γ' => ∃ (r : Nat) (z : Int) (e : Array Int), q = hi - r ∧ z = r ∧ r ≤ 65535 ∧ e.size = d.size ∧ siftDown ltInt hi F r e = siftDown ltInt hi F lo d ∧ ρ' = [(0, s.v), (1, .int .i64 (lo : Int)), (2, .int .i64 (hi : Int)), (3, .int .i64 (F : Int)), (8, .int .i64 z)] ∧ Γ' = own s 44 1 (uA e) :: Γ) (m := _) (ρ0 := _) (Γ0 := _) (⟨lo, lo, d, rfl, rfl, hlo, rfl, rfl, rfl, rfl⟩) (by repeat (first | exact trivial | refine ⟨rfl, ?_⟩)) Sub.ent ?_
  rintro q ρ' Γ' ⟨r, z, e, hq, hz, hr9, hes, hsd, rfl, rfl⟩
  refine S.block ?_
  refine S.seq fun K2 hK2 => ?_
  refine S.region rfl ?_
  refine S.op (S.q (q_move rfl) rfl rfl ?_)
  refine S.op (S.q (q_mul rfl rfl (inI64 (by omega) (by omega))) rfl rfl ?_)
  refine S.op (S.q (q_add rfl rfl (inI64 (by omega) (by omega))) rfl rfl ?_)
  refine S.op (S.q (q_assign rfl) rfl rfl ?_)
  first | with_reducible refine S.nilK ?_ | refine S.nil ?_
  refine hK2 _ _ ?_
  refine S.seq fun K3 hK3 => ?_
  refine S.seq fun K4 hK4 => ?_
  refine S.region rfl ?_
  refine S.op (S.q (q_move rfl) rfl rfl ?_)
  refine S.op (S.q (q_move rfl) rfl rfl ?_)
  refine S.op (S.q (q_ge rfl rfl) rfl rfl ?_)
  first | with_reducible refine S.nilK ?_ | refine S.nil ?_
  refine hK4 _ _ ?_
  refine S.condD rfl (fun h1 => ?_) (fun h1 => ?_)
  · have hfin : e = siftDown ltInt hi F lo d := by rw [← hsd, siftDown, dif_pos (by omega)]
    refine S.exit ?_
    with_reducible repeat (first | refine S.then_n ?_ | refine S.then_x ?_ | refine S.then_r ?_ | refine S.inBlock_n ?_ | refine S.inBlock_r ?_ | refine S.inBlock_x rfl ?_ | refine S.noGoto_r ?_ | refine S.noGoto_n ?_ | refine S.noGoto_x ?_)
    with_reducible refine S.inBlock_s ?_
    with_reducible repeat (first | refine S.then_n ?_ | refine S.then_x ?_ | refine S.then_r ?_ | refine S.inBlock_n ?_ | refine S.inBlock_r ?_ | refine S.inBlock_x rfl ?_ | refine S.noGoto_r ?_ | refine S.noGoto_n ?_ | refine S.noGoto_x ?_)
    with_reducible repeat (first | refine S.then_n ?_ | refine S.then_x ?_ | refine S.then_r ?_ | refine S.inBlock_n ?_ | refine S.inBlock_r ?_ | refine S.inBlock_x rfl ?_ | refine S.noGoto_r ?_ | refine S.noGoto_n ?_ | refine S.noGoto_x ?_)
    exact S.finN (rs := []) (vs := []) Tryd.results139 (trivial)  (by rw [← hfin]) Sub.ent
  · refine S.ownSome s (by omega) fun sb so hsa _ _ _ => ?_
    have hno : ¬ (2 * r + 1 ≥ hi) := by omega
    refine S.skip ?_
    with_reducible repeat (first | refine S.then_n ?_ | refine S.then_x ?_ | refine S.then_r ?_ | refine S.inBlock_n ?_ | refine S.inBlock_r ?_ | refine S.inBlock_x rfl ?_ | refine S.noGoto_r ?_ | refine S.noGoto_n ?_ | refine S.noGoto_x ?_)
    refine hK3 _ _ ?_
    refine S.seq fun K5 hK5 => ?_
    refine S.seq fun K6 hK6 => ?_
    refine S.cut (fun ρ' Γ' => ∃ bb : Bool, bb = (decide (2 * r + 1 + 1 < hi) && ltInt e[F + (2 * r + 1)]! e[F + (2 * r + 1) + 1]!) ∧ ρ' = [(0, s.v), (1, .int .i64 (lo : Int)), (2, .int .i64 (hi : Int)), (3, .int .i64 (F : Int)), (8, .int .i64 z), (9, .int .i64 (2 * z + 1)), (36, .bool bb)] ∧ Γ' = own s 44 1 (uA e) :: Γ) ?_ ?_
    · refine S.draw ([own s 44 1 (uA e)]) [] Tryd.mixed ?_
      refine S.dr_take 0 [] rfl (by kernel_rfl) rfl rfl rfl (q_move rfl) Sub.ent ?_
      refine S.dr_take 1 [] rfl (by kernel_rfl) rfl rfl rfl (q_add rfl rfl (inI64 (by omega) (by omega))) Sub.ent ?_
      refine S.dr_take 2 [] rfl (by kernel_rfl) rfl rfl rfl (q_move rfl) Sub.ent ?_
      refine S.dr_take 3 [] rfl (by kernel_rfl) rfl rfl rfl (q_lt rfl rfl) Sub.ent ?_
      refine S.dr_take 4 [] rfl (by kernel_rfl) rfl rfl rfl (q_move rfl) Sub.ent ?_
      by_cases hg3_4 : 2 * z + 1 + 1 < (hi : Int)
      · refine S.dr_takeY 5 [] rfl (by kernel_rfl) rfl rfl rfl (decide_eq_true hg3_4) rfl rfl (q_move rfl) Sub.ent ?_
        refine S.dr_takeY 6 [] rfl (by kernel_rfl) rfl rfl rfl (decide_eq_true hg3_4) rfl rfl (q_move rfl) Sub.ent ?_
        refine S.dr_takeY 7 [] rfl (by kernel_rfl) rfl rfl rfl (decide_eq_true hg3_4) rfl rfl (q_move rfl) Sub.ent ?_
        refine S.dr_takeY 8 [] rfl (by kernel_rfl) rfl rfl rfl (decide_eq_true hg3_4) rfl rfl (q_add rfl rfl (inI64 (by omega) (by omega))) Sub.ent ?_
        refine S.dr_takeY 9 [] rfl (by kernel_rfl) rfl rfl rfl (decide_eq_true hg3_4) rfl rfl (q_indexO (F + (2 * r + 1)) Tryd.el31 rfl hsa rfl (by omega) (by omega)) Sub.ent ?_
        refine S.dr_takeY 10 [] rfl (by kernel_rfl) rfl rfl rfl (decide_eq_true hg3_4) rfl rfl (q_loadOw (s) (F + (2 * r + 1)) Tryd.at44 rfl hsa (by first | rfl | exact Nat.add_assoc _ _ _ | omega) (uA_get (by omega))) Sub.ent ?_
        refine S.dr_takeY 11 [] rfl (by kernel_rfl) rfl rfl rfl (decide_eq_true hg3_4) rfl rfl (q_move rfl) Sub.ent ?_
        refine S.dr_takeY 12 [] rfl (by kernel_rfl) rfl rfl rfl (decide_eq_true hg3_4) rfl rfl (q_move rfl) Sub.ent ?_
        refine S.dr_takeY 13 [] rfl (by kernel_rfl) rfl rfl rfl (decide_eq_true hg3_4) rfl rfl (q_move rfl) Sub.ent ?_
        refine S.dr_takeY 14 [] rfl (by kernel_rfl) rfl rfl rfl (decide_eq_true hg3_4) rfl rfl (q_add rfl rfl (inI64 (by omega) (by omega))) Sub.ent ?_
        refine S.dr_takeY 15 [] rfl (by kernel_rfl) rfl rfl rfl (decide_eq_true hg3_4) rfl rfl (q_add rfl rfl (inI64 (by omega) (by omega))) Sub.ent ?_
        refine S.dr_takeY 16 [] rfl (by kernel_rfl) rfl rfl rfl (decide_eq_true hg3_4) rfl rfl (q_indexO (F + (2 * r + 1) + 1) Tryd.el31 rfl hsa rfl (by omega) (by omega)) Sub.ent ?_
        refine S.dr_takeY 17 [] rfl (by kernel_rfl) rfl rfl rfl (decide_eq_true hg3_4) rfl rfl (q_loadOw (s) (F + (2 * r + 1) + 1) Tryd.at44 rfl hsa (by first | rfl | exact Nat.add_assoc _ _ _ | omega) (uA_get (by omega))) Sub.ent ?_
        refine S.dr_1Y (i := 18) (by kernel_rfl) rfl rfl rfl rfl (decide_eq_true hg3_4) ?_
        refine  (S.call Tryd.en127 (vs := [_, _]) ⟨rfl, rfl, trivial⟩ (Less_S (e[F + (2 * r + 1)]!) (e[F + (2 * r + 1) + 1]!)) rfl ?_)
        rintro v Θ ⟨rfl, rfl⟩
        refine S.dr_k rfl Sub.ent ?_
        refine S.dr_take 19 [] rfl (by kernel_rfl) rfl rfl rfl (q_pickT rfl (decide_eq_true hg3_4) rfl) Sub.ent ?_
        first | with_reducible refine S.dr_doneK (by kernel_rfl) ?_ | refine S.dr_done (by kernel_rfl) ?_
        with_reducible repeat (first | refine S.then_n ?_ | refine S.then_x ?_ | refine S.then_r ?_ | refine S.inBlock_n ?_ | refine S.inBlock_r ?_ | refine S.inBlock_x rfl ?_ | refine S.noGoto_r ?_ | refine S.noGoto_n ?_ | refine S.noGoto_x ?_)
        first | (exact S.meet ⟨_, by rw [decide_eq_true (show 2 * r + 1 + 1 < hi by omega)]; rfl, rfl, rfl⟩ ⟨rfl, rfl, rfl, rfl, rfl, rfl, rfl, trivial⟩ Sub.ent) | (exact S.meet ⟨_, by rw [decide_eq_false (show ¬ 2 * r + 1 + 1 < hi by omega)]; rfl, rfl, rfl⟩ ⟨rfl, rfl, rfl, rfl, rfl, rfl, rfl, trivial⟩ Sub.ent)
      · refine S.dr_takeN 5 [] rfl (by kernel_rfl) rfl rfl rfl (decide_eq_false hg3_4) rfl rfl Sub.ent ?_
        refine S.dr_takeN 6 [] rfl (by kernel_rfl) rfl rfl rfl (decide_eq_false hg3_4) rfl rfl Sub.ent ?_
        refine S.dr_takeN 7 [] rfl (by kernel_rfl) rfl rfl rfl (decide_eq_false hg3_4) rfl rfl Sub.ent ?_
        refine S.dr_takeN 8 [] rfl (by kernel_rfl) rfl rfl rfl (decide_eq_false hg3_4) rfl rfl Sub.ent ?_
        refine S.dr_takeN 9 [] rfl (by kernel_rfl) rfl rfl rfl (decide_eq_false hg3_4) rfl rfl Sub.ent ?_
        refine S.dr_takeN 10 [] rfl (by kernel_rfl) rfl rfl rfl (decide_eq_false hg3_4) rfl rfl Sub.ent ?_
        refine S.dr_takeN 11 [] rfl (by kernel_rfl) rfl rfl rfl (decide_eq_false hg3_4) rfl rfl Sub.ent ?_
        refine S.dr_takeN 12 [] rfl (by kernel_rfl) rfl rfl rfl (decide_eq_false hg3_4) rfl rfl Sub.ent ?_
        refine S.dr_takeN 13 [] rfl (by kernel_rfl) rfl rfl rfl (decide_eq_false hg3_4) rfl rfl Sub.ent ?_
        refine S.dr_takeN 14 [] rfl (by kernel_rfl) rfl rfl rfl (decide_eq_false hg3_4) rfl rfl Sub.ent ?_
        refine S.dr_takeN 15 [] rfl (by kernel_rfl) rfl rfl rfl (decide_eq_false hg3_4) rfl rfl Sub.ent ?_
        refine S.dr_takeN 16 [] rfl (by kernel_rfl) rfl rfl rfl (decide_eq_false hg3_4) rfl rfl Sub.ent ?_
        refine S.dr_takeN 17 [] rfl (by kernel_rfl) rfl rfl rfl (decide_eq_false hg3_4) rfl rfl Sub.ent ?_
        refine S.dr_takeN 18 [] rfl (by kernel_rfl) rfl rfl rfl (decide_eq_false hg3_4) rfl rfl Sub.ent ?_
        refine S.dr_take 19 [] rfl (by kernel_rfl) rfl rfl rfl (q_pickF rfl (decide_eq_false hg3_4) rfl) Sub.ent ?_
        first | with_reducible refine S.dr_doneK (by kernel_rfl) ?_ | refine S.dr_done (by kernel_rfl) ?_
        with_reducible repeat (first | refine S.then_n ?_ | refine S.then_x ?_ | refine S.then_r ?_ | refine S.inBlock_n ?_ | refine S.inBlock_r ?_ | refine S.inBlock_x rfl ?_ | refine S.noGoto_r ?_ | refine S.noGoto_n ?_ | refine S.noGoto_x ?_)
        first | (exact S.meet ⟨_, by rw [decide_eq_true (show 2 * r + 1 + 1 < hi by omega)]; rfl, rfl, rfl⟩ ⟨rfl, rfl, rfl, rfl, rfl, rfl, rfl, trivial⟩ Sub.ent) | (exact S.meet ⟨_, by rw [decide_eq_false (show ¬ 2 * r + 1 + 1 < hi by omega)]; rfl, rfl, rfl⟩ ⟨rfl, rfl, rfl, rfl, rfl, rfl, rfl, trivial⟩ Sub.ent)
    · rintro ρ' Γ' ⟨bb, hbb, rfl, rfl⟩
      refine hK6 _ _ ?_
      refine S.cut (fun ρ' Γ' => ∃ (c : Nat) (zc : Int), zc = c ∧ r < c ∧ c < hi ∧ (siftDown ltInt hi F r e = if (!ltInt e[F + r]! e[F + c]!) = true then e else siftDown ltInt hi F c (swp e (F + r) (F + c))) ∧ ρ' = [(0, s.v), (1, .int .i64 (lo : Int)), (2, .int .i64 (hi : Int)), (3, .int .i64 (F : Int)), (8, .int .i64 z), (9, .int .i64 zc)] ∧ Γ' = own s 44 1 (uA e) :: Γ) ?_ ?_
      · refine S.cond rfl (fun h2 => ?_) (fun h2 => ?_)
        · rw [h2] at hbb
          have hb2 : 2 * r + 2 < hi := by
            have := hbb.symm
            rw [Bool.and_eq_true, decide_eq_true_eq] at this
            omega
          have hstep : siftDown ltInt hi F r e = if (!ltInt e[F + r]! e[F + (2 * r + 2)]!) = true then e else siftDown ltInt hi F (2 * r + 2) (swp e (F + r) (F + (2 * r + 2))) := by
            conv => lhs; rw [siftDown, dif_neg hno, if_pos hbb.symm, dif_pos hb2]
          refine S.region rfl ?_
          refine S.op (S.q (q_move rfl) rfl rfl ?_)
          refine S.op (S.q (q_add rfl rfl (inI64 (by omega) (by omega))) rfl rfl ?_)
          refine S.op (S.q (q_assign rfl) rfl rfl ?_)
          first | with_reducible refine S.nilK ?_ | refine S.nil ?_
          with_reducible repeat (first | refine S.then_n ?_ | refine S.then_x ?_ | refine S.then_r ?_ | refine S.inBlock_n ?_ | refine S.inBlock_r ?_ | refine S.inBlock_x rfl ?_ | refine S.noGoto_r ?_ | refine S.noGoto_n ?_ | refine S.noGoto_x ?_)
          first | exact S.meet ⟨2 * r + 2, 2 * z + 1 + 1, by omega, by omega, hb2, hstep, rfl, rfl⟩ ⟨rfl, rfl, rfl, rfl, rfl, rfl, trivial⟩ Sub.ent | exact S.meet ⟨2 * r + 1, 2 * z + 1, by omega, by omega, hb2, hstep, rfl, rfl⟩ ⟨rfl, rfl, rfl, rfl, rfl, rfl, trivial⟩ Sub.ent
        · rw [h2] at hbb
          have hb2 : 2 * r + 1 < hi := by omega
          have hstep : siftDown ltInt hi F r e = if (!ltInt e[F + r]! e[F + (2 * r + 1)]!) = true then e else siftDown ltInt hi F (2 * r + 1) (swp e (F + r) (F + (2 * r + 1))) := by
            conv => lhs; rw [siftDown, dif_neg hno, if_neg (by rw [← hbb]; simp)]
          refine S.skip ?_
          with_reducible repeat (first | refine S.then_n ?_ | refine S.then_x ?_ | refine S.then_r ?_ | refine S.inBlock_n ?_ | refine S.inBlock_r ?_ | refine S.inBlock_x rfl ?_ | refine S.noGoto_r ?_ | refine S.noGoto_n ?_ | refine S.noGoto_x ?_)
          with_reducible repeat (first | refine S.then_n ?_ | refine S.then_x ?_ | refine S.then_r ?_ | refine S.inBlock_n ?_ | refine S.inBlock_r ?_ | refine S.inBlock_x rfl ?_ | refine S.noGoto_r ?_ | refine S.noGoto_n ?_ | refine S.noGoto_x ?_)
          first | exact S.meet ⟨2 * r + 2, 2 * z + 1 + 1, by omega, by omega, hb2, hstep, rfl, rfl⟩ ⟨rfl, rfl, rfl, rfl, rfl, rfl, trivial⟩ Sub.ent | exact S.meet ⟨2 * r + 1, 2 * z + 1, by omega, by omega, hb2, hstep, rfl, rfl⟩ ⟨rfl, rfl, rfl, rfl, rfl, rfl, trivial⟩ Sub.ent
      · rintro ρ' Γ' ⟨c, zc, hzc, hrc, hch, hstep, rfl, rfl⟩
        refine hK5 _ _ ?_
        refine S.seq fun K7 hK7 => ?_
        refine S.seq fun K8 hK8 => ?_
        refine S.draw ([own s 44 1 (uA e)]) [] Tryd.mixed ?_
        refine S.dr_take 0 [] rfl (by kernel_rfl) rfl rfl rfl (q_move rfl) Sub.ent ?_
        refine S.dr_take 1 [] rfl (by kernel_rfl) rfl rfl rfl (q_move rfl) Sub.ent ?_
        refine S.dr_take 2 [] rfl (by kernel_rfl) rfl rfl rfl (q_move rfl) Sub.ent ?_
        refine S.dr_take 3 [] rfl (by kernel_rfl) rfl rfl rfl (q_add rfl rfl (inI64 (by omega) (by omega))) Sub.ent ?_
        refine S.dr_take 4 [] rfl (by kernel_rfl) rfl rfl rfl (q_indexO (F + r) Tryd.el31 rfl hsa rfl (by omega) (by omega)) Sub.ent ?_
        refine S.dr_take 5 [] rfl (by kernel_rfl) rfl rfl rfl (q_loadOw (s) (F + r) Tryd.at44 rfl hsa (by first | rfl | exact Nat.add_assoc _ _ _ | omega) (uA_get (by omega))) Sub.ent ?_
        refine S.dr_take 6 [] rfl (by kernel_rfl) rfl rfl rfl (q_move rfl) Sub.ent ?_
        refine S.dr_take 7 [] rfl (by kernel_rfl) rfl rfl rfl (q_move rfl) Sub.ent ?_
        refine S.dr_take 8 [] rfl (by kernel_rfl) rfl rfl rfl (q_move rfl) Sub.ent ?_
        refine S.dr_take 9 [] rfl (by kernel_rfl) rfl rfl rfl (q_add rfl rfl (inI64 (by omega) (by omega))) Sub.ent ?_
        refine S.dr_take 10 [] rfl (by kernel_rfl) rfl rfl rfl (q_indexO (F + c) Tryd.el31 rfl hsa rfl (by omega) (by omega)) Sub.ent ?_
        refine S.dr_take 11 [] rfl (by kernel_rfl) rfl rfl rfl (q_loadOw (s) (F + c) Tryd.at44 rfl hsa (by first | rfl | exact Nat.add_assoc _ _ _ | omega) (uA_get (by omega))) Sub.ent ?_
        refine S.dr_1 (i := 12) (by kernel_rfl) rfl rfl ?_
        refine  (S.call Tryd.en127 (vs := [_, _]) ⟨rfl, rfl, trivial⟩ (Less_S (e[F + r]!) (e[F + c]!)) rfl ?_)
        rintro v Θ ⟨rfl, rfl⟩
        refine S.dr_k rfl Sub.ent ?_
        refine S.dr_take 13 [] rfl (by kernel_rfl) rfl rfl rfl (q_not rfl) Sub.ent ?_
        first | with_reducible refine S.dr_doneK (by kernel_rfl) ?_ | refine S.dr_done (by kernel_rfl) ?_
        refine hK8 _ _ ?_
        refine S.cond rfl (fun h3 => ?_) (fun h3 => ?_)
        · have hfin : e = siftDown ltInt hi F lo d := by rw [← hsd, hstep, if_pos h3]
          refine S.ret ?_
          with_reducible repeat (first | refine S.then_n ?_ | refine S.then_x ?_ | refine S.then_r ?_ | refine S.inBlock_n ?_ | refine S.inBlock_r ?_ | refine S.inBlock_x rfl ?_ | refine S.noGoto_r ?_ | refine S.noGoto_n ?_ | refine S.noGoto_x ?_)
          exact S.fin (rs := []) (vs := []) Tryd.results139 (trivial)  (by rw [← hfin]) Sub.ent
        · have hfin : siftDown ltInt hi F c (swp e (F + r) (F + c)) = siftDown ltInt hi F lo d := by rw [← hsd, hstep, if_neg (by rw [h3]; simp)]
          refine S.skip ?_
          with_reducible repeat (first | refine S.then_n ?_ | refine S.then_x ?_ | refine S.then_r ?_ | refine S.inBlock_n ?_ | refine S.inBlock_r ?_ | refine S.inBlock_x rfl ?_ | refine S.noGoto_r ?_ | refine S.noGoto_n ?_ | refine S.noGoto_x ?_)
          refine hK7 _ _ ?_
          refine S.seq fun K9 hK9 => ?_
          refine S.draw ([own s 44 1 (uA e)]) [21] Tryd.mixed ?_
          refine S.dr_take 0 [20, 21, 22, 23] rfl (by kernel_rfl) rfl rfl rfl (q_move rfl) Sub.ent ?_
          refine S.dr_take 1 [3, 20, 21, 22, 23] rfl (by kernel_rfl) rfl rfl rfl (q_move rfl) Sub.ent ?_
          refine S.dr_take 2 [3, 20, 21, 22, 23] rfl (by kernel_rfl) rfl rfl rfl (q_move rfl) Sub.ent ?_
          refine S.dr_take 3 [20, 21, 22, 23] rfl (by kernel_rfl) rfl rfl rfl (q_add rfl rfl (inI64 (by omega) (by omega))) Sub.ent ?_
          refine S.dr_takeP 4 rfl (by kernel_rfl) rfl rfl rfl (q_move rfl) Sub.ent ?_
          refine S.dr_takeP 5 rfl (by kernel_rfl) rfl rfl rfl (q_move rfl) Sub.ent ?_
          refine S.dr_takeP 6 rfl (by kernel_rfl) rfl rfl rfl (q_move rfl) Sub.ent ?_
          refine S.dr_takeP 7 rfl (by kernel_rfl) rfl rfl rfl (q_add rfl rfl (inI64 (by omega) (by omega))) Sub.ent ?_
          refine S.dr_take 8 [12, 13, 20, 21, 22, 23] rfl (by kernel_rfl) rfl rfl rfl (q_move rfl) Sub.ent ?_
          refine S.dr_take 9 [11, 12, 13, 20, 21, 22, 23] rfl (by kernel_rfl) rfl rfl rfl (q_move rfl) Sub.ent ?_
          refine S.dr_take 10 [11, 12, 13, 20, 21, 22, 23] rfl (by kernel_rfl) rfl rfl rfl (q_move rfl) Sub.ent ?_
          refine S.dr_take 11 [12, 13, 20, 21, 22, 23] rfl (by kernel_rfl) rfl rfl rfl (q_add rfl rfl (inI64 (by omega) (by omega))) Sub.ent ?_
          refine S.dr_take 12 [13, 20, 21, 22, 23] rfl (by kernel_rfl) rfl rfl rfl (q_indexO (F + c) Tryd.el31 rfl hsa rfl (by omega) (by omega)) Sub.ent ?_
          refine S.dr_take 13 [20, 21, 22, 23] rfl (by kernel_rfl) rfl rfl rfl (q_loadOw (s) (F + c) Tryd.at44 rfl hsa (by first | rfl | exact Nat.add_assoc _ _ _ | omega) (uA_get (by omega))) Sub.ent ?_
          refine S.dr_take 14 [18, 19, 20, 21, 22, 23] rfl (by kernel_rfl) rfl rfl rfl (q_move rfl) Sub.ent ?_
          refine S.dr_take 15 [17, 18, 19, 20, 21, 22, 23] rfl (by kernel_rfl) rfl rfl rfl (q_move rfl) Sub.ent ?_
          refine S.dr_take 16 [17, 18, 19, 20, 21, 22, 23] rfl (by kernel_rfl) rfl rfl rfl (q_move rfl) Sub.ent ?_
          refine S.dr_take 17 [18, 19, 20, 21, 22, 23] rfl (by kernel_rfl) rfl rfl rfl (q_add rfl rfl (inI64 (by omega) (by omega))) Sub.ent ?_
          refine S.dr_take 18 [19, 20, 21, 22, 23] rfl (by kernel_rfl) rfl rfl rfl (q_indexO (F + r) Tryd.el31 rfl hsa rfl (by omega) (by omega)) Sub.ent ?_
          refine S.dr_take 19 [20, 21, 22, 23] rfl (by kernel_rfl) rfl rfl rfl (q_loadOw (s) (F + r) Tryd.at44 rfl hsa (by first | rfl | exact Nat.add_assoc _ _ _ | omega) (uA_get (by omega))) Sub.ent ?_
          refine S.dr_take 20 [21, 22, 23] rfl (by kernel_rfl) rfl rfl rfl (q_indexO (F + r) Tryd.el31 rfl hsa rfl (by omega) (by omega)) Sub.ent ?_
          refine S.dr_1 (i := 21) (by kernel_rfl) rfl rfl ?_
          refine  (S.storeOw (s) (F + r) Tryd.at44 rfl rfl rfl hsa (by first | rfl | exact Nat.add_assoc _ _ _ | omega) (by rw [uA_len]; omega) (uA_set _ _ _) ?_)
          refine S.dr_late ([]) [] rfl ?_
          refine S.dr_take 22 [] rfl (by kernel_rfl) rfl rfl rfl (q_indexO (F + c) Tryd.el31 rfl hsa rfl (by omega) (by omega)) Sub.ent ?_
          refine S.dr_1 (i := 23) (by kernel_rfl) rfl rfl ?_
          refine  (S.storeOw (s) (F + c) Tryd.at44 rfl rfl rfl hsa (by first | rfl | exact Nat.add_assoc _ _ _ | omega) (by rw [uA_len, Array.size_setIfInBounds]; omega) (show _ = uA (Go.Sort.swp e (F + r) (F + c)) from uA_set _ _ _) ?_)
          refine S.dr_k rfl Sub.ent ?_
          first | with_reducible refine S.dr_doneK (by kernel_rfl) ?_ | refine S.dr_done (by kernel_rfl) ?_
          refine hK9 _ _ ?_
          refine S.region rfl ?_
          refine S.op (S.q (q_move rfl) rfl rfl ?_)
          refine S.op (S.q (q_assign rfl) rfl rfl ?_)
          first | with_reducible refine S.nilK ?_ | refine S.nil ?_
          with_reducible repeat (first | refine S.then_n ?_ | refine S.then_x ?_ | refine S.then_r ?_ | refine S.inBlock_n ?_ | refine S.inBlock_r ?_ | refine S.inBlock_x rfl ?_ | refine S.noGoto_r ?_ | refine S.noGoto_n ?_ | refine S.noGoto_x ?_)
          with_reducible repeat (first | refine S.then_n ?_ | refine S.then_x ?_ | refine S.then_r ?_ | refine S.inBlock_n ?_ | refine S.inBlock_r ?_ | refine S.inBlock_x rfl ?_ | refine S.noGoto_r ?_ | refine S.noGoto_n ?_ | refine S.noGoto_x ?_)
          exact S.next (hi - c) (⟨c, zc, swp e (F + r) (F + c), rfl, hzc, by omega, by rw [swpZ, hes], hfin, rfl, rfl⟩) (by omega) (by repeat (first | exact trivial | refine ⟨rfl, ?_⟩)) Sub.ent
theorem heapSort_S (s : SV) (d : Array Int) (a b : Nat) (hab : a < b) (hb : b ≤ d.size) (hsz : d.size ≤ 65535) (hsn : s.n = d.size) : Spec Tryd.prog 122 [s.v, .int .i64 (a : Int), .int .i64 (b : Int)] [own s 44 1 (uA d)] fun Γ _ Θ => Θ = own s 44 1 (uA (heapSort ltInt d a b)) :: Γ := by
  refine Spec.of_body Tryd.func122 rfl Tryd.ntmps122 rfl ?_
  intro w0 Γ
  show S _ w0 [(0, s.v), (1, .int .i64 (a : Int)), (2, .int .i64 (b : Int))] (own s 44 1 (uA d) :: Γ) _
  have hsift : ∀ hi F lo (e : Array Int), F + hi ≤ e.size → lo ≤ 65535 → e.size = d.size → (siftDown ltInt hi F lo e).size = d.size := fun hi F lo e h1 _ h3 => by
    rw [sift_size, h3]
  refine S.seq fun K1 hK1 => ?_
  refine S.region rfl ?_
  refine S.op (S.q (q_move rfl) rfl rfl ?_)
  refine S.op (S.q (q_assign rfl) rfl rfl ?_)
  first | with_reducible refine S.nilK ?_ | refine S.nil ?_
  refine hK1 _ _ ?_
  refine S.seq fun K2 hK2 => ?_
  refine S.region rfl ?_
  refine S.op (S.q (q_assign rfl) rfl rfl ?_)
  first | with_reducible refine S.nilK ?_ | refine S.nil ?_
  refine hK2 _ _ ?_
  refine S.seq fun K3 hK3 => ?_
  refine S.region rfl ?_
  refine S.op (S.q (q_move rfl) rfl rfl ?_)
  refine S.op (S.q (q_move rfl) rfl rfl ?_)
  refine S.op (S.q (q_sub rfl rfl (inI64 (by omega) (by omega))) rfl rfl ?_)
  refine S.op (S.q (q_assign rfl) rfl rfl ?_)
  first | with_reducible refine S.nilK ?_ | refine S.nil ?_
  refine hK3 _ _ ?_
  refine S.seq fun K4 hK4 => ?_
  refine S.seq fun K5 hK5 => ?_
  refine S.region rfl ?_
  refine S.op (S.q (q_move rfl) rfl rfl ?_)
  refine S.op (S.q (q_sub rfl rfl (inI64 (by omega) (by omega))) rfl rfl ?_)
  refine S.op (S.q (q_quo rfl rfl (⟨by omega, by omega⟩) (inI64 (by omega) (by omega))) rfl rfl ?_)
  refine S.op (S.q (q_assign rfl) rfl rfl ?_)
  first | with_reducible refine S.nilK ?_ | refine S.nil ?_
  refine hK5 _ _ ?_
  refine S.block ?_
  refine S.loop (fun q ρ' Γ' => ∃ (k : Nat) (z : Int) (e : Array Int), q = k ∧ z = (k : Int) - 1 ∧ k ≤ 65535 ∧ e.size = d.size ∧ heapBuild ltInt (b - a) a k e = heapBuild ltInt (b - a) a ((b - a - 1) / 2 + 1) d ∧ ρ' = [(0, s.v), (6, .int .i64 (a : Int)), (7, .int .i64 0), (8, .int .i64 ((b : Int) - a)), (9, .int .i64 z)] ∧ Γ' = own s 44 1 (uA e) :: Γ) (m := _) (ρ0 := _) (Γ0 := _) (⟨(b - a - 1) / 2 + 1, ((b : Int) - a - 1) / 2, d, rfl, by omega, by omega, rfl, rfl, rfl, rfl⟩) (by repeat (first | exact trivial | refine ⟨rfl, ?_⟩)) Sub.ent ?_
  rintro q ρ' Γ' ⟨k, z, e, hq, hz, hk9, hes, hhb, rfl, rfl⟩
  refine S.seq fun K6 hK6 => ?_
  refine S.seq fun K7 hK7 => ?_
  refine S.region rfl ?_
  refine S.op (S.q (q_move rfl) rfl rfl ?_)
  refine S.op (S.q (q_ge rfl rfl) rfl rfl ?_)
  first | with_reducible refine S.nilK ?_ | refine S.nil ?_
  refine hK7 _ _ ?_
  refine S.condD rfl (fun h1 => ?_) (fun h1 => ?_)
  · obtain ⟨k, rfl⟩ : ∃ k', k = k' + 1 := ⟨k - 1, by omega⟩
    refine S.skip ?_
    with_reducible repeat (first | refine S.then_n ?_ | refine S.then_x ?_ | refine S.then_r ?_ | refine S.inBlock_n ?_ | refine S.inBlock_r ?_ | refine S.inBlock_x rfl ?_ | refine S.noGoto_r ?_ | refine S.noGoto_n ?_ | refine S.noGoto_x ?_)
    refine hK6 _ _ ?_
    refine S.seq fun K8 hK8 => ?_
    refine S.block ?_
    refine S.region rfl ?_
    refine S.op (S.q (q_move rfl) rfl rfl ?_)
    refine S.op (S.q (q_move rfl) rfl rfl ?_)
    refine S.op (S.q (q_move rfl) rfl rfl ?_)
    refine S.op (S.q (q_move rfl) rfl rfl ?_)
    refine S.op (S.call Tryd.en139 (vs := [_, _, _, _]) ⟨rfl, rfl, rfl, rfl, trivial⟩ ((by rw [show z = (k : Int) by omega, show ((b : Int) - a) = ((b - a : Nat) : Int) by omega]; exact siftDown_S s e k (b - a) a (by omega) (by omega) (by omega) (by omega))) rfl ?_)
    rintro v Θ rfl
    first | with_reducible refine S.nilK ?_ | refine S.nil ?_
    with_reducible repeat (first | refine S.then_n ?_ | refine S.then_x ?_ | refine S.then_r ?_ | refine S.inBlock_n ?_ | refine S.inBlock_r ?_ | refine S.inBlock_x rfl ?_ | refine S.noGoto_r ?_ | refine S.noGoto_n ?_ | refine S.noGoto_x ?_)
    refine hK8 _ _ ?_
    refine S.region rfl ?_
    refine S.op (S.q (q_move rfl) rfl rfl ?_)
    refine S.op (S.q (q_sub rfl rfl (inI64 (by omega) (by omega))) rfl rfl ?_)
    refine S.op (S.q (q_assign rfl) rfl rfl ?_)
    first | with_reducible refine S.nilK ?_ | refine S.nil ?_
    with_reducible repeat (first | refine S.then_n ?_ | refine S.then_x ?_ | refine S.then_r ?_ | refine S.inBlock_n ?_ | refine S.inBlock_r ?_ | refine S.inBlock_x rfl ?_ | refine S.noGoto_r ?_ | refine S.noGoto_n ?_ | refine S.noGoto_x ?_)
    exact S.next (k) (⟨k, z - 1, siftDown ltInt (b - a) a k e, rfl, by omega, by omega, hsift _ _ _ _ (by omega) (by omega) hes, hhb, rfl, rfl⟩) (by omega) (by repeat (first | exact trivial | refine ⟨rfl, ?_⟩)) Sub.ent
  · have hk0 : k = 0 := by omega
    subst hk0
    have hhb : e = heapBuild ltInt (b - a) a ((b - a - 1) / 2 + 1) d := hhb
    have hhs : heapSort ltInt d a b = heapPop ltInt a (b - a) e := by rw [hhb]; rfl
    refine S.ownSome s (by omega) fun sb so hsa _ _ _ => ?_
    refine S.exit ?_
    with_reducible repeat (first | refine S.then_n ?_ | refine S.then_x ?_ | refine S.then_r ?_ | refine S.inBlock_n ?_ | refine S.inBlock_r ?_ | refine S.inBlock_x rfl ?_ | refine S.noGoto_r ?_ | refine S.noGoto_n ?_ | refine S.noGoto_x ?_)
    with_reducible refine S.inBlock_s ?_
    with_reducible repeat (first | refine S.then_n ?_ | refine S.then_x ?_ | refine S.then_r ?_ | refine S.inBlock_n ?_ | refine S.inBlock_r ?_ | refine S.inBlock_x rfl ?_ | refine S.noGoto_r ?_ | refine S.noGoto_n ?_ | refine S.noGoto_x ?_)
    refine hK4 _ _ ?_
    refine S.seq fun K9 hK9 => ?_
    refine S.region rfl ?_
    refine S.op (S.q (q_move rfl) rfl rfl ?_)
    refine S.op (S.q (q_sub rfl rfl (inI64 (by omega) (by omega))) rfl rfl ?_)
    refine S.op (S.q (q_assign rfl) rfl rfl ?_)
    first | with_reducible refine S.nilK ?_ | refine S.nil ?_
    refine hK9 _ _ ?_
    refine S.block ?_
    refine S.loop (fun q ρ' Γ' => ∃ (k : Nat) (z : Int) (e : Array Int), q = k ∧ z = (k : Int) - 1 ∧ k ≤ b - a ∧ e.size = d.size ∧ heapPop ltInt a k e = heapSort ltInt d a b ∧ ρ' = [(0, s.v), (6, .int .i64 (a : Int)), (7, .int .i64 0), (10, .int .i64 z)] ∧ Γ' = own s 44 1 (uA e) :: Γ) (m := _) (ρ0 := _) (Γ0 := _) (⟨b - a, ((b : Int) - a) - 1, e, rfl, by omega, by omega, hes, hhs.symm, rfl, rfl⟩) (by repeat (first | exact trivial | refine ⟨rfl, ?_⟩)) Sub.ent ?_
    rintro q ρ' Γ' ⟨k, z, e, hq, hz, hk9, hes, hhb, rfl, rfl⟩
    refine S.seq fun K10 hK10 => ?_
    refine S.seq fun K11 hK11 => ?_
    refine S.region rfl ?_
    refine S.op (S.q (q_move rfl) rfl rfl ?_)
    refine S.op (S.q (q_ge rfl rfl) rfl rfl ?_)
    first | with_reducible refine S.nilK ?_ | refine S.nil ?_
    refine hK11 _ _ ?_
    refine S.condD rfl (fun h2 => ?_) (fun h2 => ?_)
    · obtain ⟨k, rfl⟩ : ∃ k', k = k' + 1 := ⟨k - 1, by omega⟩
      refine S.skip ?_
      with_reducible repeat (first | refine S.then_n ?_ | refine S.then_x ?_ | refine S.then_r ?_ | refine S.inBlock_n ?_ | refine S.inBlock_r ?_ | refine S.inBlock_x rfl ?_ | refine S.noGoto_r ?_ | refine S.noGoto_n ?_ | refine S.noGoto_x ?_)
      refine hK10 _ _ ?_
      refine S.seq fun K12 hK12 => ?_
      refine S.block ?_
      refine S.seq fun K13 hK13 => ?_
      refine S.draw ([own s 44 1 (uA e)]) [17] Tryd.mixed ?_
      refine S.dr_take 0 [16, 17, 18, 19] rfl (by kernel_rfl) rfl rfl rfl (q_move rfl) Sub.ent ?_
      refine S.dr_take 1 [16, 17, 18, 19] rfl (by kernel_rfl) rfl rfl rfl (q_move rfl) Sub.ent ?_
      refine S.dr_takeP 2 rfl (by kernel_rfl) rfl rfl rfl (q_move rfl) Sub.ent ?_
      refine S.dr_takeP 3 rfl (by kernel_rfl) rfl rfl rfl (q_move rfl) Sub.ent ?_
      refine S.dr_takeP 4 rfl (by kernel_rfl) rfl rfl rfl (q_move rfl) Sub.ent ?_
      refine S.dr_takeP 5 rfl (by kernel_rfl) rfl rfl rfl (q_add rfl rfl (inI64 (by omega) (by omega))) Sub.ent ?_
      refine S.dr_take 6 [10, 11, 16, 17, 18, 19] rfl (by kernel_rfl) rfl rfl rfl (q_move rfl) Sub.ent ?_
      refine S.dr_take 7 [9, 10, 11, 16, 17, 18, 19] rfl (by kernel_rfl) rfl rfl rfl (q_move rfl) Sub.ent ?_
      refine S.dr_take 8 [9, 10, 11, 16, 17, 18, 19] rfl (by kernel_rfl) rfl rfl rfl (q_move rfl) Sub.ent ?_
      refine S.dr_take 9 [10, 11, 16, 17, 18, 19] rfl (by kernel_rfl) rfl rfl rfl (q_add rfl rfl (inI64 (by omega) (by omega))) Sub.ent ?_
      refine S.dr_take 10 [11, 16, 17, 18, 19] rfl (by kernel_rfl) rfl rfl rfl (q_indexO (a + k) Tryd.el31 rfl hsa rfl (by omega) (by omega)) Sub.ent ?_
      refine S.dr_take 11 [16, 17, 18, 19] rfl (by kernel_rfl) rfl rfl rfl (q_loadOw (s) (a + k) Tryd.at44 rfl hsa (by first | rfl | exact Nat.add_assoc _ _ _ | omega) (uA_get (by omega))) Sub.ent ?_
      refine S.dr_take 12 [14, 15, 16, 17, 18, 19] rfl (by kernel_rfl) rfl rfl rfl (q_move rfl) Sub.ent ?_
      refine S.dr_take 13 [14, 15, 16, 17, 18, 19] rfl (by kernel_rfl) rfl rfl rfl (q_move rfl) Sub.ent ?_
      refine S.dr_take 14 [15, 16, 17, 18, 19] rfl (by kernel_rfl) rfl rfl rfl (q_indexO (a) Tryd.el31 rfl hsa rfl rfl (by omega)) Sub.ent ?_
      refine S.dr_take 15 [16, 17, 18, 19] rfl (by kernel_rfl) rfl rfl rfl (q_loadOw (s) (a) Tryd.at44 rfl hsa (by first | rfl | exact Nat.add_assoc _ _ _ | omega) (uA_get (by omega))) Sub.ent ?_
      refine S.dr_take 16 [17, 18, 19] rfl (by kernel_rfl) rfl rfl rfl (q_indexO (a) Tryd.el31 rfl hsa rfl rfl (by omega)) Sub.ent ?_
      refine S.dr_1 (i := 17) (by kernel_rfl) rfl rfl ?_
      refine  (S.storeOw (s) (a) Tryd.at44 rfl rfl rfl hsa (by first | rfl | exact Nat.add_assoc _ _ _ | omega) (by rw [uA_len]; omega) (uA_set _ _ _) ?_)
      refine S.dr_late ([]) [] rfl ?_
      refine S.dr_take 18 [] rfl (by kernel_rfl) rfl rfl rfl (q_indexO (a + k) Tryd.el31 rfl hsa rfl (by omega) (by omega)) Sub.ent ?_
      refine S.dr_1 (i := 19) (by kernel_rfl) rfl rfl ?_
      refine  (S.storeOw (s) (a + k) Tryd.at44 rfl rfl rfl hsa (by first | rfl | exact Nat.add_assoc _ _ _ | omega) (by rw [uA_len, Array.size_setIfInBounds]; omega) (show _ = uA (Go.Sort.swp e (a) (a + k)) from uA_set _ _ _) ?_)
      refine S.dr_k rfl Sub.ent ?_
      first | with_reducible refine S.dr_doneK (by kernel_rfl) ?_ | refine S.dr_done (by kernel_rfl) ?_
      refine hK13 _ _ ?_
      refine S.region rfl ?_
      refine S.op (S.q (q_move rfl) rfl rfl ?_)
      refine S.op (S.q (q_move rfl) rfl rfl ?_)
      refine S.op (S.q (q_move rfl) rfl rfl ?_)
      refine S.op (S.q (q_move rfl) rfl rfl ?_)
      refine S.op (S.call Tryd.en139 (vs := [_, _, _, _]) ⟨rfl, rfl, rfl, rfl, trivial⟩ ((by rw [show z = (k : Int) by omega]; exact siftDown_S s (swp e a (a + k)) 0 k a (by rw [swpZ]; omega) (by omega) (by rw [swpZ]; omega) (by rw [swpZ]; omega))) rfl ?_)
      rintro v Θ rfl
      first | with_reducible refine S.nilK ?_ | refine S.nil ?_
      with_reducible repeat (first | refine S.then_n ?_ | refine S.then_x ?_ | refine S.then_r ?_ | refine S.inBlock_n ?_ | refine S.inBlock_r ?_ | refine S.inBlock_x rfl ?_ | refine S.noGoto_r ?_ | refine S.noGoto_n ?_ | refine S.noGoto_x ?_)
      refine hK12 _ _ ?_
      refine S.region rfl ?_
      refine S.op (S.q (q_move rfl) rfl rfl ?_)
      refine S.op (S.q (q_sub rfl rfl (inI64 (by omega) (by omega))) rfl rfl ?_)
      refine S.op (S.q (q_assign rfl) rfl rfl ?_)
      first | with_reducible refine S.nilK ?_ | refine S.nil ?_
      with_reducible repeat (first | refine S.then_n ?_ | refine S.then_x ?_ | refine S.then_r ?_ | refine S.inBlock_n ?_ | refine S.inBlock_r ?_ | refine S.inBlock_x rfl ?_ | refine S.noGoto_r ?_ | refine S.noGoto_n ?_ | refine S.noGoto_x ?_)
      exact S.next (k) (⟨k, z - 1, siftDown ltInt k a 0 (swp e a (a + k)), rfl, by omega, by omega, hsift _ _ _ _ (by rw [swpZ]; omega) (by omega) (by rw [swpZ, hes]), hhb, rfl, rfl⟩) (by omega) (by repeat (first | exact trivial | refine ⟨rfl, ?_⟩)) Sub.ent
    · refine S.exit ?_
      with_reducible repeat (first | refine S.then_n ?_ | refine S.then_x ?_ | refine S.then_r ?_ | refine S.inBlock_n ?_ | refine S.inBlock_r ?_ | refine S.inBlock_x rfl ?_ | refine S.noGoto_r ?_ | refine S.noGoto_n ?_ | refine S.noGoto_x ?_)
      with_reducible refine S.inBlock_s ?_
      with_reducible repeat (first | refine S.then_n ?_ | refine S.then_x ?_ | refine S.then_r ?_ | refine S.inBlock_n ?_ | refine S.inBlock_r ?_ | refine S.inBlock_x rfl ?_ | refine S.noGoto_r ?_ | refine S.noGoto_n ?_ | refine S.noGoto_x ?_)
      with_reducible repeat (first | refine S.then_n ?_ | refine S.then_x ?_ | refine S.then_r ?_ | refine S.inBlock_n ?_ | refine S.inBlock_r ?_ | refine S.inBlock_x rfl ?_ | refine S.noGoto_r ?_ | refine S.noGoto_n ?_ | refine S.noGoto_x ?_)
      exact S.finN (rs := []) (vs := []) Tryd.results122 (trivial)  (by have hk0 : k = 0 := (by omega); subst hk0; have hhb : e = heapSort ltInt d a b := hhb; rw [← hhb]) Sub.ent
end Go.Proofs.YtmhdapbfpenjpaaDoor
/- slices.Sort at whole numbers of 32 bits: what chooses, what scatters, what is partly in order. -/
namespace Go.Proofs.YtmhdapbfpenjpaaDoor
open Go.RowKit
open Go.Sort
set_option maxRecDepth 20000
theorem PermIn.sizeZ {a b : Nat} {d e : Array Int} (h : PermIn a b d e) : e.size = d.size := h.1
theorem PermIn.swpZ {a b i j : Nat} {d e : Array Int} (h : PermIn a b d e) (h1 : a ≤ i) (h2 : i < b) (h3 : a ≤ j) (h4 : j < b) (hb : b ≤ d.size) : PermIn a b d (swp e i j) :=
  permIn_trans _ _ _ _ _ h (swp_permIn e a b i j h1 h2 h3 h4 (by rw [h.1]; exact hb))
theorem reverse_S (s : SV) (d : Array Int) (a b : Nat) (hab : a < b) (hb : b ≤ d.size) (hsz : d.size ≤ 65535) (hsn : s.n = d.size) : Spec Tryd.prog 125 [s.v, .int .i64 (a : Int), .int .i64 (b : Int)] [own s 44 1 (uA d)] fun Γ _ Θ => ∃ e, PermIn a b d e ∧ Θ = own s 44 1 (uA e) :: Γ := by
  refine Spec.of_body Tryd.func125 rfl Tryd.ntmps125 rfl ?_
  intro w0 Γ
  show S _ w0 [(0, s.v), (1, .int .i64 (a : Int)), (2, .int .i64 (b : Int))] (own s 44 1 (uA d) :: Γ) _
  refine S.ownSome s (by omega) fun sb so hsa _ _ _ => ?_
  refine S.seq fun K1 hK1 => ?_
  refine S.region rfl ?_
  refine S.op (S.q (q_move rfl) rfl rfl ?_)
  refine S.op (S.q (q_assign rfl) rfl rfl ?_)
  first | with_reducible refine S.nilK ?_ | refine S.nil ?_
  refine hK1 _ _ ?_
  refine S.seq fun K2 hK2 => ?_
  refine S.region rfl ?_
  refine S.op (S.q (q_move rfl) rfl rfl ?_)
  refine S.op (S.q (q_sub rfl rfl (inI64 (by omega) (by omega))) rfl rfl ?_)
  refine S.op (S.q (q_assign rfl) rfl rfl ?_)
  first | with_reducible refine S.nilK ?_ | refine S.nil ?_
  refine hK2 _ _ ?_
  refine S.block ?_
  refine S.loop (fun q ρ' Γ' => ∃ (i j : Nat) (zi zj : Int) (e : Array Int), q = j - i ∧ zi = i ∧ zj = j ∧ a ≤ i ∧ i ≤ b ∧ j < b ∧ e.size = d.size ∧ PermIn a b d e ∧ ρ' = [(0, s.v), (6, .int .i64 zi), (7, .int .i64 zj)] ∧ Γ' = own s 44 1 (uA e) :: Γ) (m := _) (ρ0 := _) (Γ0 := _) (⟨a, b - 1, a, (b : Int) - 1, d, rfl, rfl, by omega, by omega, by omega, by omega, rfl, permIn_refl _ _ _, rfl, rfl⟩) (by repeat (first | exact trivial | refine ⟨rfl, ?_⟩)) Sub.ent ?_
  rintro q ρ' Γ' ⟨i, j, zi, zj, e, hq, hzi, hzj, hai, hib, hjb, hes, hpe, rfl, rfl⟩
  refine S.seq fun K3 hK3 => ?_
  refine S.seq fun K4 hK4 => ?_
  refine S.region rfl ?_
  refine S.op (S.q (q_move rfl) rfl rfl ?_)
  refine S.op (S.q (q_move rfl) rfl rfl ?_)
  refine S.op (S.q (q_lt rfl rfl) rfl rfl ?_)
  first | with_reducible refine S.nilK ?_ | refine S.nil ?_
  refine hK4 _ _ ?_
  refine S.condD rfl (fun h1 => ?_) (fun h1 => ?_)
  · refine S.skip ?_
    with_reducible repeat (first | refine S.then_n ?_ | refine S.then_x ?_ | refine S.then_r ?_ | refine S.inBlock_n ?_ | refine S.inBlock_r ?_ | refine S.inBlock_x rfl ?_ | refine S.noGoto_r ?_ | refine S.noGoto_n ?_ | refine S.noGoto_x ?_)
    refine hK3 _ _ ?_
    refine S.block ?_
    refine S.seq fun K5 hK5 => ?_
    refine S.draw ([own s 44 1 (uA e)]) [13] Tryd.mixed ?_
    refine S.dr_take 0 [12, 13, 14, 15] rfl (by kernel_rfl) rfl rfl rfl (q_move rfl) Sub.ent ?_
    refine S.dr_take 1 [12, 13, 14, 15] rfl (by kernel_rfl) rfl rfl rfl (q_move rfl) Sub.ent ?_
    refine S.dr_takeP 2 rfl (by kernel_rfl) rfl rfl rfl (q_move rfl) Sub.ent ?_
    refine S.dr_takeP 3 rfl (by kernel_rfl) rfl rfl rfl (q_move rfl) Sub.ent ?_
    refine S.dr_take 4 [6, 7, 12, 13, 14, 15] rfl (by kernel_rfl) rfl rfl rfl (q_move rfl) Sub.ent ?_
    refine S.dr_take 5 [6, 7, 12, 13, 14, 15] rfl (by kernel_rfl) rfl rfl rfl (q_move rfl) Sub.ent ?_
    refine S.dr_take 6 [7, 12, 13, 14, 15] rfl (by kernel_rfl) rfl rfl rfl (q_indexO (j) Tryd.el31 rfl hsa rfl hzj (by omega)) Sub.ent ?_
    refine S.dr_take 7 [12, 13, 14, 15] rfl (by kernel_rfl) rfl rfl rfl (q_loadOw (s) (j) Tryd.at44 rfl hsa (by first | rfl | exact Nat.add_assoc _ _ _ | omega) (uA_get (by omega))) Sub.ent ?_
    refine S.dr_take 8 [10, 11, 12, 13, 14, 15] rfl (by kernel_rfl) rfl rfl rfl (q_move rfl) Sub.ent ?_
    refine S.dr_take 9 [10, 11, 12, 13, 14, 15] rfl (by kernel_rfl) rfl rfl rfl (q_move rfl) Sub.ent ?_
    refine S.dr_take 10 [11, 12, 13, 14, 15] rfl (by kernel_rfl) rfl rfl rfl (q_indexO (i) Tryd.el31 rfl hsa rfl hzi (by omega)) Sub.ent ?_
    refine S.dr_take 11 [12, 13, 14, 15] rfl (by kernel_rfl) rfl rfl rfl (q_loadOw (s) (i) Tryd.at44 rfl hsa (by first | rfl | exact Nat.add_assoc _ _ _ | omega) (uA_get (by omega))) Sub.ent ?_
    refine S.dr_take 12 [13, 14, 15] rfl (by kernel_rfl) rfl rfl rfl (q_indexO (i) Tryd.el31 rfl hsa rfl hzi (by omega)) Sub.ent ?_
    refine S.dr_1 (i := 13) (by kernel_rfl) rfl rfl ?_
    refine  (S.storeOw (s) (i) Tryd.at44 rfl rfl rfl hsa (by first | rfl | exact Nat.add_assoc _ _ _ | omega) (by rw [uA_len]; omega) (uA_set _ _ _) ?_)
    refine S.dr_late ([]) [] rfl ?_
    refine S.dr_take 14 [] rfl (by kernel_rfl) rfl rfl rfl (q_indexO (j) Tryd.el31 rfl hsa rfl hzj (by omega)) Sub.ent ?_
    refine S.dr_1 (i := 15) (by kernel_rfl) rfl rfl ?_
    refine  (S.storeOw (s) (j) Tryd.at44 rfl rfl rfl hsa (by first | rfl | exact Nat.add_assoc _ _ _ | omega) (by rw [uA_len, Array.size_setIfInBounds]; omega) (show _ = uA (Go.Sort.swp e (i) (j)) from uA_set _ _ _) ?_)
    refine S.dr_k rfl Sub.ent ?_
    first | with_reducible refine S.dr_doneK (by kernel_rfl) ?_ | refine S.dr_done (by kernel_rfl) ?_
    refine hK5 _ _ ?_
    refine S.seq fun K6 hK6 => ?_
    refine S.region rfl ?_
    refine S.op (S.q (q_move rfl) rfl rfl ?_)
    refine S.op (S.q (q_add rfl rfl (inI64 (by omega) (by omega))) rfl rfl ?_)
    refine S.op (S.q (q_assign rfl) rfl rfl ?_)
    first | with_reducible refine S.nilK ?_ | refine S.nil ?_
    refine hK6 _ _ ?_
    refine S.region rfl ?_
    refine S.op (S.q (q_move rfl) rfl rfl ?_)
    refine S.op (S.q (q_sub rfl rfl (inI64 (by omega) (by omega))) rfl rfl ?_)
    refine S.op (S.q (q_assign rfl) rfl rfl ?_)
    first | with_reducible refine S.nilK ?_ | refine S.nil ?_
    with_reducible repeat (first | refine S.then_n ?_ | refine S.then_x ?_ | refine S.then_r ?_ | refine S.inBlock_n ?_ | refine S.inBlock_r ?_ | refine S.inBlock_x rfl ?_ | refine S.noGoto_r ?_ | refine S.noGoto_n ?_ | refine S.noGoto_x ?_)
    with_reducible repeat (first | refine S.then_n ?_ | refine S.then_x ?_ | refine S.then_r ?_ | refine S.inBlock_n ?_ | refine S.inBlock_r ?_ | refine S.inBlock_x rfl ?_ | refine S.noGoto_r ?_ | refine S.noGoto_n ?_ | refine S.noGoto_x ?_)
    exact S.next (q - 1 - 1) (⟨i + 1, j - 1, zi + 1, zj - 1, swp e i j, by omega, by omega, by omega, by omega, by omega, by omega, by rw [swpZ, hes], PermIn.swpZ (a := a) (b := b) (d := d) (e := e) hpe (by omega) (by omega) (by omega) (by omega) hb, rfl, rfl⟩) (by omega) (by repeat (first | exact trivial | refine ⟨rfl, ?_⟩)) Sub.ent
  · refine S.exit ?_
    with_reducible repeat (first | refine S.then_n ?_ | refine S.then_x ?_ | refine S.then_r ?_ | refine S.inBlock_n ?_ | refine S.inBlock_r ?_ | refine S.inBlock_x rfl ?_ | refine S.noGoto_r ?_ | refine S.noGoto_n ?_ | refine S.noGoto_x ?_)
    with_reducible refine S.inBlock_s ?_
    with_reducible repeat (first | refine S.then_n ?_ | refine S.then_x ?_ | refine S.then_r ?_ | refine S.inBlock_n ?_ | refine S.inBlock_r ?_ | refine S.inBlock_x rfl ?_ | refine S.noGoto_r ?_ | refine S.noGoto_n ?_ | refine S.noGoto_x ?_)
    with_reducible repeat (first | refine S.then_n ?_ | refine S.then_x ?_ | refine S.then_r ?_ | refine S.inBlock_n ?_ | refine S.inBlock_r ?_ | refine S.inBlock_x rfl ?_ | refine S.noGoto_r ?_ | refine S.noGoto_n ?_ | refine S.noGoto_x ?_)
    exact S.finN (rs := []) (vs := []) Tryd.results125 (trivial)  (⟨e, hpe, rfl⟩) Sub.ent
theorem order2_S (s : SV) (d : Array Int) (x y p : Nat) (k K : Int) (hx : x < d.size) (hy : y < d.size) (hk : 0 ≤ k ∧ k ≤ K) (hK : K ≤ 1000) (hsn : s.n = d.size) : Spec Tryd.prog 145 [s.v, .int .i64 (x : Int), .int .i64 (y : Int), .pointer (some ⟨p, 0, none⟩)] [own s 44 1 (uA d), blk p 3 #[.int .i64 k]] fun Γ v Θ =>
    ∃ (u v' : Nat) (k' : Int), (u = x ∧ v' = y ∨ u = y ∧ v' = x) ∧ (0 ≤ k' ∧ k' ≤ K + 1) ∧ v = .tuple #[.int .i64 (u : Int), .int .i64 (v' : Int)] ∧ Θ = own s 44 1 (uA d) :: blk p 3 #[.int .i64 k'] :: Γ := by
  refine Spec.of_body Tryd.func145 rfl Tryd.ntmps145 rfl ?_
  intro w0 Γ
  show S _ w0 [(0, s.v), (1, .int .i64 (x : Int)), (2, .int .i64 (y : Int)), (3, .pointer (some ⟨p, 0, none⟩))] (own s 44 1 (uA d) :: blk p 3 #[.int .i64 k] :: Γ) _
  refine S.ownSome s (by omega) fun sb so hsa _ _ _ => ?_
  refine S.seq fun K1 hK1 => ?_
  refine S.region rfl ?_
  refine S.op (S.q (q_assign rfl) rfl rfl ?_)
  refine S.op (S.q (q_assign rfl) rfl rfl ?_)
  first | with_reducible refine S.nilK ?_ | refine S.nil ?_
  refine hK1 _ _ ?_
  refine S.seq fun K2 hK2 => ?_
  refine S.seq fun K3 hK3 => ?_
  refine S.draw ([own s 44 1 (uA d), blk p 3 #[.int .i64 k]]) [] Tryd.mixed ?_
  refine S.dr_take 0 [] rfl (by kernel_rfl) rfl rfl rfl (q_move rfl) Sub.ent ?_
  refine S.dr_take 1 [] rfl (by kernel_rfl) rfl rfl rfl (q_move rfl) Sub.ent ?_
  refine S.dr_take 2 [] rfl (by kernel_rfl) rfl rfl rfl (q_indexO (y) Tryd.el31 rfl hsa rfl rfl (by omega)) Sub.ent ?_
  refine S.dr_take 3 [] rfl (by kernel_rfl) rfl rfl rfl (q_loadOw (s) (y) Tryd.at44 rfl hsa (by first | rfl | exact Nat.add_assoc _ _ _ | omega) (uA_get hy)) Sub.ent ?_
  refine S.dr_take 4 [] rfl (by kernel_rfl) rfl rfl rfl (q_move rfl) Sub.ent ?_
  refine S.dr_take 5 [] rfl (by kernel_rfl) rfl rfl rfl (q_move rfl) Sub.ent ?_
  refine S.dr_take 6 [] rfl (by kernel_rfl) rfl rfl rfl (q_indexO (x) Tryd.el31 rfl hsa rfl rfl (by omega)) Sub.ent ?_
  refine S.dr_take 7 [] rfl (by kernel_rfl) rfl rfl rfl (q_loadOw (s) (x) Tryd.at44 rfl hsa (by first | rfl | exact Nat.add_assoc _ _ _ | omega) (uA_get hx)) Sub.ent ?_
  refine S.dr_1 (i := 8) (by kernel_rfl) rfl rfl ?_
  refine  (S.call Tryd.en127 (vs := [_, _]) ⟨rfl, rfl, trivial⟩ (Less_S (d[y]!) (d[x]!)) rfl ?_)
  rintro v Θ ⟨rfl, rfl⟩
  refine S.dr_k rfl Sub.ent ?_
  first | with_reducible refine S.dr_doneK (by kernel_rfl) ?_ | refine S.dr_done (by kernel_rfl) ?_
  refine hK3 _ _ ?_
  refine S.cond rfl (fun h1 => ?_) (fun h1 => ?_)
  · refine S.seq fun K4 hK4 => ?_
    refine S.region rfl ?_
    refine S.op (S.q (q_move rfl) rfl rfl ?_)
    refine S.op (S.q (q_nilCheck rfl) rfl rfl ?_)
    refine S.op (S.q (q_load Tryd.at3 rfl rfl) rfl rfl ?_)
    refine S.op (S.q (q_add rfl rfl (inI64 (by omega) (by omega))) rfl rfl ?_)
    refine S.op (S.q (q_nilCheck rfl) rfl rfl ?_)
    refine S.op (S.store (cs' := [_]) Tryd.at3 rfl rfl rfl rfl rfl ?_)
    first | with_reducible refine S.nilK ?_ | refine S.nil ?_
    refine hK4 _ _ ?_
    refine S.seq fun K5 hK5 => ?_
    refine S.region rfl ?_
    refine S.op (S.q (q_move rfl) rfl rfl ?_)
    refine S.op (S.q (q_move rfl) rfl rfl ?_)
    refine S.op (S.q (q_assign rfl) rfl rfl ?_)
    refine S.op (S.q (q_assign rfl) rfl rfl ?_)
    first | with_reducible refine S.nilK ?_ | refine S.nil ?_
    refine hK5 _ _ ?_
    refine S.ret ?_
    with_reducible repeat (first | refine S.then_n ?_ | refine S.then_x ?_ | refine S.then_r ?_ | refine S.inBlock_n ?_ | refine S.inBlock_r ?_ | refine S.inBlock_x rfl ?_ | refine S.noGoto_r ?_ | refine S.noGoto_n ?_ | refine S.noGoto_x ?_)
    exact S.fin (rs := [_, _]) (vs := [_, _]) Tryd.results145 (⟨rfl, rfl, trivial⟩)  (⟨y, x, k + 1, .inr ⟨rfl, rfl⟩, by omega, rfl, rfl⟩) Sub.ent
  · refine S.skip ?_
    with_reducible repeat (first | refine S.then_n ?_ | refine S.then_x ?_ | refine S.then_r ?_ | refine S.inBlock_n ?_ | refine S.inBlock_r ?_ | refine S.inBlock_x rfl ?_ | refine S.noGoto_r ?_ | refine S.noGoto_n ?_ | refine S.noGoto_x ?_)
    refine hK2 _ _ ?_
    refine S.seq fun K6 hK6 => ?_
    refine S.region rfl ?_
    refine S.op (S.q (q_move rfl) rfl rfl ?_)
    refine S.op (S.q (q_move rfl) rfl rfl ?_)
    refine S.op (S.q (q_assign rfl) rfl rfl ?_)
    refine S.op (S.q (q_assign rfl) rfl rfl ?_)
    first | with_reducible refine S.nilK ?_ | refine S.nil ?_
    refine hK6 _ _ ?_
    refine S.ret ?_
    with_reducible repeat (first | refine S.then_n ?_ | refine S.then_x ?_ | refine S.then_r ?_ | refine S.inBlock_n ?_ | refine S.inBlock_r ?_ | refine S.inBlock_x rfl ?_ | refine S.noGoto_r ?_ | refine S.noGoto_n ?_ | refine S.noGoto_x ?_)
    exact S.fin (rs := [_, _]) (vs := [_, _]) Tryd.results145 (⟨rfl, rfl, trivial⟩)  (⟨x, y, k, .inl ⟨rfl, rfl⟩, by omega, rfl, rfl⟩) Sub.ent
theorem median_S (s : SV) (d : Array Int) (x y z p : Nat) (k K : Int) (hx : x < d.size) (hy : y < d.size) (hz : z < d.size) (hk : 0 ≤ k ∧ k ≤ K) (hK : K ≤ 900) (hsn : s.n = d.size) : Spec Tryd.prog 141 [s.v, .int .i64 (x : Int), .int .i64 (y : Int), .int .i64 (z : Int), .pointer (some ⟨p, 0, none⟩)] [own s 44 1 (uA d), blk p 3 #[.int .i64 k]] fun Γ v Θ =>
    ∃ (u : Nat) (k' : Int), (u = x ∨ u = y ∨ u = z) ∧ (0 ≤ k' ∧ k' ≤ K + 3) ∧ v = .int .i64 (u : Int) ∧ Θ = own s 44 1 (uA d) :: blk p 3 #[.int .i64 k'] :: Γ := by
  refine Spec.of_body Tryd.func141 rfl Tryd.ntmps141 rfl ?_
  intro w0 Γ
  show S _ w0 [(0, s.v), (1, .int .i64 (x : Int)), (2, .int .i64 (y : Int)), (3, .int .i64 (z : Int)), (4, .pointer (some ⟨p, 0, none⟩))] (own s 44 1 (uA d) :: blk p 3 #[.int .i64 k] :: Γ) _
  refine S.seq fun K1 hK1 => ?_
  refine S.region rfl ?_
  refine S.op (S.q (q_assign rfl) rfl rfl ?_)
  first | with_reducible refine S.nilK ?_ | refine S.nil ?_
  refine hK1 _ _ ?_
  refine S.seq fun K2 hK2 => ?_
  refine S.region rfl ?_
  refine S.op (S.q (q_move rfl) rfl rfl ?_)
  refine S.op (S.q (q_move rfl) rfl rfl ?_)
  refine S.op (S.q (q_move rfl) rfl rfl ?_)
  refine S.op (S.q (q_move rfl) rfl rfl ?_)
  refine S.op (S.call Tryd.en145 (vs := [_, _, _, _]) ⟨rfl, rfl, rfl, rfl, trivial⟩ (order2_S s d x y p k K hx hy hk (by omega) hsn) rfl ?_)
  rintro v Θ ⟨x1, y1, k1, h1, hk1, rfl, rfl⟩
  refine S.op (S.q (q_move rfl) rfl rfl ?_)
  refine S.op (S.q (q_extract rfl rfl) rfl rfl ?_)
  refine S.op (S.q (q_extract rfl rfl) rfl rfl ?_)
  refine S.op (S.q (q_assign rfl) rfl rfl ?_)
  refine S.op (S.q (q_assign rfl) rfl rfl ?_)
  first | with_reducible refine S.nilK ?_ | refine S.nil ?_
  refine hK2 _ _ ?_
  refine S.seq fun K3 hK3 => ?_
  refine S.region rfl ?_
  refine S.op (S.q (q_move rfl) rfl rfl ?_)
  refine S.op (S.q (q_move rfl) rfl rfl ?_)
  refine S.op (S.q (q_move rfl) rfl rfl ?_)
  refine S.op (S.q (q_move rfl) rfl rfl ?_)
  refine S.op (S.call Tryd.en145 (vs := [_, _, _, _]) ⟨rfl, rfl, rfl, rfl, trivial⟩ (order2_S s d y1 z p k1 (K + 1) (by omega) hz hk1 (by omega) hsn) rfl ?_)
  rintro v Θ ⟨y2, z2, k2, h2, hk2, rfl, rfl⟩
  refine S.op (S.q (q_move rfl) rfl rfl ?_)
  refine S.op (S.q (q_extract rfl rfl) rfl rfl ?_)
  refine S.op (S.q (q_extract rfl rfl) rfl rfl ?_)
  refine S.op (S.q (q_assign rfl) rfl rfl ?_)
  refine S.op (S.q (q_assign rfl) rfl rfl ?_)
  first | with_reducible refine S.nilK ?_ | refine S.nil ?_
  refine hK3 _ _ ?_
  refine S.seq fun K4 hK4 => ?_
  refine S.region rfl ?_
  refine S.op (S.q (q_move rfl) rfl rfl ?_)
  refine S.op (S.q (q_move rfl) rfl rfl ?_)
  refine S.op (S.q (q_move rfl) rfl rfl ?_)
  refine S.op (S.q (q_move rfl) rfl rfl ?_)
  refine S.op (S.call Tryd.en145 (vs := [_, _, _, _]) ⟨rfl, rfl, rfl, rfl, trivial⟩ (order2_S s d x1 y2 p k2 (K + 1 + 1) (by omega) (by omega) hk2 (by omega) hsn) rfl ?_)
  rintro v Θ ⟨x3, y3, k3, h3, hk3, rfl, rfl⟩
  refine S.op (S.q (q_move rfl) rfl rfl ?_)
  refine S.op (S.q (q_extract rfl rfl) rfl rfl ?_)
  refine S.op (S.q (q_extract rfl rfl) rfl rfl ?_)
  refine S.op (S.q (q_assign rfl) rfl rfl ?_)
  refine S.op (S.q (q_assign rfl) rfl rfl ?_)
  first | with_reducible refine S.nilK ?_ | refine S.nil ?_
  refine hK4 _ _ ?_
  refine S.seq fun K5 hK5 => ?_
  refine S.region rfl ?_
  refine S.op (S.q (q_move rfl) rfl rfl ?_)
  refine S.op (S.q (q_assign rfl) rfl rfl ?_)
  first | with_reducible refine S.nilK ?_ | refine S.nil ?_
  refine hK5 _ _ ?_
  refine S.ret ?_
  with_reducible repeat (first | refine S.then_n ?_ | refine S.then_x ?_ | refine S.then_r ?_ | refine S.inBlock_n ?_ | refine S.inBlock_r ?_ | refine S.inBlock_x rfl ?_ | refine S.noGoto_r ?_ | refine S.noGoto_n ?_ | refine S.noGoto_x ?_)
  exact S.fin (rs := [_]) (vs := [_]) Tryd.results141 (⟨rfl, trivial⟩)  (⟨y3, k3, by omega, by omega, rfl, rfl⟩) Sub.ent
theorem medianAdj_S (s : SV) (d : Array Int) (x p : Nat) (k K : Int) (hx0 : 0 < x) (hx : x + 1 < d.size) (hsz : d.size ≤ 65535) (hk : 0 ≤ k ∧ k ≤ K) (hK : K ≤ 900) (hsn : s.n = d.size) : Spec Tryd.prog 140 [s.v, .int .i64 (x : Int), .pointer (some ⟨p, 0, none⟩)] [own s 44 1 (uA d), blk p 3 #[.int .i64 k]] fun Γ v Θ =>
    ∃ (u : Nat) (k' : Int), (x ≤ u + 1 ∧ u ≤ x + 1) ∧ (0 ≤ k' ∧ k' ≤ K + 3) ∧ v = .int .i64 (u : Int) ∧ Θ = own s 44 1 (uA d) :: blk p 3 #[.int .i64 k'] :: Γ := by
  refine Spec.of_body Tryd.func140 rfl Tryd.ntmps140 rfl ?_
  intro w0 Γ
  show S _ w0 [(0, s.v), (1, .int .i64 (x : Int)), (2, .pointer (some ⟨p, 0, none⟩))] (own s 44 1 (uA d) :: blk p 3 #[.int .i64 k] :: Γ) _
  refine S.seq fun K1 hK1 => ?_
  refine S.region rfl ?_
  refine S.op (S.q (q_assign rfl) rfl rfl ?_)
  first | with_reducible refine S.nilK ?_ | refine S.nil ?_
  refine hK1 _ _ ?_
  refine S.seq fun K2 hK2 => ?_
  refine S.region rfl ?_
  refine S.op (S.q (q_move rfl) rfl rfl ?_)
  refine S.op (S.q (q_move rfl) rfl rfl ?_)
  refine S.op (S.q (q_sub rfl rfl (inI64 (by omega) (by omega))) rfl rfl ?_)
  refine S.op (S.q (q_move rfl) rfl rfl ?_)
  refine S.op (S.q (q_move rfl) rfl rfl ?_)
  refine S.op (S.q (q_add rfl rfl (inI64 (by omega) (by omega))) rfl rfl ?_)
  refine S.op (S.q (q_move rfl) rfl rfl ?_)
  refine S.op (S.call Tryd.en141 (vs := [_, _, _, _, _]) ⟨rfl, rfl, rfl, rfl, rfl, trivial⟩ ((by rw [show ((x : Int) - 1) = ((x - 1 : Nat) : Int) by omega]; exact median_S s d (x - 1) x (x + 1) p k K (by omega) (by omega) hx hk hK hsn)) rfl ?_)
  rintro v Θ ⟨u, k', hu, hk', rfl, rfl⟩
  refine S.op (S.q (q_assign rfl) rfl rfl ?_)
  first | with_reducible refine S.nilK ?_ | refine S.nil ?_
  refine hK2 _ _ ?_
  refine S.ret ?_
  with_reducible repeat (first | refine S.then_n ?_ | refine S.then_x ?_ | refine S.then_r ?_ | refine S.inBlock_n ?_ | refine S.inBlock_r ?_ | refine S.inBlock_x rfl ?_ | refine S.noGoto_r ?_ | refine S.noGoto_n ?_ | refine S.noGoto_x ?_)
  exact S.fin (rs := [_]) (vs := [_]) Tryd.results140 (⟨rfl, trivial⟩)  (⟨u, k', by omega, hk', rfl, rfl⟩) Sub.ent
theorem choose_S (s : SV) (d : Array Int) (a b : Nat) (hab : a + 12 < b) (hb : b ≤ d.size) (hsz : d.size ≤ 65535) (hsn : s.n = d.size) : Spec Tryd.prog 124 [s.v, .int .i64 (a : Int), .int .i64 (b : Int)] [own s 44 1 (uA d)] fun Γ v Θ =>
    ∃ (u : Nat) (h : Int), (a ≤ u ∧ u < b) ∧ v = .tuple #[.int .i64 (u : Int), .int .i64 h] ∧ Θ = own s 44 1 (uA d) :: Γ := by
  refine Spec.of_body Tryd.func124 rfl Tryd.ntmps124 rfl ?_
  intro w0 Γ
  show S _ w0 [(0, s.v), (1, .int .i64 (a : Int)), (2, .int .i64 (b : Int))] (own s 44 1 (uA d) :: Γ) _
  obtain ⟨i, hi⟩ : ∃ i : Nat, (i : Int) = a + (b - a) / 4 * 1 := ⟨a + (b - a) / 4 * 1, by omega⟩
  obtain ⟨j, hj⟩ : ∃ j : Nat, (j : Int) = a + (b - a) / 4 * 2 := ⟨a + (b - a) / 4 * 2, by omega⟩
  obtain ⟨l, hl⟩ : ∃ l : Nat, (l : Int) = a + (b - a) / 4 * 3 := ⟨a + (b - a) / 4 * 3, by omega⟩
  refine S.seq fun K1 hK1 => ?_
  refine S.region rfl ?_
  refine S.op (S.q (q_assign rfl) rfl rfl ?_)
  refine S.op (S.q (q_assign rfl) rfl rfl ?_)
  first | with_reducible refine S.nilK ?_ | refine S.nil ?_
  refine hK1 _ _ ?_
  refine S.seq fun K2 hK2 => ?_
  refine S.region rfl ?_
  refine S.op (S.q (q_move rfl) rfl rfl ?_)
  refine S.op (S.q (q_move rfl) rfl rfl ?_)
  refine S.op (S.q (q_sub rfl rfl (inI64 (by omega) (by omega))) rfl rfl ?_)
  refine S.op (S.q (q_assign rfl) rfl rfl ?_)
  first | with_reducible refine S.nilK ?_ | refine S.nil ?_
  refine hK2 _ _ ?_
  refine S.seq fun K3 hK3 => ?_
  refine S.region rfl ?_
  refine S.op (S.alloc Tryd.z3 rfl ?_)
  intro b9
  first | with_reducible refine S.nilK ?_ | refine S.nil ?_
  refine hK3 _ _ ?_
  refine S.seq fun K4 hK4 => ?_
  refine S.region rfl ?_
  refine S.op (S.q (q_move rfl) rfl rfl ?_)
  refine S.op (S.q (q_move rfl) rfl rfl ?_)
  refine S.op (S.q (q_quo rfl rfl (⟨by omega, by omega⟩) (inI64 (by omega) (by omega))) rfl rfl ?_)
  refine S.op (S.q (q_mul rfl rfl (inI64 (by omega) (by omega))) rfl rfl ?_)
  refine S.op (S.q (q_add rfl rfl (inI64 (by omega) (by omega))) rfl rfl ?_)
  refine S.op (S.q (q_assign rfl) rfl rfl ?_)
  first | with_reducible refine S.nilK ?_ | refine S.nil ?_
  refine hK4 _ _ ?_
  refine S.seq fun K5 hK5 => ?_
  refine S.region rfl ?_
  refine S.op (S.q (q_move rfl) rfl rfl ?_)
  refine S.op (S.q (q_move rfl) rfl rfl ?_)
  refine S.op (S.q (q_quo rfl rfl (⟨by omega, by omega⟩) (inI64 (by omega) (by omega))) rfl rfl ?_)
  refine S.op (S.q (q_mul rfl rfl (inI64 (by omega) (by omega))) rfl rfl ?_)
  refine S.op (S.q (q_add rfl rfl (inI64 (by omega) (by omega))) rfl rfl ?_)
  refine S.op (S.q (q_assign rfl) rfl rfl ?_)
  first | with_reducible refine S.nilK ?_ | refine S.nil ?_
  refine hK5 _ _ ?_
  refine S.seq fun K6 hK6 => ?_
  refine S.region rfl ?_
  refine S.op (S.q (q_move rfl) rfl rfl ?_)
  refine S.op (S.q (q_move rfl) rfl rfl ?_)
  refine S.op (S.q (q_quo rfl rfl (⟨by omega, by omega⟩) (inI64 (by omega) (by omega))) rfl rfl ?_)
  refine S.op (S.q (q_mul rfl rfl (inI64 (by omega) (by omega))) rfl rfl ?_)
  refine S.op (S.q (q_add rfl rfl (inI64 (by omega) (by omega))) rfl rfl ?_)
  refine S.op (S.q (q_assign rfl) rfl rfl ?_)
  first | with_reducible refine S.nilK ?_ | refine S.nil ?_
  refine hK6 _ _ ?_
  refine S.seq fun K7 hK7 => ?_
  refine S.seq fun K8 hK8 => ?_
  refine S.region rfl ?_
  rw [← hi, ← hj, ← hl]
  refine S.op (S.q (q_move rfl) rfl rfl ?_)
  refine S.op (S.q (q_ge rfl rfl) rfl rfl ?_)
  first | with_reducible refine S.nilK ?_ | refine S.nil ?_
  refine hK8 _ _ ?_
  refine S.condD rfl (fun h1 => ?_) (fun h1 => ?_)
  · refine S.seq fun K9 hK9 => ?_
    refine S.seq fun K10 hK10 => ?_
    refine S.region rfl ?_
    refine S.op (S.q (q_move rfl) rfl rfl ?_)
    refine S.op (S.q (q_ge rfl rfl) rfl rfl ?_)
    first | with_reducible refine S.nilK ?_ | refine S.nil ?_
    refine hK10 _ _ ?_
    refine S.cut (fun ρ' Γ' => ∃ (i2 j2 l2 : Nat) (k3 : Int), (a ≤ i2 ∧ i2 < b) ∧ (a ≤ j2 ∧ j2 < b) ∧ (a ≤ l2 ∧ l2 < b) ∧ (0 ≤ k3 ∧ k3 ≤ 9) ∧ ρ' = [(0, s.v), (9, .pointer (some ⟨b9, 0, none⟩)), (10, .int .i64 (i2 : Int)), (11, .int .i64 (j2 : Int)), (12, .int .i64 (l2 : Int))] ∧ Γ' = own s 44 1 (uA d) :: blk b9 3 #[.int .i64 k3] :: Γ) ?_ ?_
    · refine S.condD rfl (fun h2 => ?_) (fun h2 => ?_)
      · refine S.seq fun K11 hK11 => ?_
        refine S.region rfl ?_
        refine S.op (S.q (q_move rfl) rfl rfl ?_)
        refine S.op (S.q (q_move rfl) rfl rfl ?_)
        refine S.op (S.call Tryd.en140 (vs := [_, _, _]) ⟨rfl, rfl, rfl, trivial⟩ (medianAdj_S s d i b9 0 0 (by omega) (by omega) hsz (by omega) (by omega) hsn) rfl ?_)
        rintro v Θ ⟨i2, k1, hi2, hk1, rfl, rfl⟩
        refine S.op (S.q (q_assign rfl) rfl rfl ?_)
        first | with_reducible refine S.nilK ?_ | refine S.nil ?_
        refine hK11 _ _ ?_
        refine S.seq fun K12 hK12 => ?_
        refine S.region rfl ?_
        refine S.op (S.q (q_move rfl) rfl rfl ?_)
        refine S.op (S.q (q_move rfl) rfl rfl ?_)
        refine S.op (S.call Tryd.en140 (vs := [_, _, _]) ⟨rfl, rfl, rfl, trivial⟩ (medianAdj_S s d j b9 k1 (0 + 3) (by omega) (by omega) hsz hk1 (by omega) hsn) rfl ?_)
        rintro v Θ ⟨j2, k2, hj2, hk2, rfl, rfl⟩
        refine S.op (S.q (q_assign rfl) rfl rfl ?_)
        first | with_reducible refine S.nilK ?_ | refine S.nil ?_
        refine hK12 _ _ ?_
        refine S.region rfl ?_
        refine S.op (S.q (q_move rfl) rfl rfl ?_)
        refine S.op (S.q (q_move rfl) rfl rfl ?_)
        refine S.op (S.call Tryd.en140 (vs := [_, _, _]) ⟨rfl, rfl, rfl, trivial⟩ (medianAdj_S s d l b9 k2 (0 + 3 + 3) (by omega) (by omega) hsz hk2 (by omega) hsn) rfl ?_)
        rintro v Θ ⟨l2, k3, hl2, hk3, rfl, rfl⟩
        refine S.op (S.q (q_assign rfl) rfl rfl ?_)
        first | with_reducible refine S.nilK ?_ | refine S.nil ?_
        with_reducible repeat (first | refine S.then_n ?_ | refine S.then_x ?_ | refine S.then_r ?_ | refine S.inBlock_n ?_ | refine S.inBlock_r ?_ | refine S.inBlock_x rfl ?_ | refine S.noGoto_r ?_ | refine S.noGoto_n ?_ | refine S.noGoto_x ?_)
        first | exact S.meet ⟨i2, j2, l2, k3, by omega, by omega, by omega, by omega, rfl, rfl⟩ ⟨rfl, rfl, rfl, rfl, rfl, trivial⟩ Sub.ent | exact S.meet ⟨i, j, l, 0, by omega, by omega, by omega, by omega, rfl, rfl⟩ ⟨rfl, rfl, rfl, rfl, rfl, trivial⟩ Sub.ent
      · refine S.skip ?_
        with_reducible repeat (first | refine S.then_n ?_ | refine S.then_x ?_ | refine S.then_r ?_ | refine S.inBlock_n ?_ | refine S.inBlock_r ?_ | refine S.inBlock_x rfl ?_ | refine S.noGoto_r ?_ | refine S.noGoto_n ?_ | refine S.noGoto_x ?_)
        with_reducible repeat (first | refine S.then_n ?_ | refine S.then_x ?_ | refine S.then_r ?_ | refine S.inBlock_n ?_ | refine S.inBlock_r ?_ | refine S.inBlock_x rfl ?_ | refine S.noGoto_r ?_ | refine S.noGoto_n ?_ | refine S.noGoto_x ?_)
        first | exact S.meet ⟨i2, j2, l2, k3, by omega, by omega, by omega, by omega, rfl, rfl⟩ ⟨rfl, rfl, rfl, rfl, rfl, trivial⟩ Sub.ent | exact S.meet ⟨i, j, l, 0, by omega, by omega, by omega, by omega, rfl, rfl⟩ ⟨rfl, rfl, rfl, rfl, rfl, trivial⟩ Sub.ent
    · rintro ρ' Γ' ⟨i2, j2, l2, k3, hi2, hj2, hl2, hk3, rfl, rfl⟩
      refine hK9 _ _ ?_
      refine S.region rfl ?_
      refine S.op (S.q (q_move rfl) rfl rfl ?_)
      refine S.op (S.q (q_move rfl) rfl rfl ?_)
      refine S.op (S.q (q_move rfl) rfl rfl ?_)
      refine S.op (S.q (q_move rfl) rfl rfl ?_)
      refine S.op (S.call Tryd.en141 (vs := [_, _, _, _, _]) ⟨rfl, rfl, rfl, rfl, rfl, trivial⟩ (median_S s d i2 j2 l2 b9 k3 9 (by omega) (by omega) (by omega) hk3 (by omega) hsn) rfl ?_)
      rintro v Θ ⟨u, k4, hu, hk4, rfl, rfl⟩
      refine S.op (S.q (q_assign rfl) rfl rfl ?_)
      first | with_reducible refine S.nilK ?_ | refine S.nil ?_
      refine hK7 _ _ ?_
      refine S.seq fun K13 hK13 => ?_
      refine S.region rfl ?_
      refine S.op (S.q (q_load Tryd.at3 rfl rfl) rfl rfl ?_)
      first | with_reducible refine S.nilK ?_ | refine S.nil ?_
      refine hK13 _ _ ?_
      refine S.block ?_
      refine S.seq fun K14 hK14 => ?_
      refine S.region rfl ?_
      refine S.op (S.q (q_eq rfl rfl) rfl rfl ?_)
      refine S.op (S.q (q_assign rfl) rfl rfl ?_)
      first | with_reducible refine S.nilK ?_ | refine S.nil ?_
      refine hK14 _ _ ?_
      refine S.condD rfl (fun h3 => ?_) (fun h3 => ?_)
      · refine S.seq fun K15 hK15 => ?_
        refine S.region rfl ?_
        refine S.op (S.q (q_move rfl) rfl rfl ?_)
        refine S.op (S.q (q_assign rfl) rfl rfl ?_)
        refine S.op (S.q (q_assign rfl) rfl rfl ?_)
        first | with_reducible refine S.nilK ?_ | refine S.nil ?_
        refine hK15 _ _ ?_
        refine S.ret ?_
        with_reducible repeat (first | refine S.then_n ?_ | refine S.then_x ?_ | refine S.then_r ?_ | refine S.inBlock_n ?_ | refine S.inBlock_r ?_ | refine S.inBlock_x rfl ?_ | refine S.noGoto_r ?_ | refine S.noGoto_n ?_ | refine S.noGoto_x ?_)
        exact S.fin (rs := [_, _]) (vs := [_, _]) Tryd.results124 (⟨rfl, rfl, trivial⟩)  (⟨u, 1, by omega, rfl, rfl⟩) Sub.ent
      · refine S.seq fun K16 hK16 => ?_
        refine S.region rfl ?_
        refine S.op (S.q (q_eq rfl rfl) rfl rfl ?_)
        refine S.op (S.q (q_assign rfl) rfl rfl ?_)
        first | with_reducible refine S.nilK ?_ | refine S.nil ?_
        refine hK16 _ _ ?_
        refine S.condD rfl (fun h4 => ?_) (fun h4 => ?_)
        · refine S.seq fun K17 hK17 => ?_
          refine S.region rfl ?_
          refine S.op (S.q (q_move rfl) rfl rfl ?_)
          refine S.op (S.q (q_assign rfl) rfl rfl ?_)
          refine S.op (S.q (q_assign rfl) rfl rfl ?_)
          first | with_reducible refine S.nilK ?_ | refine S.nil ?_
          refine hK17 _ _ ?_
          refine S.ret ?_
          with_reducible repeat (first | refine S.then_n ?_ | refine S.then_x ?_ | refine S.then_r ?_ | refine S.inBlock_n ?_ | refine S.inBlock_r ?_ | refine S.inBlock_x rfl ?_ | refine S.noGoto_r ?_ | refine S.noGoto_n ?_ | refine S.noGoto_x ?_)
          exact S.fin (rs := [_, _]) (vs := [_, _]) Tryd.results124 (⟨rfl, rfl, trivial⟩)  (⟨u, 2, by omega, rfl, rfl⟩) Sub.ent
        · refine S.seq fun K18 hK18 => ?_
          refine S.region rfl ?_
          refine S.op (S.q (q_move rfl) rfl rfl ?_)
          refine S.op (S.q (q_assign rfl) rfl rfl ?_)
          refine S.op (S.q (q_assign rfl) rfl rfl ?_)
          first | with_reducible refine S.nilK ?_ | refine S.nil ?_
          refine hK18 _ _ ?_
          refine S.ret ?_
          with_reducible repeat (first | refine S.then_n ?_ | refine S.then_x ?_ | refine S.then_r ?_ | refine S.inBlock_n ?_ | refine S.inBlock_r ?_ | refine S.inBlock_x rfl ?_ | refine S.noGoto_r ?_ | refine S.noGoto_n ?_ | refine S.noGoto_x ?_)
          exact S.fin (rs := [_, _]) (vs := [_, _]) Tryd.results124 (⟨rfl, rfl, trivial⟩)  (⟨u, 0, by omega, rfl, rfl⟩) Sub.ent
  · omega
/-! Whole numbers of 64 bits. -/
section
variable {P : Program} {n : Nat} {ρ : Env} {Γ : List Assn} {ty : TypeId} {pos : String} {af : Array Edge} {gd : Option (Nat × Bool)} {ds : Option Tmp}
theorem wrap64_rng (z : Int) : 0 ≤ IntKind.u64.wrap z ∧ IntKind.u64.wrap z ≤ 18446744073709551615 := by
  have e : IntKind.u64.wrap z = z % 18446744073709551616 := by
    simp only [IntKind.wrap, IntKind.bits, IntKind.signed, Bool.false_and, Bool.false_eq_true, if_false]
    rfl
  rw [e]
  have h1 := Int.emod_nonneg z (show (18446744073709551616 : Int) ≠ 0 by decide)
  have h2 := Int.emod_lt_of_pos z (show (0 : Int) < 18446744073709551616 by decide)
  omega
theorem q_shlE {t yt : TypeId} {x y : Operand} {k ky : IntKind} {p q : Int} (m : Nat) (hx : ev ρ x = some (.int k p)) (hy : ev ρ y = some (.int ky q)) (hq : q = ((m : Nat) : Int)) (hm : Nat.ble m k.bits = true) : Qv P n ρ Γ ⟨ds, .binOp .shl t x y yt, ty, pos, af, gd⟩ (.int k (k.wrap (p * 2 ^ m))) := fun a w ha _ => by
  subst hq
  have h0 : ¬ ((m : Int) < 0) := by omega
  have h1 : min m k.bits = m := Nat.min_eq_left (Nat.le_of_ble_eq_true hm)
  simp [execOp, ha.ev hx, ha.ev hy, eqGuard, binOp, Op.shift, h0, h1]
abbrev xorV (p q : Int) : Int := IntKind.u64.wrap ((BitVec.ofInt 64 p ^^^ BitVec.ofInt 64 q).toNat : Int)
theorem q_xorE {t yt : TypeId} {x y : Operand} {p q : Int} (hx : ev ρ x = some (.int .u64 p)) (hy : ev ρ y = some (.int .u64 q)) : Qv P n ρ Γ ⟨ds, .binOp .xor t x y yt, ty, pos, af, gd⟩ (.int .u64 (xorV p q)) := fun a w ha _ => by
  simp [execOp, ha.ev hx, ha.ev hy, eqGuard, binOp, Op.intBits, IntKind.bits]
  rfl
abbrev andV (p q : Int) : Int := IntKind.u64.wrap ((BitVec.ofInt 64 p &&& BitVec.ofInt 64 q).toNat : Int)
theorem q_andE {t yt : TypeId} {x y : Operand} {p q : Int} (hx : ev ρ x = some (.int .u64 p)) (hy : ev ρ y = some (.int .u64 q)) : Qv P n ρ Γ ⟨ds, .binOp .and t x y yt, ty, pos, af, gd⟩ (.int .u64 (andV p q)) := fun a w ha _ => by
  simp [execOp, ha.ev hx, ha.ev hy, eqGuard, binOp, Op.intBits, IntKind.bits]
  rfl
theorem toNat64 {q : Int} (hq : 0 ≤ q ∧ q ≤ 18446744073709551615) : (BitVec.ofInt 64 q).toNat = q.toNat := by
  have e : ((2 ^ 64 : Nat) : Int) = 18446744073709551616 := by decide
  rw [BitVec.toNat_ofInt, e, Int.emod_eq_of_lt hq.1 (by omega)]
theorem andV_le (p : Int) {q : Int} (hq : 0 ≤ q ∧ q ≤ 18446744073709551615) : 0 ≤ andV p q ∧ andV p q ≤ q := by
  have h1 := toNat64 hq
  have h2 : (BitVec.ofInt 64 p &&& BitVec.ofInt 64 q).toNat ≤ q.toNat := by
    rw [BitVec.toNat_and, ← h1]
    exact Nat.and_le_right
  have h3 : andV p q = ((BitVec.ofInt 64 p &&& BitVec.ofInt 64 q).toNat : Int) := wrap_in (inU64 (by omega) (by omega))
  rw [h3]
  omega
/-- The table of how many bits a byte's number takes. -/
def lenOk (bs : ByteArray) : Bool := (List.range 256).all fun i => match bs[i]? with
  | some b => b.toNat == bitsLen i
  | none => false
theorem q_lenAt {t : TypeId} {x y : Operand} {bs : ByteArray} {ky : IntKind} {z : Int} (i : Nat) (ht : P.underlying t = some .string) (hx : ev ρ x = some (.string bs)) (hb : lenOk bs = true) (hy : ev ρ y = some (.int ky z)) (hz : z = ((i : Nat) : Int)) (hi : i < 256) : Qv P n ρ Γ ⟨ds, .index t x y, ty, pos, af, gd⟩ (.int .u8 ((bitsLen i : Nat) : Int)) := fun a w ha _ => by
  subst hz
  have h := List.all_eq_true.1 hb i (List.mem_range.2 hi)
  cases e : bs[i]? with
  | none => rw [e] at h; cases h
  | some b =>
    rw [e] at h
    have h : b.toNat = bitsLen i := by simpa using h
    simp [execOp, ha.ev hx, ha.ev hy, Instr.index, asIntOf, run_underlying ht, e, h]
end
theorem bitsLen_256 {x : Nat} (h : 256 ≤ x) : bitsLen x = bitsLen (x / 256) + 8 := by
  have key : ∀ k, bitsLen x ≤ k ↔ bitsLen (x / 256) + 8 ≤ k := fun k => by
    rw [bitsLen_le_iff]
    by_cases hk : k < 8
    · have h1 : 2 ^ k ≤ 2 ^ 8 := Nat.pow_le_pow_right (by omega) (by omega)
      constructor
      · intro h2; omega
      · intro h2; omega
    · obtain ⟨m, rfl⟩ : ∃ m, k = m + 8 := ⟨k - 8, by omega⟩
      have h1 := bitsLen_le_iff (x / 256) m
      have h2 : x / 256 < 2 ^ m ↔ x < 2 ^ (m + 8) := by rw [Nat.div_lt_iff_lt_mul (by omega), Nat.pow_add]
      rw [← h2, ← h1]
      omega
  have h1 := (key _).1 (Nat.le_refl _)
  have h2 := (key _).2 (Nat.le_refl _)
  omega
theorem Len64_S (x : Nat) (hx : x < 65536) : Spec Tryd.prog 110 [.int .u64 (x : Int)] [] fun Γ v Θ => v = .int .i64 (bitsLen x : Nat) ∧ Θ = Γ := by
  refine Spec.of_body Tryd.func110 rfl Tryd.ntmps110 rfl ?_
  intro w0 Γ
  show S _ w0 [(0, .int .u64 (x : Int))] Γ _
  have hle : ∀ i, i < 256 → bitsLen i ≤ 8 := fun i hi => (bitsLen_le_iff i 8).2 hi
  refine S.seq fun K1 hK1 => ?_
  refine S.region rfl ?_
  refine S.op (S.q (q_assign rfl) rfl rfl ?_)
  first | with_reducible refine S.nilK ?_ | refine S.nil ?_
  refine hK1 _ _ ?_
  refine S.seq fun K2 hK2 => ?_
  refine S.seq fun K3 hK3 => ?_
  refine S.region rfl ?_
  refine S.op (S.q (q_move rfl) rfl rfl ?_)
  refine S.op (S.q (q_ge rfl rfl) rfl rfl ?_)
  first | with_reducible refine S.nilK ?_ | refine S.nil ?_
  refine hK3 _ _ ?_
  refine S.condD rfl (fun h1 => ?_) (fun h1 => ?_)
  · omega
  · refine S.skip ?_
    with_reducible repeat (first | refine S.then_n ?_ | refine S.then_x ?_ | refine S.then_r ?_ | refine S.inBlock_n ?_ | refine S.inBlock_r ?_ | refine S.inBlock_x rfl ?_ | refine S.noGoto_r ?_ | refine S.noGoto_n ?_ | refine S.noGoto_x ?_)
    refine hK2 _ _ ?_
    refine S.seq fun K4 hK4 => ?_
    refine S.seq fun K5 hK5 => ?_
    refine S.region rfl ?_
    refine S.op (S.q (q_move rfl) rfl rfl ?_)
    refine S.op (S.q (q_ge rfl rfl) rfl rfl ?_)
    first | with_reducible refine S.nilK ?_ | refine S.nil ?_
    refine hK5 _ _ ?_
    refine S.condD rfl (fun h2 => ?_) (fun h2 => ?_)
    · omega
    · refine S.skip ?_
      with_reducible repeat (first | refine S.then_n ?_ | refine S.then_x ?_ | refine S.then_r ?_ | refine S.inBlock_n ?_ | refine S.inBlock_r ?_ | refine S.inBlock_x rfl ?_ | refine S.noGoto_r ?_ | refine S.noGoto_n ?_ | refine S.noGoto_x ?_)
      refine hK4 _ _ ?_
      refine S.seq fun K6 hK6 => ?_
      refine S.seq fun K7 hK7 => ?_
      refine S.region rfl ?_
      refine S.op (S.q (q_move rfl) rfl rfl ?_)
      refine S.op (S.q (q_ge rfl rfl) rfl rfl ?_)
      first | with_reducible refine S.nilK ?_ | refine S.nil ?_
      refine hK7 _ _ ?_
      refine S.condD rfl (fun h3 => ?_) (fun h3 => ?_)
      · have e3 : ((x : Int) / 2 ^ 8) = ((x / 256 : Nat) : Int) := by omega
        have h25 := hle (x / 256) (by omega)
        have hfin : (0 : Int) + 8 + (bitsLen (x / 256) : Nat) = (bitsLen x : Nat) := by rw [bitsLen_256 (x := x) (by omega)]; omega
        refine S.seq fun K8 hK8 => ?_
        refine S.region rfl ?_
        refine S.op (S.q (q_move rfl) rfl rfl ?_)
        refine S.op (S.q (q_shr 8 rfl rfl rfl rfl) rfl rfl ?_)
        refine S.op (S.q (q_assign rfl) rfl rfl ?_)
        first | with_reducible refine S.nilK ?_ | refine S.nil ?_
        refine hK8 _ _ ?_
        refine S.region rfl ?_
        refine S.op (S.q (q_move rfl) rfl rfl ?_)
        refine S.op (S.q (q_add rfl rfl (inI64 (by omega) (by omega))) rfl rfl ?_)
        refine S.op (S.q (q_assign rfl) rfl rfl ?_)
        first | with_reducible refine S.nilK ?_ | refine S.nil ?_
        refine hK6 _ _ ?_
        refine S.seq fun K9 hK9 => ?_
        refine S.region rfl ?_
        refine S.op (S.q (q_move rfl) rfl rfl ?_)
        refine S.op (S.q (q_move rfl) rfl rfl ?_)
        refine S.op (S.q (q_conv Tryd.it5 (by rw [Tryd.underlying184]; rfl) rfl (inU8 (by omega) (by omega))) rfl rfl ?_)
        refine S.op (S.q (q_lenAt _ Tryd.underlying9 rfl (by kernel_rfl) rfl e3 (by omega)) rfl rfl ?_)
        refine S.op (S.q (q_conv Tryd.it3 (by rw [Tryd.underlying5]; rfl) rfl (inI64 (by omega) (by omega))) rfl rfl ?_)
        refine S.op (S.q (q_add rfl rfl (inI64 (by omega) (by omega))) rfl rfl ?_)
        refine S.op (S.q (q_assign rfl) rfl rfl ?_)
        first | with_reducible refine S.nilK ?_ | refine S.nil ?_
        refine hK9 _ _ ?_
        refine S.ret ?_
        with_reducible repeat (first | refine S.then_n ?_ | refine S.then_x ?_ | refine S.then_r ?_ | refine S.inBlock_n ?_ | refine S.inBlock_r ?_ | refine S.inBlock_x rfl ?_ | refine S.noGoto_r ?_ | refine S.noGoto_n ?_ | refine S.noGoto_x ?_)
        exact S.fin (rs := [_]) (vs := [_]) Tryd.results110 (⟨rfl, trivial⟩)  (⟨by simp only [resV]; rw [hfin], rfl⟩) Sub.ent
      · have e3 : (x : Int) = ((x : Nat) : Int) := rfl
        have h25 := hle x (by omega)
        have hfin : (0 : Int) + (bitsLen x : Nat) = (bitsLen x : Nat) := by omega
        refine S.skip ?_
        with_reducible repeat (first | refine S.then_n ?_ | refine S.then_x ?_ | refine S.then_r ?_ | refine S.inBlock_n ?_ | refine S.inBlock_r ?_ | refine S.inBlock_x rfl ?_ | refine S.noGoto_r ?_ | refine S.noGoto_n ?_ | refine S.noGoto_x ?_)
        refine hK6 _ _ ?_
        refine S.seq fun K10 hK10 => ?_
        refine S.region rfl ?_
        refine S.op (S.q (q_move rfl) rfl rfl ?_)
        refine S.op (S.q (q_move rfl) rfl rfl ?_)
        refine S.op (S.q (q_conv Tryd.it5 (by rw [Tryd.underlying184]; rfl) rfl (inU8 (by omega) (by omega))) rfl rfl ?_)
        refine S.op (S.q (q_lenAt _ Tryd.underlying9 rfl (by kernel_rfl) rfl e3 (by omega)) rfl rfl ?_)
        refine S.op (S.q (q_conv Tryd.it3 (by rw [Tryd.underlying5]; rfl) rfl (inI64 (by omega) (by omega))) rfl rfl ?_)
        refine S.op (S.q (q_add rfl rfl (inI64 (by omega) (by omega))) rfl rfl ?_)
        refine S.op (S.q (q_assign rfl) rfl rfl ?_)
        first | with_reducible refine S.nilK ?_ | refine S.nil ?_
        refine hK10 _ _ ?_
        refine S.ret ?_
        with_reducible repeat (first | refine S.then_n ?_ | refine S.then_x ?_ | refine S.then_r ?_ | refine S.inBlock_n ?_ | refine S.inBlock_r ?_ | refine S.inBlock_x rfl ?_ | refine S.noGoto_r ?_ | refine S.noGoto_n ?_ | refine S.noGoto_x ?_)
        exact S.fin (rs := [_]) (vs := [_]) Tryd.results110 (⟨rfl, trivial⟩)  (⟨by simp only [resV]; rw [hfin], rfl⟩) Sub.ent
theorem Len_S (x : Nat) (hx : x < 65536) : Spec Tryd.prog 92 [.int .u64 (x : Int)] [] fun Γ v Θ => v = .int .i64 (bitsLen x : Nat) ∧ Θ = Γ := by
  refine Spec.of_body Tryd.func92 rfl Tryd.ntmps92 rfl ?_
  intro w0 Γ
  show S _ w0 [(0, .int .u64 (x : Int))] Γ _
  refine S.seq fun K1 hK1 => ?_
  refine S.region rfl ?_
  refine S.op (S.q (q_assign rfl) rfl rfl ?_)
  first | with_reducible refine S.nilK ?_ | refine S.nil ?_
  refine hK1 _ _ ?_
  refine S.seq fun K2 hK2 => ?_
  refine S.condF rfl ?_
  refine S.skip ?_
  with_reducible repeat (first | refine S.then_n ?_ | refine S.then_x ?_ | refine S.then_r ?_ | refine S.inBlock_n ?_ | refine S.inBlock_r ?_ | refine S.inBlock_x rfl ?_ | refine S.noGoto_r ?_ | refine S.noGoto_n ?_ | refine S.noGoto_x ?_)
  refine hK2 _ _ ?_
  refine S.seq fun K3 hK3 => ?_
  refine S.region rfl ?_
  refine S.op (S.q (q_move rfl) rfl rfl ?_)
  refine S.op (S.call Tryd.en110 (vs := [_]) ⟨rfl, trivial⟩ (Len64_S x hx) rfl ?_)
  rintro v Θ ⟨rfl, rfl⟩
  refine S.op (S.q (q_assign rfl) rfl rfl ?_)
  first | with_reducible refine S.nilK ?_ | refine S.nil ?_
  refine hK3 _ _ ?_
  refine S.ret ?_
  with_reducible repeat (first | refine S.then_n ?_ | refine S.then_x ?_ | refine S.then_r ?_ | refine S.inBlock_n ?_ | refine S.inBlock_r ?_ | refine S.inBlock_x rfl ?_ | refine S.noGoto_r ?_ | refine S.noGoto_n ?_ | refine S.noGoto_x ?_)
  exact S.fin (rs := [_]) (vs := [_]) Tryd.results92 (⟨rfl, trivial⟩)  (⟨rfl, rfl⟩) Sub.ent
theorem nextPow_S (x : Nat) (hx0 : 0 < x) (hx : x < 65536) : Spec Tryd.prog 117 [.int .i64 (x : Int)] [] fun Γ v Θ => ∃ p : Int, (x < p ∧ p ≤ 2 * x) ∧ v = .int .u64 p ∧ Θ = Γ := by
  refine Spec.of_body Tryd.func117 rfl Tryd.ntmps117 rfl ?_
  intro w0 Γ
  show S _ w0 [(0, .int .i64 (x : Int))] Γ _
  have h1 := lt_two_pow_bitsLen x
  have h2 := two_pow_bitsLen_le hx0
  have hb : bitsLen x ≤ 16 := (bitsLen_le_iff x 16).2 (by omega)
  have e2 : ((1 : Int) * 2 ^ bitsLen x) = ((2 ^ bitsLen x : Nat) : Int) := by rw [Int.one_mul]; norm_cast
  have hw : IntKind.u64.wrap ((1 : Int) * 2 ^ bitsLen x) = ((2 ^ bitsLen x : Nat) : Int) := by rw [e2]; exact wrap_in (inU64 (by omega) (by omega))
  refine S.seq fun K1 hK1 => ?_
  refine S.region rfl ?_
  refine S.op (S.q (q_assign rfl) rfl rfl ?_)
  first | with_reducible refine S.nilK ?_ | refine S.nil ?_
  refine hK1 _ _ ?_
  refine S.seq fun K2 hK2 => ?_
  refine S.region rfl ?_
  refine S.op (S.q (q_move rfl) rfl rfl ?_)
  refine S.op (S.q (q_conv Tryd.it165 (by rw [Tryd.underlying3]; rfl) rfl (inU64 (by omega) (by omega))) rfl rfl ?_)
  refine S.op (S.call Tryd.en92 (vs := [_]) ⟨rfl, trivial⟩ (Len_S x hx) rfl ?_)
  rintro v Θ ⟨rfl, rfl⟩
  refine S.op (S.q (q_shlE (bitsLen x) rfl rfl rfl (Nat.ble_eq_true_of_le (Nat.le_trans hb (by decide)))) rfl rfl ?_)
  refine S.op (S.q (q_assign rfl) rfl rfl ?_)
  first | with_reducible refine S.nilK ?_ | refine S.nil ?_
  refine hK2 _ _ ?_
  refine S.ret ?_
  with_reducible repeat (first | refine S.then_n ?_ | refine S.then_x ?_ | refine S.then_r ?_ | refine S.inBlock_n ?_ | refine S.inBlock_r ?_ | refine S.inBlock_x rfl ?_ | refine S.noGoto_r ?_ | refine S.noGoto_n ?_ | refine S.noGoto_x ?_)
  exact S.fin (rs := [_]) (vs := [_]) Tryd.results117 (⟨rfl, trivial⟩)  (⟨_, ⟨by rw [hw]; omega, by rw [hw]; omega⟩, rfl, rfl⟩) Sub.ent
theorem xorNext_S (b : Nat) (r : Int) : Spec Tryd.prog 118 [.pointer (some ⟨b, 0, none⟩)] [blk b 189 #[.int .u64 r]] fun Γ v Θ => ∃ r', v = .int .u64 r' ∧ Θ = blk b 189 #[.int .u64 r'] :: Γ := by
  refine Spec.of_body Tryd.func118 rfl Tryd.ntmps118 rfl ?_
  intro w0 Γ
  show S _ w0 [(0, .pointer (some ⟨b, 0, none⟩))] (blk b 189 #[.int .u64 r] :: Γ) _
  refine S.seq fun K1 hK1 => ?_
  refine S.region rfl ?_
  refine S.op (S.q (q_assign rfl) rfl rfl ?_)
  first | with_reducible refine S.nilK ?_ | refine S.nil ?_
  refine hK1 _ _ ?_
  refine S.seq fun K2 hK2 => ?_
  refine S.draw ([blk b 189 #[.int .u64 r]]) [9] Tryd.mixed ?_
  refine S.dr_take 0 [1, 2, 7, 8, 9] rfl (by kernel_rfl) rfl rfl rfl (q_move rfl) Sub.ent ?_
  refine S.dr_take 1 [2, 7, 8, 9] rfl (by kernel_rfl) rfl rfl rfl (q_nilCheck rfl) Sub.ent ?_
  refine S.dr_take 2 [7, 8, 9] rfl (by kernel_rfl) rfl rfl rfl (q_load Tryd.at189 rfl rfl) Sub.ent ?_
  refine S.dr_take 3 [4, 5, 6, 7, 8, 9] rfl (by kernel_rfl) rfl rfl rfl (q_move rfl) Sub.ent ?_
  refine S.dr_take 4 [5, 6, 7, 8, 9] rfl (by kernel_rfl) rfl rfl rfl (q_nilCheck rfl) Sub.ent ?_
  refine S.dr_take 5 [6, 7, 8, 9] rfl (by kernel_rfl) rfl rfl rfl (q_load Tryd.at189 rfl rfl) Sub.ent ?_
  refine S.dr_take 6 [7, 8, 9] rfl (by kernel_rfl) rfl rfl rfl (q_shlE 13 rfl rfl rfl rfl) Sub.ent ?_
  refine S.dr_take 7 [8, 9] rfl (by kernel_rfl) rfl rfl rfl (q_xorE rfl rfl) Sub.ent ?_
  refine S.dr_take 8 [9] rfl (by kernel_rfl) rfl rfl rfl (q_nilCheck rfl) Sub.ent ?_
  refine S.dr_1 (i := 9) (by kernel_rfl) rfl rfl ?_
  generalize xorV r (IntKind.u64.wrap (r * 2 ^ 13)) = r1
  refine  (S.store (cs' := [_]) Tryd.at189 rfl rfl rfl rfl rfl ?_)
  refine S.dr_late ([]) [] rfl ?_
  first | with_reducible refine S.dr_doneK (by kernel_rfl) ?_ | refine S.dr_done (by kernel_rfl) ?_
  refine hK2 _ _ ?_
  refine S.seq fun K3 hK3 => ?_
  refine S.draw ([blk b 189 #[.int .u64 r1]]) [9] Tryd.mixed ?_
  refine S.dr_take 0 [1, 2, 7, 8, 9] rfl (by kernel_rfl) rfl rfl rfl (q_move rfl) Sub.ent ?_
  refine S.dr_take 1 [2, 7, 8, 9] rfl (by kernel_rfl) rfl rfl rfl (q_nilCheck rfl) Sub.ent ?_
  refine S.dr_take 2 [7, 8, 9] rfl (by kernel_rfl) rfl rfl rfl (q_load Tryd.at189 rfl rfl) Sub.ent ?_
  refine S.dr_take 3 [4, 5, 6, 7, 8, 9] rfl (by kernel_rfl) rfl rfl rfl (q_move rfl) Sub.ent ?_
  refine S.dr_take 4 [5, 6, 7, 8, 9] rfl (by kernel_rfl) rfl rfl rfl (q_nilCheck rfl) Sub.ent ?_
  refine S.dr_take 5 [6, 7, 8, 9] rfl (by kernel_rfl) rfl rfl rfl (q_load Tryd.at189 rfl rfl) Sub.ent ?_
  refine S.dr_take 6 [7, 8, 9] rfl (by kernel_rfl) rfl rfl rfl (q_shr 7 rfl rfl rfl rfl) Sub.ent ?_
  refine S.dr_take 7 [8, 9] rfl (by kernel_rfl) rfl rfl rfl (q_xorE rfl rfl) Sub.ent ?_
  refine S.dr_take 8 [9] rfl (by kernel_rfl) rfl rfl rfl (q_nilCheck rfl) Sub.ent ?_
  refine S.dr_1 (i := 9) (by kernel_rfl) rfl rfl ?_
  generalize xorV r1 (r1 / 2 ^ 7) = r2
  refine  (S.store (cs' := [_]) Tryd.at189 rfl rfl rfl rfl rfl ?_)
  refine S.dr_late ([]) [] rfl ?_
  first | with_reducible refine S.dr_doneK (by kernel_rfl) ?_ | refine S.dr_done (by kernel_rfl) ?_
  refine hK3 _ _ ?_
  refine S.seq fun K4 hK4 => ?_
  refine S.draw ([blk b 189 #[.int .u64 r2]]) [9] Tryd.mixed ?_
  refine S.dr_take 0 [1, 2, 7, 8, 9] rfl (by kernel_rfl) rfl rfl rfl (q_move rfl) Sub.ent ?_
  refine S.dr_take 1 [2, 7, 8, 9] rfl (by kernel_rfl) rfl rfl rfl (q_nilCheck rfl) Sub.ent ?_
  refine S.dr_take 2 [7, 8, 9] rfl (by kernel_rfl) rfl rfl rfl (q_load Tryd.at189 rfl rfl) Sub.ent ?_
  refine S.dr_take 3 [4, 5, 6, 7, 8, 9] rfl (by kernel_rfl) rfl rfl rfl (q_move rfl) Sub.ent ?_
  refine S.dr_take 4 [5, 6, 7, 8, 9] rfl (by kernel_rfl) rfl rfl rfl (q_nilCheck rfl) Sub.ent ?_
  refine S.dr_take 5 [6, 7, 8, 9] rfl (by kernel_rfl) rfl rfl rfl (q_load Tryd.at189 rfl rfl) Sub.ent ?_
  refine S.dr_take 6 [7, 8, 9] rfl (by kernel_rfl) rfl rfl rfl (q_shlE 17 rfl rfl rfl rfl) Sub.ent ?_
  refine S.dr_take 7 [8, 9] rfl (by kernel_rfl) rfl rfl rfl (q_xorE rfl rfl) Sub.ent ?_
  refine S.dr_take 8 [9] rfl (by kernel_rfl) rfl rfl rfl (q_nilCheck rfl) Sub.ent ?_
  refine S.dr_1 (i := 9) (by kernel_rfl) rfl rfl ?_
  generalize xorV r2 (IntKind.u64.wrap (r2 * 2 ^ 17)) = r3
  refine  (S.store (cs' := [_]) Tryd.at189 rfl rfl rfl rfl rfl ?_)
  refine S.dr_late ([]) [] rfl ?_
  first | with_reducible refine S.dr_doneK (by kernel_rfl) ?_ | refine S.dr_done (by kernel_rfl) ?_
  refine hK4 _ _ ?_
  refine S.seq fun K5 hK5 => ?_
  refine S.region rfl ?_
  refine S.op (S.q (q_move rfl) rfl rfl ?_)
  refine S.op (S.q (q_nilCheck rfl) rfl rfl ?_)
  refine S.op (S.q (q_load Tryd.at189 rfl rfl) rfl rfl ?_)
  refine S.op (S.q (q_assign rfl) rfl rfl ?_)
  first | with_reducible refine S.nilK ?_ | refine S.nil ?_
  refine hK5 _ _ ?_
  refine S.ret ?_
  with_reducible repeat (first | refine S.then_n ?_ | refine S.then_x ?_ | refine S.then_r ?_ | refine S.inBlock_n ?_ | refine S.inBlock_r ?_ | refine S.inBlock_x rfl ?_ | refine S.noGoto_r ?_ | refine S.noGoto_n ?_ | refine S.noGoto_x ?_)
  exact S.fin (rs := [_]) (vs := [_]) Tryd.results118 (⟨rfl, trivial⟩)  (⟨_, rfl, rfl⟩) Sub.ent
theorem break_S (s : SV) (d : Array Int) (a b : Nat) (hab : a + 12 < b) (hb : b ≤ d.size) (hsz : d.size ≤ 65535) (hsn : s.n = d.size) : Spec Tryd.prog 123 [s.v, .int .i64 (a : Int), .int .i64 (b : Int)] [own s 44 1 (uA d)] fun Γ _ Θ => ∃ e, PermIn a b d e ∧ Θ = own s 44 1 (uA e) :: Γ := by
  refine Spec.of_body Tryd.func123 rfl Tryd.ntmps123 rfl ?_
  intro w0 Γ
  show S _ w0 [(0, s.v), (1, .int .i64 (a : Int)), (2, .int .i64 (b : Int))] (own s 44 1 (uA d) :: Γ) _
  refine S.ownSome s (by omega) fun sb so hsa _ _ _ => ?_
  obtain ⟨l, hl⟩ : ∃ l : Nat, (l : Int) = (b : Int) - a := ⟨b - a, by omega⟩
  refine S.seq fun K1 hK1 => ?_
  refine S.region rfl ?_
  refine S.op (S.q (q_move rfl) rfl rfl ?_)
  refine S.op (S.q (q_move rfl) rfl rfl ?_)
  refine S.op (S.q (q_sub rfl rfl (inI64 (by omega) (by omega))) rfl rfl ?_)
  refine S.op (S.q (q_assign rfl) rfl rfl ?_)
  first | with_reducible refine S.nilK ?_ | refine S.nil ?_
  refine hK1 _ _ ?_
  refine S.seq fun K2 hK2 => ?_
  refine S.region rfl ?_
  refine S.op (S.q (q_move rfl) rfl rfl ?_)
  refine S.op (S.q (q_ge rfl rfl) rfl rfl ?_)
  first | with_reducible refine S.nilK ?_ | refine S.nil ?_
  refine hK2 _ _ ?_
  refine S.condD rfl (fun h1 => ?_) (fun h1 => ?_)
  · refine S.seq fun K3 hK3 => ?_
    refine S.region rfl ?_
    refine S.op (S.q (q_move rfl) rfl rfl ?_)
    rw [← hl]
    refine S.op (S.q (q_conv Tryd.it189 (by rw [Tryd.underlying3]; rfl) rfl (inU64 (by omega) (by omega))) rfl rfl ?_)
    refine S.op (S.alloc Tryd.z189 rfl ?_)
    intro b7
    refine S.op (S.store (cs' := [_]) Tryd.at189 rfl rfl rfl rfl rfl ?_)
    first | with_reducible refine S.nilK ?_ | refine S.nil ?_
    refine hK3 _ _ ?_
    refine S.seq fun K4 hK4 => ?_
    refine S.region rfl ?_
    refine S.op (S.q (q_move rfl) rfl rfl ?_)
    refine S.op (S.call Tryd.en117 (vs := [_]) ⟨rfl, trivial⟩ (nextPow_S l (by omega) (by omega)) rfl ?_)
    rintro v Θ ⟨p, hp, rfl, rfl⟩
    refine S.op (S.q (q_assign rfl) rfl rfl ?_)
    first | with_reducible refine S.nilK ?_ | refine S.nil ?_
    refine hK4 _ _ ?_
    refine S.seq fun K5 hK5 => ?_
    refine S.region rfl ?_
    refine S.op (S.q (q_move rfl) rfl rfl ?_)
    refine S.op (S.q (q_move rfl) rfl rfl ?_)
    refine S.op (S.q (q_quo rfl rfl (⟨by omega, by omega⟩) (inI64 (by omega) (by omega))) rfl rfl ?_)
    refine S.op (S.q (q_mul rfl rfl (inI64 (by omega) (by omega))) rfl rfl ?_)
    refine S.op (S.q (q_add rfl rfl (inI64 (by omega) (by omega))) rfl rfl ?_)
    refine S.op (S.q (q_sub rfl rfl (inI64 (by omega) (by omega))) rfl rfl ?_)
    refine S.op (S.q (q_assign rfl) rfl rfl ?_)
    first | with_reducible refine S.nilK ?_ | refine S.nil ?_
    refine hK5 _ _ ?_
    refine S.block ?_
    refine S.loop (fun q ρ' Γ' => ∃ (x : Nat) (zx : Int) (r : Int) (e : Array Int), q = a + l - x ∧ zx = x ∧ a ≤ x ∧ x ≤ a + l / 4 * 2 + 2 ∧ e.size = d.size ∧ PermIn a b d e ∧ ρ' = [(0, s.v), (1, .int .i64 (a : Int)), (6, .int .i64 (l : Int)), (7, .pointer (some ⟨b7, 0, none⟩)), (8, .int .u64 p), (9, .int .i64 zx)] ∧ Γ' = own s 44 1 (uA e) :: blk b7 189 #[.int .u64 r] :: Γ) (m := _) (ρ0 := _) (Γ0 := _) (⟨a + l / 4 * 2 - 1, (a : Int) + (l : Int) / 4 * 2 - 1, (l : Int), d, rfl, by omega, by omega, by omega, rfl, permIn_refl _ _ _, rfl, rfl⟩) (by repeat (first | exact trivial | refine ⟨rfl, ?_⟩)) Sub.ent ?_
    rintro q ρ' Γ' ⟨x, zx, r, e, hq, hzx, hax, hxl, hes, hpe, rfl, rfl⟩
    refine S.seq fun K6 hK6 => ?_
    refine S.seq fun K7 hK7 => ?_
    refine S.region rfl ?_
    refine S.op (S.q (q_move rfl) rfl rfl ?_)
    refine S.op (S.q (q_move rfl) rfl rfl ?_)
    refine S.op (S.q (q_move rfl) rfl rfl ?_)
    refine S.op (S.q (q_quo rfl rfl (⟨by omega, by omega⟩) (inI64 (by omega) (by omega))) rfl rfl ?_)
    refine S.op (S.q (q_mul rfl rfl (inI64 (by omega) (by omega))) rfl rfl ?_)
    refine S.op (S.q (q_add rfl rfl (inI64 (by omega) (by omega))) rfl rfl ?_)
    refine S.op (S.q (q_add rfl rfl (inI64 (by omega) (by omega))) rfl rfl ?_)
    refine S.op (S.q (q_le rfl rfl) rfl rfl ?_)
    first | with_reducible refine S.nilK ?_ | refine S.nil ?_
    refine hK7 _ _ ?_
    refine S.condD rfl (fun h2 => ?_) (fun h2 => ?_)
    · refine S.skip ?_
      with_reducible repeat (first | refine S.then_n ?_ | refine S.then_x ?_ | refine S.then_r ?_ | refine S.inBlock_n ?_ | refine S.inBlock_r ?_ | refine S.inBlock_x rfl ?_ | refine S.noGoto_r ?_ | refine S.noGoto_n ?_ | refine S.noGoto_x ?_)
      refine hK6 _ _ ?_
      refine S.seq fun K8 hK8 => ?_
      refine S.block ?_
      refine S.seq fun K9 hK9 => ?_
      refine S.region rfl ?_
      refine S.op (S.call Tryd.en118 (vs := [_]) ⟨rfl, trivial⟩ (xorNext_S b7 r) rfl ?_)
      rintro v Θ ⟨r2, rfl, rfl⟩
      refine S.op (S.q (q_move rfl) rfl rfl ?_)
      refine S.op (S.q (q_sub rfl rfl (inU64 (by omega) (by omega))) rfl rfl ?_)
      refine S.op (S.q (q_andE rfl rfl) rfl rfl ?_)
      obtain ⟨o, ho⟩ : ∃ o, o = andV r2 (p - 1) := ⟨_, rfl⟩
      have hor := andV_le r2 (q := p - 1) ⟨by omega, by omega⟩
      rw [← ho] at hor ⊢
      refine S.op (S.q (q_conv Tryd.it3 (by rw [Tryd.underlying165]; rfl) rfl (inI64 (by omega) (by omega))) rfl rfl ?_)
      refine S.op (S.q (q_assign rfl) rfl rfl ?_)
      first | with_reducible refine S.nilK ?_ | refine S.nil ?_
      refine hK9 _ _ ?_
      refine S.seq fun K10 hK10 => ?_
      refine S.seq fun K11 hK11 => ?_
      refine S.region rfl ?_
      refine S.op (S.q (q_move rfl) rfl rfl ?_)
      refine S.op (S.q (q_move rfl) rfl rfl ?_)
      refine S.op (S.q (q_ge rfl rfl) rfl rfl ?_)
      first | with_reducible refine S.nilK ?_ | refine S.nil ?_
      refine hK11 _ _ ?_
      refine S.cut (fun ρ' Γ' => ∃ (y : Nat) (zy : Int), zy = y ∧ y < l ∧ ρ' = [(0, s.v), (1, .int .i64 (a : Int)), (6, .int .i64 (l : Int)), (7, .pointer (some ⟨b7, 0, none⟩)), (8, .int .u64 p), (9, .int .i64 zx), (10, .int .i64 zy)] ∧ Γ' = own s 44 1 (uA e) :: blk b7 189 #[.int .u64 r2] :: Γ) ?_ ?_
      · refine S.condD rfl (fun h3 => ?_) (fun h3 => ?_)
        · refine S.region rfl ?_
          refine S.op (S.q (q_move rfl) rfl rfl ?_)
          refine S.op (S.q (q_move rfl) rfl rfl ?_)
          refine S.op (S.q (q_sub rfl rfl (inI64 (by omega) (by omega))) rfl rfl ?_)
          refine S.op (S.q (q_assign rfl) rfl rfl ?_)
          first | with_reducible refine S.nilK ?_ | refine S.nil ?_
          with_reducible repeat (first | refine S.then_n ?_ | refine S.then_x ?_ | refine S.then_r ?_ | refine S.inBlock_n ?_ | refine S.inBlock_r ?_ | refine S.inBlock_x rfl ?_ | refine S.noGoto_r ?_ | refine S.noGoto_n ?_ | refine S.noGoto_x ?_)
          first | exact S.meet ⟨(o - l).toNat, o - l, by omega, by omega, rfl, rfl⟩ ⟨rfl, rfl, rfl, rfl, rfl, rfl, rfl, trivial⟩ Sub.ent | exact S.meet ⟨o.toNat, o, by omega, by omega, rfl, rfl⟩ ⟨rfl, rfl, rfl, rfl, rfl, rfl, rfl, trivial⟩ Sub.ent
        · refine S.skip ?_
          with_reducible repeat (first | refine S.then_n ?_ | refine S.then_x ?_ | refine S.then_r ?_ | refine S.inBlock_n ?_ | refine S.inBlock_r ?_ | refine S.inBlock_x rfl ?_ | refine S.noGoto_r ?_ | refine S.noGoto_n ?_ | refine S.noGoto_x ?_)
          with_reducible repeat (first | refine S.then_n ?_ | refine S.then_x ?_ | refine S.then_r ?_ | refine S.inBlock_n ?_ | refine S.inBlock_r ?_ | refine S.inBlock_x rfl ?_ | refine S.noGoto_r ?_ | refine S.noGoto_n ?_ | refine S.noGoto_x ?_)
          first | exact S.meet ⟨(o - l).toNat, o - l, by omega, by omega, rfl, rfl⟩ ⟨rfl, rfl, rfl, rfl, rfl, rfl, rfl, trivial⟩ Sub.ent | exact S.meet ⟨o.toNat, o, by omega, by omega, rfl, rfl⟩ ⟨rfl, rfl, rfl, rfl, rfl, rfl, rfl, trivial⟩ Sub.ent
      · rintro ρ' Γ' ⟨y, zy, hzy, hyl, rfl, rfl⟩
        refine hK10 _ _ ?_
        refine S.draw ([own s 44 1 (uA e)]) [17] Tryd.mixed ?_
        refine S.dr_take 0 [16, 17, 18, 19] rfl (by kernel_rfl) rfl rfl rfl (q_move rfl) Sub.ent ?_
        refine S.dr_take 1 [16, 17, 18, 19] rfl (by kernel_rfl) rfl rfl rfl (q_move rfl) Sub.ent ?_
        refine S.dr_takeP 2 rfl (by kernel_rfl) rfl rfl rfl (q_move rfl) Sub.ent ?_
        refine S.dr_takeP 3 rfl (by kernel_rfl) rfl rfl rfl (q_move rfl) Sub.ent ?_
        refine S.dr_takeP 4 rfl (by kernel_rfl) rfl rfl rfl (q_move rfl) Sub.ent ?_
        refine S.dr_takeP 5 rfl (by kernel_rfl) rfl rfl rfl (q_add rfl rfl (inI64 (by omega) (by omega))) Sub.ent ?_
        refine S.dr_take 6 [10, 11, 16, 17, 18, 19] rfl (by kernel_rfl) rfl rfl rfl (q_move rfl) Sub.ent ?_
        refine S.dr_take 7 [9, 10, 11, 16, 17, 18, 19] rfl (by kernel_rfl) rfl rfl rfl (q_move rfl) Sub.ent ?_
        refine S.dr_take 8 [9, 10, 11, 16, 17, 18, 19] rfl (by kernel_rfl) rfl rfl rfl (q_move rfl) Sub.ent ?_
        refine S.dr_take 9 [10, 11, 16, 17, 18, 19] rfl (by kernel_rfl) rfl rfl rfl (q_add rfl rfl (inI64 (by omega) (by omega))) Sub.ent ?_
        refine S.dr_take 10 [11, 16, 17, 18, 19] rfl (by kernel_rfl) rfl rfl rfl (q_indexO (a + y) Tryd.el31 rfl hsa rfl (by omega) (by omega)) Sub.ent ?_
        refine S.dr_take 11 [16, 17, 18, 19] rfl (by kernel_rfl) rfl rfl rfl (q_loadOw (s) (a + y) Tryd.at44 rfl hsa (by first | rfl | exact Nat.add_assoc _ _ _ | omega) (uA_get (by omega))) Sub.ent ?_
        refine S.dr_take 12 [14, 15, 16, 17, 18, 19] rfl (by kernel_rfl) rfl rfl rfl (q_move rfl) Sub.ent ?_
        refine S.dr_take 13 [14, 15, 16, 17, 18, 19] rfl (by kernel_rfl) rfl rfl rfl (q_move rfl) Sub.ent ?_
        refine S.dr_take 14 [15, 16, 17, 18, 19] rfl (by kernel_rfl) rfl rfl rfl (q_indexO (x) Tryd.el31 rfl hsa rfl hzx (by omega)) Sub.ent ?_
        refine S.dr_take 15 [16, 17, 18, 19] rfl (by kernel_rfl) rfl rfl rfl (q_loadOw (s) (x) Tryd.at44 rfl hsa (by first | rfl | exact Nat.add_assoc _ _ _ | omega) (uA_get (by omega))) Sub.ent ?_
        refine S.dr_take 16 [17, 18, 19] rfl (by kernel_rfl) rfl rfl rfl (q_indexO (x) Tryd.el31 rfl hsa rfl hzx (by omega)) Sub.ent ?_
        refine S.dr_1 (i := 17) (by kernel_rfl) rfl rfl ?_
        refine  (S.storeOw (s) (x) Tryd.at44 rfl rfl rfl hsa (by first | rfl | exact Nat.add_assoc _ _ _ | omega) (by rw [uA_len]; omega) (uA_set _ _ _) ?_)
        refine S.dr_late ([]) [] rfl ?_
        refine S.dr_take 18 [] rfl (by kernel_rfl) rfl rfl rfl (q_indexO (a + y) Tryd.el31 rfl hsa rfl (by omega) (by omega)) Sub.ent ?_
        refine S.dr_1 (i := 19) (by kernel_rfl) rfl rfl ?_
        refine  (S.storeOw (s) (a + y) Tryd.at44 rfl rfl rfl hsa (by first | rfl | exact Nat.add_assoc _ _ _ | omega) (by rw [uA_len, Array.size_setIfInBounds]; omega) (show _ = uA (Go.Sort.swp e (x) (a + y)) from uA_set _ _ _) ?_)
        refine S.dr_k rfl Sub.ent ?_
        first | with_reducible refine S.dr_doneK (by kernel_rfl) ?_ | refine S.dr_done (by kernel_rfl) ?_
        with_reducible repeat (first | refine S.then_n ?_ | refine S.then_x ?_ | refine S.then_r ?_ | refine S.inBlock_n ?_ | refine S.inBlock_r ?_ | refine S.inBlock_x rfl ?_ | refine S.noGoto_r ?_ | refine S.noGoto_n ?_ | refine S.noGoto_x ?_)
        refine hK8 _ _ ?_
        refine S.region rfl ?_
        refine S.op (S.q (q_move rfl) rfl rfl ?_)
        refine S.op (S.q (q_add rfl rfl (inI64 (by omega) (by omega))) rfl rfl ?_)
        refine S.op (S.q (q_assign rfl) rfl rfl ?_)
        first | with_reducible refine S.nilK ?_ | refine S.nil ?_
        with_reducible repeat (first | refine S.then_n ?_ | refine S.then_x ?_ | refine S.then_r ?_ | refine S.inBlock_n ?_ | refine S.inBlock_r ?_ | refine S.inBlock_x rfl ?_ | refine S.noGoto_r ?_ | refine S.noGoto_n ?_ | refine S.noGoto_x ?_)
        exact S.next (q - 1) (⟨x + 1, zx + 1, r2, swp e x (a + y), by omega, by omega, by omega, by omega, by rw [swpZ, hes], PermIn.swpZ (a := a) (b := b) (d := d) (e := e) hpe (by omega) (by omega) (by omega) (by omega) hb, rfl, rfl⟩) (by omega) (by repeat (first | exact trivial | refine ⟨rfl, ?_⟩)) Sub.ent
    · refine S.exit ?_
      with_reducible repeat (first | refine S.then_n ?_ | refine S.then_x ?_ | refine S.then_r ?_ | refine S.inBlock_n ?_ | refine S.inBlock_r ?_ | refine S.inBlock_x rfl ?_ | refine S.noGoto_r ?_ | refine S.noGoto_n ?_ | refine S.noGoto_x ?_)
      with_reducible refine S.inBlock_s ?_
      with_reducible repeat (first | refine S.then_n ?_ | refine S.then_x ?_ | refine S.then_r ?_ | refine S.inBlock_n ?_ | refine S.inBlock_r ?_ | refine S.inBlock_x rfl ?_ | refine S.noGoto_r ?_ | refine S.noGoto_n ?_ | refine S.noGoto_x ?_)
      with_reducible repeat (first | refine S.then_n ?_ | refine S.then_x ?_ | refine S.then_r ?_ | refine S.inBlock_n ?_ | refine S.inBlock_r ?_ | refine S.inBlock_x rfl ?_ | refine S.noGoto_r ?_ | refine S.noGoto_n ?_ | refine S.noGoto_x ?_)
      exact S.finN (rs := []) (vs := []) Tryd.results123 (trivial)  (⟨e, hpe, rfl⟩) Sub.ent
  · omega
end Go.Proofs.YtmhdapbfpenjpaaDoor
