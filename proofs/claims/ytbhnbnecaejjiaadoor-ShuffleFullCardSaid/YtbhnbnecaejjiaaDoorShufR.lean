/- Once rows are put together none can be; once jobs are put ahead none can move. Of no program. -/
import Derived.Test.YtbhnbnecaejjiaaDoorShufC
namespace Go.Proofs.YtbhnbnecaejjiaaDoor
open Go.RowKit
set_option maxRecDepth 20000
theorem meet_iff {s t : Bs} : s &&& t ≠ 0#16 ↔ ∃ i, s.getLsbD i = true ∧ t.getLsbD i = true := by
  constructor
  · intro h
    refine Classical.byContradiction fun hn => h (BitVec.eq_of_getLsbD_eq fun i _ => ?_)
    rw [BitVec.getLsbD_and]
    cases h1 : s.getLsbD i with
    | false => simp
    | true =>
      cases h2 : t.getLsbD i with
      | false => simp
      | true => exact absurd ⟨i, h1, h2⟩ hn
  · rintro ⟨i, h1, h2⟩ e
    have := congrArg (fun s => s.getLsbD i) e
    simp only [BitVec.getLsbD_and, h1, h2] at this
    simp at this
theorem tk_toRow {m : Mx} (hm : MxOk m) {f t : Nat} (hf : f < m.R) (hft : f ≠ t) (o : Nat) : tk (toRow m.js (rowIds m f) t) o = if o = t then tk m.js t ||| tk m.js f else if o = f then 0#16 else tk m.js o := by
  have hin : ∀ x ∈ m.js, x.id ∈ rowIds m f ↔ x.row = f := fun x hx => by
    rw [mem_rowIds hm hf]
    constructor
    · rintro ⟨y, h1, h2, h3⟩
      rw [← id_inj hm.srt h1 hx h3]
      exact h2
    · intro h
      exact ⟨x, hx, h, rfl⟩
  refine lst_ext fun i => ?_
  rw [tk_bit]
  constructor
  · rintro ⟨y, h1, h2, h3⟩
    rcases mem_toRow.1 h1 with ⟨x, x1, x2, rfl⟩ | ⟨x1, x2⟩
    · have h2 : t = o := h2
      subst h2
      rw [if_pos rfl, BitVec.getLsbD_or, Bool.or_eq_true]
      exact .inr ((tk_bit _ _ _).2 ⟨x, x1, (hin x x1).1 x2, h3⟩)
    · have hyf : y.row ≠ f := fun e => x2 ((hin y x1).2 e)
      have hb := (tk_bit m.js o i).2 ⟨y, x1, h2, h3⟩
      by_cases e : o = t
      · subst e
        rw [if_pos rfl, BitVec.getLsbD_or, Bool.or_eq_true]
        exact .inl hb
      · rw [if_neg e, if_neg (by omega)]
        exact hb
  · intro h
    have back : ∀ p, p ≠ f → (tk m.js p).getLsbD i = true → ∃ x ∈ toRow m.js (rowIds m f) t, x.row = p ∧ x.ns.getLsbD i = true := fun p hp hb => by
      obtain ⟨x, x1, x2, x3⟩ := (tk_bit _ _ _).1 hb
      exact ⟨x, mem_toRow.2 (.inr ⟨x1, fun e => hp (x2 ▸ (hin x x1).1 e)⟩), x2, x3⟩
    by_cases e : o = t
    · subst e
      rw [if_pos rfl, BitVec.getLsbD_or, Bool.or_eq_true] at h
      rcases h with h | h
      · exact back o (fun h => hft h.symm) h
      · obtain ⟨x, x1, x2, x3⟩ := (tk_bit _ _ _).1 h
        exact ⟨_, mem_toRow.2 (.inl ⟨x, x1, (hin x x1).2 x2, rfl⟩), rfl, x3⟩
    · rw [if_neg e] at h
      by_cases e2 : o = f
      · rw [if_pos e2] at h
        simp at h
      · rw [if_neg e2] at h
        exact back o e2 h
theorem allR_yes {m : Mx} (hm : MxOk m) {f t : Nat} (hf : f < m.R) (ht : t < m.R) (hft : f ≠ t) (h : tk m.js f &&& tk m.js t = 0#16) (o : Nat) : tk (allR m f t).2.js o = if o = t then tk m.js t ||| tk m.js f else if o = f then 0#16 else tk m.js o := by
  obtain ⟨a, ha⟩ := runUp_can hm hf ht hft h _ (Nat.le_refl _)
  obtain ⟨_, h2, _⟩ := runUp_some hm (Nat.le_refl _) ha
  rw [List.take_length] at h2
  rw [allR, ha]
  show tk a.2.js o = _
  rw [h2]
  exact tk_toRow hm hf hft o
theorem allR_no {m : Mx} (hm : MxOk m) {f t : Nat} (hf : f < m.R) (hft : f ≠ t) (h : tk m.js f &&& tk m.js t ≠ 0#16) : allR m f t = ([], m) := by
  unfold allR
  cases ha : runUp m t (rowIds m f) (rowIds m f).length with
  | none => rfl
  | some a => exact absurd (runUp_cannot hm hf hft ha) h
theorem rowIds_nil {m : Mx} (hm : MxOk m) {f : Nat} (hf : f < m.R) : rowIds m f = [] ↔ tk m.js f = 0#16 := by
  constructor
  · intro h
    refine lst_ext fun i => ?_
    rw [tk_bit]
    constructor
    · rintro ⟨x, x1, x2, _⟩
      have := (mem_rowIds hm hf).2 ⟨x, x1, x2, rfl⟩
      rw [h] at this
      cases this
    · intro h; simp at h
  · intro h
    refine List.eq_nil_iff_forall_not_mem.2 fun j hj => ?_
    obtain ⟨x, x1, x2, _⟩ := (mem_rowIds hm hf).1 hj
    have h1 := tz_mem (hm.some x x1)
    have h2 := (tk_bit m.js f (tz x.ns)).2 ⟨x, x1, x2, mem_lst.1 h1⟩
    rw [h] at h2
    simp at h2
theorem allR_nil {m : Mx} (hm : MxOk m) {f t : Nat} (hf : f < m.R) (h : tk m.js f = 0#16) : allR m f t = ([], m) := by
  have := (rowIds_nil hm hf).2 h
  unfold allR
  rw [this]
  rfl
/-- Row j is empty, or can't be put into row i. -/
def Cr (m : Mx) (i j : Nat) : Prop := tk m.js j = 0#16 ∨ tk m.js i &&& tk m.js j ≠ 0#16
theorem and_comm16 (s t : Bs) : s &&& t = t &&& s := BitVec.and_comm s t
theorem allR_Cr {m : Mx} (hm : MxOk m) {i j : Nat} (hij : i < j) (hj : j < m.R) (h : ∀ a, a < i → ∀ b, a < b → b < m.R → Cr m a b) (h2 : ∀ b, i < b → b < j → Cr m i b) :
    (∀ a, a < i → ∀ b, a < b → b < m.R → Cr (allR m j i).2 a b) ∧ ∀ b, i < b → b < j + 1 → Cr (allR m j i).2 i b := by
  by_cases hd : tk m.js j &&& tk m.js i = 0#16
  · have ht := allR_yes hm hj (show i < m.R by omega) (by omega) hd
    constructor
    · intro a ha b hab hb
      by_cases e1 : b = j
      · exact .inl (by rw [ht, if_neg (by omega), if_pos e1])
      · have ea : tk (allR m j i).2.js a = tk m.js a := by rw [ht, if_neg (by omega), if_neg (by omega)]
        by_cases e2 : b = i
        · subst e2
          have eb : tk (allR m j b).2.js b = tk m.js b ||| tk m.js j := by rw [ht, if_pos rfl]
          unfold Cr
          rw [ea, eb]
          rcases h a ha b hab hb with q1 | q1
          · rcases h a ha j (by omega) hj with q2 | q2
            · left; rw [q1, q2]; rfl
            · right
              obtain ⟨k, k1, k2⟩ := meet_iff.1 q2
              exact meet_iff.2 ⟨k, k1, by rw [BitVec.getLsbD_or, k2, Bool.or_true]⟩
          · right
            obtain ⟨k, k1, k2⟩ := meet_iff.1 q1
            exact meet_iff.2 ⟨k, k1, by rw [BitVec.getLsbD_or, k2, Bool.true_or]⟩
        · have eb : tk (allR m j i).2.js b = tk m.js b := by rw [ht, if_neg e2, if_neg e1]
          unfold Cr
          rw [ea, eb]
          exact h a ha b hab hb
    · intro b hib hb
      by_cases e1 : b = j
      · exact .inl (by rw [ht, if_neg (by omega), if_pos e1])
      · have eb : tk (allR m j i).2.js b = tk m.js b := by rw [ht, if_neg (by omega), if_neg e1]
        have ei : tk (allR m j i).2.js i = tk m.js i ||| tk m.js j := by rw [ht, if_pos rfl]
        unfold Cr
        rw [ei, eb]
        rcases h2 b hib (by omega) with q1 | q1
        · exact .inl q1
        · right
          obtain ⟨k, k1, k2⟩ := meet_iff.1 q1
          exact meet_iff.2 ⟨k, by rw [BitVec.getLsbD_or, k1, Bool.true_or], k2⟩
  · rw [allR_no hm hj (by omega) hd]
    refine ⟨h, fun b hib hb => ?_⟩
    by_cases e : b = j
    · subst e
      exact .inr (by rw [and_comm16]; exact hd)
    · exact h2 b hib (by omega)
theorem uniIn_Cr {m : Mx} (hm : MxOk m) {i : Nat} (xs : List Mv) (h : ∀ a, a < i → ∀ b, a < b → b < m.R → Cr m a b) : ∀ q, i + 1 + q ≤ m.R → MxOk (uniIn i (m, xs) q).1 ∧ (uniIn i (m, xs) q).1.R = m.R ∧ (∀ a, a < i → ∀ b, a < b → b < m.R → Cr (uniIn i (m, xs) q).1 a b) ∧ ∀ b, i < b → b < i + 1 + q → Cr (uniIn i (m, xs) q).1 i b
  | 0, _ => ⟨hm, rfl, h, fun b h1 h2 => by omega⟩
  | q + 1, hq => by
    obtain ⟨h1, h2, h3, h4⟩ := uniIn_Cr hm xs h q (by omega)
    obtain ⟨a1, a2⟩ := allR_ok (f := i + 1 + q) (t := i) h1
    obtain ⟨c1, c2⟩ := allR_Cr h1 (show i < i + 1 + q by omega) (by omega) (by rw [h2]; exact h3) h4
    rw [uniIn]
    refine ⟨a1, a2.trans h2, fun a ha b hab hb => c1 a ha b hab (by omega), c2⟩
theorem uniUp_Cr {m : Mx} (hm : MxOk m) : ∀ k, k ≤ m.R → MxOk (uniUp m k).1 ∧ (uniUp m k).1.R = m.R ∧ ∀ a, a < k → ∀ b, a < b → b < m.R → Cr (uniUp m k).1 a b
  | 0, _ => ⟨hm, rfl, fun a ha => by omega⟩
  | k + 1, hk => by
    obtain ⟨h1, h2, h3⟩ := uniUp_Cr hm k (by omega)
    have h4 := uniIn_Cr h1 (i := k) (uniUp m k).2 (by rw [h2]; exact h3) (m.R - (k + 1)) (by omega)
    rw [uniUp]
    obtain ⟨q1, q2, q3, q4⟩ := h4
    refine ⟨q1, q2.trans h2, fun a ha b hab hb => ?_⟩
    by_cases e : a = k
    · subst e
      exact q4 b hab (by omega)
    · exact q3 a (by omega) b hab (by omega)
theorem unify_Cr {m : Mx} (hm : MxOk m) : MxOk (unifyR m).1 ∧ (unifyR m).1.R = m.R ∧ ∀ a b, a < b → b < m.R → Cr (unifyR m).1 a b := by
  obtain ⟨h1, h2, h3⟩ := uniUp_Cr hm m.R (Nat.le_refl _)
  exact ⟨h1, h2, fun a b hab hb => h3 a (by omega) b hab hb⟩
/-- Where every two rows are so nothing is put together. -/
theorem unify_still {m : Mx} (hm : MxOk m) (h : ∀ a b, a < b → b < m.R → Cr m a b) : unifyR m = (m, []) := by
  have hin : ∀ i q, i + 1 + q ≤ m.R → uniIn i (m, []) q = (m, []) := fun i q => by
    induction q with
    | zero => intro _; rfl
    | succ q ih =>
      intro hq
      rw [uniIn, ih (by omega), allStep]
      have e : allR m (i + 1 + q) i = ([], m) := by
        rcases h i (i + 1 + q) (by omega) (by omega) with h1 | h1
        · exact allR_nil hm (by omega) h1
        · exact allR_no hm (by omega) (by omega) (by rw [and_comm16]; exact h1)
      simp only [e, List.append_nil]
  have hup : ∀ k, k ≤ m.R → uniUp m k = (m, []) := fun k => by
    induction k with
    | zero => intro _; rfl
    | succ k ih => intro hk; rw [uniUp, ih (by omega), hin k _ (by omega)]
  exact hup m.R (Nat.le_refl _)
/-- A job that can't go ahead. -/
def Stuck (m : Mx) (x : Jb) : Prop := ∀ i, i < x.row → tk m.js i &&& x.ns ≠ 0#16
theorem stuck_still {m : Mx} (hm : MxOk m) (h : ∀ x ∈ m.js, Stuck m x) : repackR m = (m, []) := by
  have htry : ∀ j r, (∀ x ∈ m.js, x.id = j → x.row = r) → ∀ i, i ≤ r → repTry m j i = none := fun j r hr i => by
    induction i with
    | zero => intro _; rfl
    | succ i ih =>
      intro hi
      rw [repTry, ih (by omega)]
      have e : moveR m j i = (none, m) := by
        unfold moveR
        cases hl : look m.js j with
        | none => rfl
        | some x =>
          obtain ⟨h1, h2⟩ := look_some hl
          have h3 := hr x h1 h2
          have h4 := h x h1 i (by omega)
          have h5 : canMove m x i = false := by
            rw [canMove, Int.toNat_natCast, tk_delJ hm h1, if_neg (by omega), decide_eq_false h4, Bool.and_false]
          simp only [h5]
          rfl
      simp only [e]
  have hrow : ∀ r, r < m.R → ∀ p, p ≤ (rowIds m r).length → repRow r (rowIds m r) (m, []) p = (m, []) := fun r hr p => by
    induction p with
    | zero => intro _; rfl
    | succ p ih =>
      intro hp
      have hx := List.getElem?_eq_getElem (show p < (rowIds m r).length by omega)
      have hg : (rowIds m r).getD p 0 = (rowIds m r)[p] := by simp [List.getD, hx]
      obtain ⟨x, x1, x2, x3⟩ := (mem_rowIds hm hr).1 (List.getElem_mem (show p < (rowIds m r).length by omega))
      rw [repRow, ih (by omega), htry _ r (fun y y1 y2 => by
        rw [hg, ← x3] at y2
        rw [id_inj hm.srt y1 x1 y2]
        exact x2) r (Nat.le_refl _)]
  have hup : ∀ k, k + 1 ≤ m.R → repUp m k = (m, []) := fun k => by
    induction k with
    | zero => intro _; rfl
    | succ k ih =>
      intro hk
      rw [repUp, ih (by omega)]
      exact hrow (k + 1) (by omega) _ (Nat.le_refl _)
  have := hm.R1
  exact hup (m.R - 1) (by omega)
theorem stuck_Cr {m : Mx} (h : ∀ x ∈ m.js, Stuck m x) (a b : Nat) (hab : a < b) : Cr m a b := by
  by_cases e : tk m.js b = 0#16
  · exact .inl e
  · right
    have h1 := mem_lst.1 (tz_mem e)
    obtain ⟨x, x1, x2, _⟩ := (tk_bit _ _ _).1 h1
    obtain ⟨k, k1, k2⟩ := meet_iff.1 (h x x1 a (by omega))
    exact meet_iff.2 ⟨k, k1, (tk_bit _ _ _).2 ⟨x, x1, x2, k2⟩⟩
theorem tk_reRow {m : Mx} (hm : MxOk m) {x : Jb} (hx : x ∈ m.js) (t o : Nat) (ho : o ≠ x.row) : tk (reRow m.js x.id t) o = if t = o then tk m.js o ||| x.ns else tk m.js o := by
  have e := congrArg (fun q : Mx => tk q.js o) (add_del hm hx t)
  show tk (({ m with js := reRow m.js x.id t } : Mx)).js o = _
  rw [← e]
  show tk (addJ ⟨x.id, t, x.ns⟩ (delJ x.id m.js)) o = _
  rw [tk_addJ]
  show (if t = o then tk (delJ x.id m.js) o ||| x.ns else tk (delJ x.id m.js) o) = _
  have e2 : tk (delJ x.id m.js) o = tk m.js o := by rw [tk_delJ hm hx, if_neg (fun h => ho h.symm)]
  rw [e2]
/-- The first row to which a job goes; those ahead of it have no room. -/
theorem repTry_first {m : Mx} {j : Nat} {r : Mv × Mx} : ∀ {p : Nat}, repTry m j p = some r → ∃ i, i < p ∧ moveR m j i = (some r.1, r.2) ∧ ∀ k, k < i → (moveR m j k).1 = none
  | 0, h => by cases h
  | p + 1, h => by
    rw [repTry] at h
    cases hr : repTry m j p with
    | some r' =>
      rw [hr] at h
      simp only [Option.some.injEq] at h
      subst h
      obtain ⟨i, h3, h4, h5⟩ := repTry_first hr
      exact ⟨i, by omega, h4, h5⟩
    | none =>
      rw [hr] at h
      simp only at h
      cases hv : moveR m j p with
      | mk x m' =>
        rw [hv] at h
        cases x with
        | none => cases h
        | some x =>
          simp only [Option.some.injEq] at h
          subst h
          exact ⟨p, by omega, hv, repTry_none hr⟩
theorem move_no {m : Mx} (hm : MxOk m) {x : Jb} (hx : x ∈ m.js) {i : Nat} (hi : i < x.row) (h : (moveR m x.id i).1 = none) : tk m.js i &&& x.ns ≠ 0#16 := by
  intro e
  have hr := hm.row x hx
  have hc : canMove m x i = true := by
    rw [canMove, Int.toNat_natCast, tk_delJ hm hx, if_neg (by omega), decide_eq_true e, rowB_iff.2 ⟨by omega, by omega⟩]
    rfl
  unfold moveR at h
  rw [look_mem hm.srt hx] at h
  simp only [hc] at h
  cases h
structure RepI (m : Mx) (j : Nat) (ids : List Nat) (p : Nat) : Prop where
  ok : MxOk m
  less : ∀ x ∈ m.js, x.row < j → Stuck m x
  at_ : ∀ x ∈ m.js, x.row = j → x.id ∈ ids
  done : ∀ x ∈ m.js, x.row = j → x.id ∈ ids.take p → Stuck m x
  left : ∀ x ∈ m.js, x.id ∈ ids.drop p → x.row = j
theorem RepI.step {m : Mx} {j : Nat} {ids : List Nat} {p : Nat} (h : RepI m j ids p) (hp : p < ids.length) (hnd : ids.Nodup) : (repTry m ids[p] j = none → RepI m j ids (p + 1)) ∧ ∀ r, repTry m ids[p] j = some r → RepI r.2 j ids (p + 1) := by
  have htake : ∀ y, y ∈ ids.take (p + 1) → y = ids[p] ∨ y ∈ ids.take p := fun y hy => by
    rw [List.take_add_one, List.getElem?_eq_getElem hp, List.mem_append] at hy
    rcases hy with hy | hy
    · exact .inr hy
    · left; simpa using hy
  have hdrop : ids.drop p = ids[p] :: ids.drop (p + 1) := List.drop_eq_getElem_cons hp
  constructor
  · intro ht
    refine ⟨h.ok, h.less, h.at_, fun x hx hr hi => ?_, fun x hx hi => h.left x hx (by rw [hdrop]; exact List.mem_cons_of_mem _ hi)⟩
    rcases htake _ hi with e | e
    · intro i hij
      exact move_no h.ok hx hij (by rw [e]; exact repTry_none ht i (by omega))
    · exact h.done x hx hr e
  · intro r ht
    obtain ⟨i, hi, hv, hno⟩ := repTry_first ht
    obtain ⟨y, hl, _, _, hm'⟩ := moveR_some hv
    obtain ⟨hy, hyi⟩ := look_some hl
    have hyj : y.row = j := h.left y hy (by rw [hdrop, hyi]; exact List.mem_cons_self ..)
    have hok' := moveR_ok h.ok ids[p] i
    rw [hv] at hok'
    have hok' : MxOk r.2 := hok'
    have hjs : r.2.js = reRow m.js y.id i := by rw [hm', hyi, Int.toNat_natCast]
    have htk : ∀ o, o < j → tk r.2.js o = if i = o then tk m.js o ||| y.ns else tk m.js o := fun o ho => by rw [hjs]; exact tk_reRow h.ok hy i o (by omega)
    have hgrow : ∀ o, o < j → ∀ s : Bs, tk m.js o &&& s ≠ 0#16 → tk r.2.js o &&& s ≠ 0#16 := fun o ho s hs => by
      obtain ⟨k, k1, k2⟩ := meet_iff.1 hs
      refine meet_iff.2 ⟨k, ?_, k2⟩
      rw [htk o ho]
      split
      · rw [BitVec.getLsbD_or, k1, Bool.true_or]
      · exact k1
    have hmem : ∀ x, x ∈ r.2.js ↔ x = ⟨y.id, i, y.ns⟩ ∨ (x ∈ m.js ∧ x.id ≠ y.id) := fun x => by rw [hjs]; exact mem_reRow h.ok.srt hy i x
    refine ⟨hok', fun x hx hr => ?_, fun x hx hr => ?_, fun x hx hr hxi => ?_, fun x hx hxi => ?_⟩
    · rcases (hmem x).1 hx with rfl | ⟨x1, x2⟩
      · intro k hk
        have hk : k < i := hk
        exact hgrow k (by omega) _ (move_no h.ok hy (by omega) (by rw [hyi]; exact hno k hk))
      · intro k hk
        exact hgrow k (by omega) _ (h.less x x1 hr k hk)
    · rcases (hmem x).1 hx with rfl | ⟨x1, x2⟩
      · have hr : i = j := hr
        omega
      · exact h.at_ x x1 hr
    · rcases (hmem x).1 hx with rfl | ⟨x1, x2⟩
      · have hr : i = j := hr
        omega
      · rcases htake _ hxi with e | e
        · exact absurd (e.trans hyi.symm) x2
        · intro k hk
          exact hgrow k (by omega) _ (h.done x x1 hr e k hk)
    · rcases (hmem x).1 hx with rfl | ⟨x1, x2⟩
      · exfalso
        have hxi : y.id ∈ ids.drop (p + 1) := hxi
        rw [hyi] at hxi
        obtain ⟨q, hq, e⟩ := List.getElem_of_mem hxi
        rw [List.getElem_drop] at e
        have hq' : p + 1 + q < ids.length := by rw [List.length_drop] at hq; omega
        have := List.pairwise_iff_getElem.1 hnd p (p + 1 + q) hp hq' (by omega)
        exact this e.symm
      · exact h.left x x1 (by rw [hdrop]; exact List.mem_cons_of_mem _ hxi)
theorem repRow_I {m : Mx} {j : Nat} {ids : List Nat} (xs : List Mv) (h : RepI m j ids 0) (hnd : ids.Nodup) : ∀ p, p ≤ ids.length → RepI (repRow j ids (m, xs) p).1 j ids p ∧ (repRow j ids (m, xs) p).1.R = m.R
  | 0, _ => ⟨h, rfl⟩
  | p + 1, hp => by
    obtain ⟨h1, h2⟩ := repRow_I xs h hnd p (by omega)
    have hp' : p < ids.length := by omega
    have hg : ids.getD p 0 = ids[p] := by simp [List.getD, List.getElem?_eq_getElem hp']
    have hs := h1.step hp' hnd
    rw [repRow, hg]
    cases ht : repTry (repRow j ids (m, xs) p).1 ids[p] j with
    | none => exact ⟨hs.1 ht, h2⟩
    | some r => exact ⟨hs.2 r ht, (repTry_some h1.ok ht).2.1.trans h2⟩
theorem repUp_stuck {m : Mx} (hm : MxOk m) : ∀ k, k + 1 ≤ m.R → MxOk (repUp m k).1 ∧ (repUp m k).1.R = m.R ∧ ∀ x ∈ (repUp m k).1.js, x.row ≤ k → Stuck (repUp m k).1 x
  | 0, _ => ⟨hm, rfl, fun x _ h i hi => by omega⟩
  | k + 1, hk => by
    obtain ⟨h1, h2, h3⟩ := repUp_stuck hm k (by omega)
    have hf : k + 1 < (repUp m k).1.R := by omega
    have h0 : RepI (repUp m k).1 (k + 1) (rowIds (repUp m k).1 ((k + 1 : Nat) : Int)) 0 := by
      refine ⟨h1, fun x hx hr => h3 x hx (by omega), fun x hx hr => (mem_rowIds h1 hf).2 ⟨x, hx, hr, rfl⟩, fun x hx hr hi => (by cases hi), fun x hx hi => ?_⟩
      obtain ⟨y, y1, y2, y3⟩ := (mem_rowIds h1 hf).1 hi
      rw [← id_inj h1.srt y1 hx y3]
      exact y2
    obtain ⟨q1, q2⟩ := repRow_I (repUp m k).2 h0 (rowIds_nodup h1 hf) _ (Nat.le_refl _)
    rw [repUp]
    refine ⟨q1.ok, q2.trans h2, fun x hx hr => ?_⟩
    by_cases e : x.row = k + 1
    · exact q1.done x hx e (by rw [List.take_length]; exact q1.at_ x hx e)
    · exact q1.less x hx (by omega)
theorem repack_stuck {m : Mx} (hm : MxOk m) : MxOk (repackR m).1 ∧ ∀ x ∈ (repackR m).1.js, Stuck (repackR m).1 x := by
  have hR := hm.R1
  obtain ⟨h1, h2, h3⟩ := repUp_stuck hm (m.R - 1) (by omega)
  exact ⟨h1, fun x hx => h3 x hx (by have := h1.row x hx; omega)⟩
end Go.Proofs.YtbhnbnecaejjiaaDoor
