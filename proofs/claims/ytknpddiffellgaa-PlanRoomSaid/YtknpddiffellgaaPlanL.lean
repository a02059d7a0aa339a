/- What the plan is good for. Of no program. -/
import Derived.Test.YtknpddiffellgaaPlanJ
namespace Go.Proofs.Ytknpddiffellgaa
set_option linter.unusedVariables false
def rowLe (r q : List Int) : Prop := r.length = q.length ∧ ∀ (j : Nat) (x y : Int), r[j]? = some x → q[j]? = some y → inI x ≤ inI y
theorem rowLe.refl (r : List Int) : rowLe r r := ⟨rfl, fun j x y h1 h2 => by rw [h1] at h2; cases h2; exact Int.le_refl _⟩
theorem rowLe.trans {a b c : List Int} (h : rowLe a b) (k : rowLe b c) : rowLe a c := ⟨h.1.trans k.1, fun j x z h1 h3 => by
  obtain ⟨y, h2⟩ := getE (l := b) (i := j) (by rw [← h.1]; exact (List.getElem?_eq_some_iff.1 h1).1)
  exact Int.le_trans (h.2 j x y h1 h2) (k.2 j y z h2 h3)⟩
theorem cnt_mono (v : Int) : ∀ {r q : List Int}, rowLe r q → cnt q v ≤ cnt r v
  | [], [], _ => Nat.le_refl _
  | [], _ :: _, h => by cases h.1
  | _ :: _, [], h => by cases h.1
  | a :: r, b :: q, h => by
    have ih := cnt_mono v (r := r) (q := q) ⟨by have := h.1; simpa using this, fun j x y h1 h2 => h.2 (j + 1) x y (by simpa using h1) (by simpa using h2)⟩
    have h0 := h.2 0 a b rfl rfl
    unfold cnt at *
    rw [List.countP_cons, List.countP_cons]
    by_cases hb : inI b ≤ v
    · rw [if_pos (decide_eq_true hb), if_pos (decide_eq_true (by omega))]; omega
    · rw [if_neg (by simpa using hb)]; omega
theorem kth_some {row : List Int} {k : Nat} (hk : 1 ≤ k) (h : k ≤ row.length) : ∃ c, (srt row)[k - 1]? = some c ∧ kth row k = some c.2 := by
  obtain ⟨c, hc⟩ := getE (l := srt row) (i := k - 1) (by rw [srt_length]; omega)
  exact ⟨c, hc, by unfold kth; rw [if_pos h, hc]; rfl⟩
theorem kth_le_cnt {row : List Int} {k : Nat} {w v : Int} (hk : 1 ≤ k) (h : kth row k = some w) : w ≤ v ↔ k ≤ cnt row v := by
  obtain ⟨c, hc, e⟩ := kth_some hk (kth_nn h).2.2
  rw [e] at h
  cases h
  exact kth_cnt hk hc v
theorem kth_mono {r q : List Int} {k : Nat} (hk : 1 ≤ k) (h : rowLe r q) {w : Int} (hw : kth q k = some w) : ∃ v, kth r k = some v ∧ v ≤ w := by
  have hl := (kth_nn hw).2.2
  obtain ⟨c, hc, e⟩ := kth_some (row := r) hk (by rw [h.1]; exact hl)
  refine ⟨c.2, e, (kth_le_cnt hk e).2 ?_⟩
  have h1 := (kth_le_cnt hk hw).1 (Int.le_refl _)
  have h2 := cnt_mono w h
  omega
theorem best_min {D : List (List Int)} {k : Nat} : ∀ {n : Nat} {j : Nat} {row : List Int} {w : Int}, j < n → D[j]? = some row → kth row k = some w → ∃ v i, bestUp k D n = some (v, i) ∧ v ≤ w
  | 0, j, _, _, h, _, _ => absurd h (Nat.not_lt_zero _)
  | n + 1, j, row, w, h, hr, hw => by
    rw [bestUp]
    by_cases e : j = n
    · subst e
      rw [hr]
      simp only [Option.bind_some, hw]
      cases hb : bestUp k D j with
      | none => exact ⟨w, j, rfl, Int.le_refl _⟩
      | some p =>
        obtain ⟨u, i⟩ := p
        simp only [comb]
        by_cases hlt : w < u
        · exact ⟨w, j, by rw [if_pos hlt], Int.le_refl _⟩
        · exact ⟨u, i, by rw [if_neg hlt], by omega⟩
    · obtain ⟨v, i, hb, hv⟩ := best_min (n := n) (by omega) hr hw
      rw [hb]
      cases hx : (D[n]?).bind (fun row => kth row k) with
      | none => exact ⟨v, i, rfl, hv⟩
      | some u =>
        simp only [comb]
        by_cases hlt : u < v
        · exact ⟨u, n, by rw [if_pos hlt], by omega⟩
        · exact ⟨v, i, by rw [if_neg hlt], hv⟩
/-- A start is what it is. -/
structure FirstOk (D : List (List Int)) (k : Int) (x : St) (i : Nat) (row : List Int) : Prop where
  k1 : 1 ≤ k
  row_ : x.row = i
  get : D[i]? = some row
  kth_ : kth row k.toNat = some x.at_
  nodes : x.nodes = chosen row k.toNat
theorem first_ok {D : List (List Int)} {k : Int} (h : (firstR D k).ok = true) : ∃ i row, FirstOk D k (firstR D k) i row := by
  unfold firstR at *
  by_cases hk : k < 1
  · rw [if_pos hk] at h; cases h
  · rw [if_neg hk] at h ⊢
    cases hb : bestUp k.toNat D D.length with
    | none => rw [hb] at h; cases h
    | some p =>
      obtain ⟨v, i⟩ := p
      obtain ⟨h1, row, h2, h3⟩ := best_some hb
      exact ⟨i, row, by omega, rfl, h2, h3, by simp only [h2, Option.getD_some]⟩
theorem first_no {D : List (List Int)} {k : Int} (h : (firstR D k).ok = false) : firstR D k = ⟨0, 0, [], false⟩ ∧ (1 ≤ k → ∀ (i : Nat) (row : List Int), D[i]? = some row → kth row k.toNat = none) := by
  unfold firstR at *
  by_cases hk : k < 1
  · rw [if_pos hk]
    exact ⟨rfl, fun h => by omega⟩
  · rw [if_neg hk] at h ⊢
    cases hb : bestUp k.toNat D D.length with
    | none =>
      refine ⟨rfl, fun _ i row hr => ?_⟩
      cases hw : kth row k.toNat with
      | none => rfl
      | some w =>
        obtain ⟨v, j, h1, _⟩ := best_min (List.getElem?_eq_some_iff.1 hr).1 hr hw
        rw [hb] at h1
        cases h1
    | some p => rw [hb] at h; cases h
/-- Nobody is sooner. -/
theorem first_min {D : List (List Int)} {k : Int} (hk : 1 ≤ k) {i : Nat} {row : List Int} {w : Int} (hr : D[i]? = some row) (hw : kth row k.toNat = some w) : (firstR D k).ok = true ∧ (firstR D k).at_ ≤ w := by
  obtain ⟨v, j, h1, h2⟩ := best_min (List.getElem?_eq_some_iff.1 hr).1 hr hw
  unfold firstR
  rw [if_neg (by omega), h1]
  exact ⟨rfl, h2⟩
theorem chosen_mem {row : List Int} {k : Nat} {n : Int} : n ∈ chosen row k ↔ ∃ (j : Nat) (c : Ce), j < k ∧ (srt row)[j]? = some c ∧ n = c.1 := by
  unfold chosen
  rw [(srtI_perm _).mem_iff, List.mem_map]
  constructor
  · rintro ⟨c, hc, rfl⟩
    obtain ⟨j, hj⟩ := List.getElem?_of_mem hc
    have hjk : j < k := by have := (List.getElem?_eq_some_iff.1 hj).1; rw [List.length_take] at this; omega
    rw [List.getElem?_take_of_lt hjk] at hj
    exact ⟨j, c, hjk, hj, rfl⟩
  · rintro ⟨j, c, hjk, hj, rfl⟩
    exact ⟨c, List.mem_of_getElem? (i := j) (by rw [List.getElem?_take_of_lt hjk]; exact hj), rfl⟩
theorem chosen_length {row : List Int} {k : Nat} (h : k ≤ row.length) : (chosen row k).length = k := by
  unfold chosen
  rw [(srtI_perm _).length_eq, List.length_map, List.length_take, srt_length]
  omega
/-- Who is chosen is a node of the row, free by then. -/
theorem chosen_free {row : List Int} {k : Nat} {v : Int} {n : Int} (hk : 1 ≤ k) (hv : kth row k = some v) (hn : n ∈ chosen row k) : ∃ q : Nat, n = q ∧ ∃ y, row[q]? = some y ∧ inI y ≤ v := by
  obtain ⟨j, c, hj, hc, rfl⟩ := chosen_mem.1 hn
  obtain ⟨q, hq, rfl⟩ := srt_at hc
  obtain ⟨y, hy⟩ := getE hq
  obtain ⟨d, hd, e⟩ := kth_some hk (kth_nn hv).2.2
  rw [e] at hv
  cases hv
  have := srt_mono hc hd (by omega)
  refine ⟨q, rfl, y, hy, ?_⟩
  simpa only [cl, hy, Option.getD_some] using this
theorem setAll_get {v : Int} : ∀ {ns row : List Int} {q : Nat}, q < row.length → (setAll v row ns)[q]? = if (q : Int) ∈ ns then some v else row[q]?
  | [], row, q, _ => by rw [if_neg (by simp)]; rfl
  | n :: ns, row, q, h => by
    show (setAll v (setN v row n) ns)[q]? = _
    rw [setAll_get (by rw [setN_length]; exact h)]
    by_cases h1 : (q : Int) ∈ ns
    · rw [if_pos h1, if_pos (List.mem_cons_of_mem _ h1)]
    · rw [if_neg h1]
      by_cases h2 : (q : Int) = n
      · rw [if_pos (by rw [h2]; exact List.mem_cons_self ..), setN_yes (by omega), List.getElem?_set, if_pos (by omega), if_pos (by omega)]
      · rw [if_neg (by simp only [List.mem_cons, not_or]; exact ⟨h2, h1⟩)]
        unfold setN
        split
        · rw [List.getElem?_set, if_neg (by omega)]
        · rfl
theorem addI_nn (a b : Int) : 0 ≤ addI a b ∧ addI a b ≤ 1099511627776 := inI_nn _
theorem addI_ge {a b : Int} (ha : 0 ≤ a ∧ a ≤ 1099511627776) (hb : 1 ≤ b) : a ≤ addI a b ∧ 1 ≤ addI a b := by
  unfold addI
  rw [inI_id ha.1 ha.2]
  have := inI_nn b
  have h1 : 1 ≤ inI b := by unfold inI; split <;> (try split) <;> omega
  unfold inI at *
  split <;> (try split) <;> omega
/-- A row, behind a start's reservation. -/
theorem res_row {D : List (List Int)} {x : St} {len : Int} {i : Nat} {row row' : List Int} (h : D[i]? = some row) (h' : (resR D x len)[i]? = some row') {q : Nat} (hq : q < row.length) :
    row'.length = row.length ∧ row'[q]? = if x.ok = true ∧ (i : Int) = x.row ∧ (q : Int) ∈ x.nodes then some (addI x.at_ (max len 1)) else row[q]? := by
  rw [res_get h] at h'
  cases h'
  refine ⟨rowF_length .., ?_⟩
  unfold rowF
  rw [List.take_of_length_le (Nat.le_refl _)]
  by_cases h1 : x.ok = true ∧ (i : Int) = x.row
  · rw [if_pos (by rw [h1.1, decide_eq_true h1.2]; rfl), setAll_get hq]
    by_cases h2 : (q : Int) ∈ x.nodes
    · rw [if_pos h2, if_pos ⟨h1.1, h1.2, h2⟩]
    · rw [if_neg h2, if_neg (fun h => h2 h.2.2)]
  · rw [if_neg (by intro h2; rw [Bool.and_eq_true, decide_eq_true_eq] at h2; exact h1 h2), if_neg (fun h => h1 ⟨h.1, h.2.1⟩)]
structure DLe (D E : List (List Int)) : Prop where
  len : D.length = E.length
  row : ∀ (i : Nat) (r q : List Int), D[i]? = some r → E[i]? = some q → rowLe r q
theorem DLe.refl (D : List (List Int)) : DLe D D := ⟨rfl, fun i r q h1 h2 => by rw [h1] at h2; cases h2; exact rowLe.refl _⟩
theorem DLe.trans {A B C : List (List Int)} (h : DLe A B) (k : DLe B C) : DLe A C := ⟨h.len.trans k.len, fun i r q h1 h3 => by
  obtain ⟨p, h2⟩ := getE (l := B) (i := i) (by rw [← h.len]; exact (List.getElem?_eq_some_iff.1 h1).1)
  exact (h.row i r p h1 h2).trans (k.row i p q h2 h3)⟩
theorem first_at {D : List (List Int)} {k : Int} : 0 ≤ (firstR D k).at_ ∧ (firstR D k).at_ ≤ 1099511627776 := by
  cases h : (firstR D k).ok with
  | true =>
    obtain ⟨i, row, h1⟩ := first_ok h
    exact ⟨(kth_nn h1.kth_).1, (kth_nn h1.kth_).2.1⟩
  | false =>
    rw [(first_no h).1]
    exact ⟨Int.le_refl _, by simp⟩
/-- A reservation of a start frees nothing. -/
theorem res_le (D : List (List Int)) (k len : Int) : DLe D (resR D (firstR D k) len) := by
  refine ⟨(res_length ..).symm, fun i r q hr hq => ⟨?_, fun j y z hy hz => ?_⟩⟩
  · rw [res_get hr] at hq
    cases hq
    exact (rowF_length ..).symm
  · obtain ⟨_, h2⟩ := res_row hr hq (List.getElem?_eq_some_iff.1 hy).1
    rw [hz] at h2
    split at h2
    · rename_i hc
      cases h2
      obtain ⟨i', row, h1⟩ := first_ok hc.1
      have hi : i' = i := by have := h1.row_; have := hc.2.1; omega
      subst hi
      have hrr : row = r := by have := h1.get; rw [hr] at this; exact (Option.some.inj this).symm
      subst hrr
      have hn := hc.2.2
      rw [h1.nodes] at hn
      obtain ⟨q', e, y', hy', hle⟩ := chosen_free (by have := h1.k1; omega) h1.kth_ hn
      have : q' = j := by omega
      subst this
      rw [hy] at hy'
      cases hy'
      have := (addI_ge (a := (firstR D k).at_) first_at (show 1 ≤ max len 1 by omega)).1
      rw [inI_add]
      omega
    · rw [hy] at h2
      cases h2
      exact Int.le_refl _
theorem DLe.first {D E : List (List Int)} (h : DLe D E) (k : Int) : (firstR D k).ok = (firstR E k).ok ∧ (firstR D k).at_ ≤ (firstR E k).at_ := by
  cases hE : (firstR E k).ok with
  | true =>
    obtain ⟨i, q, h1⟩ := first_ok hE
    obtain ⟨r, hr⟩ := getE (l := D) (i := i) (by rw [h.len]; exact (List.getElem?_eq_some_iff.1 h1.get).1)
    obtain ⟨v, hv, hle⟩ := kth_mono (by have := h1.k1; omega) (h.row i r q hr h1.get) h1.kth_
    obtain ⟨g1, g2⟩ := first_min h1.k1 hr hv
    exact ⟨g1, by omega⟩
  | false =>
    have hE0 := first_no hE
    cases hD : (firstR D k).ok with
    | false => exact ⟨rfl, by rw [(first_no hD).1, hE0.1]; exact Int.le_refl _⟩
    | true =>
      exfalso
      obtain ⟨i, r, h1⟩ := first_ok hD
      obtain ⟨q, hq⟩ := getE (l := E) (i := i) (by rw [← h.len]; exact (List.getElem?_eq_some_iff.1 h1.get).1)
      have hn := hE0.2 h1.k1 i q hq
      have hl := (kth_nn h1.kth_).2.2
      obtain ⟨c, _, e⟩ := kth_some (row := q) (k := k.toNat) (by have := h1.k1; omega) (by rw [← (h.row i r q h1.get hq).1]; exact hl)
      rw [hn] at e
      cases e
/-- Ahead of where an ask starts no row has so many free cells. -/
theorem soon {D : List (List Int)} {k v : Int} (hk : 1 ≤ k) (hv : (firstR D k).ok = true → v < (firstR D k).at_) {i : Nat} {row : List Int} (hr : D[i]? = some row) : (cnt row v : Int) < k := by
  refine Int.not_le.1 fun hc => ?_
  have hc' : k.toNat ≤ cnt row v := by omega
  obtain ⟨c, _, e⟩ := kth_some (row := row) (k := k.toNat) (by omega) (by have := cnt_le row v; omega)
  have h1 := (kth_le_cnt (by omega) e).2 hc'
  obtain ⟨g1, g2⟩ := first_min hk hr e
  have := hv g1
  omega
end Go.Proofs.Ytknpddiffellgaa
