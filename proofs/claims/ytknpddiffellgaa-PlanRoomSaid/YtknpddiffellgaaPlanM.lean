/- Nobody waits longer for who came later; no two have one cell. Of no program. -/
import Derived.Test.YtknpddiffellgaaPlanL
namespace Go.Proofs.Ytknpddiffellgaa
set_option linter.unusedVariables false
theorem best_spec {D : List (List Int)} {k : Nat} : ∀ {n : Nat} {v : Int} {i : Nat}, bestUp k D n = some (v, i) → ∀ (j : Nat) (row : List Int) (w : Int), j < n → D[j]? = some row → kth row k = some w → v ≤ w ∧ (j < i → v < w)
  | 0, _, _, h => by cases h
  | n + 1, v, i, h => by
    intro j row w hj hr hw
    have hmin := best_min hj hr hw
    rw [h] at hmin
    obtain ⟨v', i', e, hle⟩ := hmin
    cases e
    refine ⟨hle, fun hji => ?_⟩
    rw [bestUp] at h
    by_cases e : j = n
    · have := (best_some (n := n + 1) (show bestUp k D (n + 1) = some (v, i) by rw [bestUp]; exact h)).1
      omega
    · obtain ⟨v0, i0, h0, _⟩ := best_min (n := n) (k := k) (by omega) hr hw
      rw [h0] at h
      have ih := best_spec h0 j row w (by omega) hr hw
      cases hx : (D[n]?).bind (fun row => kth row k) with
      | none =>
        rw [hx] at h
        simp only [comb, Option.some.injEq, Prod.mk.injEq] at h
        obtain ⟨rfl, rfl⟩ := h
        exact ih.2 hji
      | some u =>
        rw [hx] at h
        simp only [comb] at h
        split at h
        · rename_i hlt
          simp only [Option.some.injEq, Prod.mk.injEq] at h
          obtain ⟨rfl, rfl⟩ := h
          have := ih.1
          omega
        · simp only [Option.some.injEq, Prod.mk.injEq] at h
          obtain ⟨rfl, rfl⟩ := h
          exact ih.2 hji
theorem best_uniq {D : List (List Int)} {k n : Nat} {v : Int} {i : Nat} {row : List Int} (hi : i < n) (hr : D[i]? = some row) (hv : kth row k = some v)
    (hall : ∀ (j : Nat) (row : List Int) (w : Int), j < n → D[j]? = some row → kth row k = some w → v ≤ w ∧ (j < i → v < w)) : bestUp k D n = some (v, i) := by
  obtain ⟨v', i', hb, hle⟩ := best_min hi hr hv
  obtain ⟨hi', row', hr', hv'⟩ := best_some hb
  have h1 := hall i' row' v' hi' hr' hv'
  have h2 := best_spec hb i row v hi hr hv
  have e1 : v' = v := by omega
  subst e1
  have e2 : i' = i := by
    refine Nat.le_antisymm (Nat.not_lt.1 fun h => ?_) (Nat.not_lt.1 fun h => ?_)
    · have := h2.2 h; omega
    · have := h1.2 h; omega
  subst e2
  exact hb
/-- Raising who isn't chosen changes no choice within a row. -/
theorem take_raise {row row' : List Int} {k : Nat} (hk : k ≤ row.length) (hle : rowLe row row') (hsame : ∀ (j : Nat) (q : Nat), j < k → (srt row)[j]? = some (cl row q) → row'[q]? = row[q]?) : (srt row').take k = (srt row).take k := by
  obtain ⟨g, hg⟩ : ∃ g : Ce → Ce, g = fun c => (c.1, inI (row'[c.1.toNat]?.getD 0)) := ⟨_, rfl⟩
  have hcm : (cellsR row).map g = cellsR row' := by
    refine List.ext_getElem? fun i => ?_
    rw [List.getElem?_map, cellsR_get, cellsR_get]
    by_cases hi : i < row.length
    · obtain ⟨x, hx⟩ := getE hi
      obtain ⟨y, hy⟩ := getE (l := row') (i := i) (by rw [← hle.1]; exact hi)
      rw [hx, hy, hg]
      simp only [Option.map_some, Int.toNat_natCast, hy, Option.getD_some]
    · rw [List.getElem?_eq_none (by omega), List.getElem?_eq_none (by rw [← hle.1]; omega)]
      rfl
  have hsplit : srt row = (srt row).take k ++ (srt row).drop k := (List.take_append_drop k _).symm
  have hT : ((srt row).take k).map g = (srt row).take k := by
    refine List.ext_getElem? fun j => ?_
    rw [List.getElem?_map]
    by_cases hj : j < k
    · rw [List.getElem?_take_of_lt hj]
      cases hc : (srt row)[j]? with
      | none => rfl
      | some c =>
        obtain ⟨q, hq, rfl⟩ := srt_at hc
        have := hsame j q hj hc
        simp only [Option.map_some, hg, cl, Int.toNat_natCast, this]
    · rw [List.getElem?_eq_none (by rw [List.length_take]; omega)]
      rfl
  have hperm : ((srt row).take k ++ ((srt row).drop k).map g).Perm (cellsR row') := by
    have h1 := (srt_perm row).map g
    rw [hcm] at h1
    rw [hsplit, List.map_append, hT] at h1
    exact h1
  have hperm2 : ((srt row).take k ++ srtC (((srt row).drop k).map g)).Perm (cellsR row') := ((srtC_perm _).append_left _).trans hperm
  have hdif : Dif (((srt row).drop k).map g) := by
    have h1 := dif_perm hperm.symm (cells_dif row')
    exact (List.pairwise_append.1 h1).2.1
  have hs := srt_srt row
  rw [hsplit] at hs
  obtain ⟨s1, s2, s3⟩ := List.pairwise_append.1 hs
  have hsrt : Srt ((srt row).take k ++ srtC (((srt row).drop k).map g)) := by
    refine List.pairwise_append.2 ⟨s1, srtC_srt hdif, fun a ha b hb => ?_⟩
    obtain ⟨c, hc, rfl⟩ := List.mem_map.1 ((srtC_perm _).mem_iff.1 hb)
    have h1 := s3 a ha c hc
    obtain ⟨j, hj⟩ := List.getElem?_of_mem ((List.drop_sublist k _).subset hc)
    obtain ⟨q, hq, rfl⟩ := srt_at hj
    obtain ⟨x, hx⟩ := getE hq
    obtain ⟨y, hy⟩ := getE (l := row') (i := q) (by rw [← hle.1]; exact hq)
    have h2 := hle.2 q x y hx hy
    simp only [ltC, cl, hg, hx, hy, Option.getD_some, Int.toNat_natCast, decide_eq_true_eq] at h1 ⊢
    omega
  have e := srt_uni hsrt (srt_srt row') (hperm2.trans (srt_perm row').symm)
  rw [← e, List.take_left' (by rw [List.length_take, srt_length]; omega)]
theorem kth_raise {row row' : List Int} {k : Nat} (h1 : 1 ≤ k) (hk : k ≤ row.length) (hl : row.length = row'.length) (h : (srt row').take k = (srt row).take k) : kth row' k = kth row k ∧ chosen row' k = chosen row k := by
  refine ⟨?_, by unfold chosen; rw [h]⟩
  unfold kth
  rw [if_pos hk, if_pos (by omega)]
  have e : ((srt row').take k)[k - 1]? = ((srt row).take k)[k - 1]? := by rw [h]
  rw [List.getElem?_take_of_lt (by omega), List.getElem?_take_of_lt (by omega)] at e
  rw [e]
/-- The cells of x are free now. -/
def Zr (D : List (List Int)) (x : St) : Prop := ∃ (r : Nat) (row : List Int), x.row = r ∧ D[r]? = some row ∧ ∀ n ∈ x.nodes, ∃ q : Nat, n = q ∧ ∃ y, row[q]? = some y ∧ inI y ≤ 0
theorem Zr.le {D : List (List Int)} {x : St} (h : Zr D x) (len : Int) : DLe D (resR D x len) := by
  obtain ⟨r, row, hr, hrow, hz⟩ := h
  refine ⟨(res_length ..).symm, fun i p q hp hq => ⟨?_, fun j y z hy hz' => ?_⟩⟩
  · rw [res_get hp] at hq
    cases hq
    exact (rowF_length ..).symm
  · obtain ⟨_, h2⟩ := res_row hp hq (List.getElem?_eq_some_iff.1 hy).1
    rw [hz'] at h2
    split at h2
    · rename_i hc
      cases h2
      have hi : i = r := by have := hc.2.1; omega
      subst hi
      rw [hp] at hrow
      cases hrow
      obtain ⟨q', e, y', hy', hle⟩ := hz _ hc.2.2
      have : q' = j := by omega
      subst this
      rw [hy] at hy'
      cases hy'
      have := (inI_nn (addI x.at_ (max len 1))).1
      omega
    · rw [hy] at h2
      cases h2
      exact Int.le_refl _
/-- Apart: no cell of x is one of s. -/
def Apt (x s : St) : Prop := s.ok = true → s.row = x.row → ∀ n ∈ x.nodes, n ∉ s.nodes
theorem first_raise {D : List (List Int)} {x : St} {k len : Int} (hz : Zr D x) (ha : Apt x (firstR D k)) : firstR (resR D x len) k = firstR D k := by
  have hle := hz.le len
  cases hok : (firstR D k).ok with
  | false =>
    have h1 := (hle.first k).1
    rw [hok] at h1
    rw [(first_no hok).1, (first_no h1.symm).1]
  | true =>
    obtain ⟨i, row, hf⟩ := first_ok hok
    have hk1 := hf.k1
    have hil := (List.getElem?_eq_some_iff.1 hf.get).1
    obtain ⟨row', hr'⟩ := getE (l := resR D x len) (i := i) (by rw [res_length]; exact hil)
    have hkl := (kth_nn hf.kth_).2.2
    have hrl := hle.row i row row' hf.get hr'
    have htk : (srt row').take k.toNat = (srt row).take k.toNat := by
      refine take_raise hkl hrl fun j q hj hc => ?_
      have hq : q < row.length := by
        obtain ⟨q', hq', e⟩ := srt_at hc
        have := congrArg Prod.fst e
        simp only at this
        omega
      rw [(res_row hf.get hr' hq).2, if_neg]
      rintro ⟨_, h2, h3⟩
      refine ha hok (by rw [hf.row_]; exact h2) _ h3 ?_
      rw [hf.nodes]
      exact chosen_mem.2 ⟨j, cl row q, hj, hc, rfl⟩
    obtain ⟨e1, e2⟩ := kth_raise (by omega) hkl hrl.1 htk
    have hb : bestUp k.toNat D D.length = some ((firstR D k).at_, i) := by
      have h := hok
      unfold firstR at h hf ⊢
      rw [if_neg (by omega)] at h hf ⊢
      cases hb : bestUp k.toNat D D.length with
      | none => rw [hb] at h; cases h
      | some p =>
        obtain ⟨v, i'⟩ := p
        rw [hb] at hf
        have := hf.row_
        simp only at this
        have : i' = i := by omega
        subst this
        rfl
    have hb' : bestUp k.toNat (resR D x len) (resR D x len).length = some ((firstR D k).at_, i) := by
      refine best_uniq (row := row') (by rw [res_length]; exact hil) hr' (by rw [e1]; exact hf.kth_) fun j q w hj hq hw => ?_
      rw [res_length] at hj
      obtain ⟨p, hp⟩ := getE hj
      obtain ⟨w0, hw0, hle0⟩ := kth_mono (by omega) (hle.row j p q hp hq) hw
      have h2 := best_spec hb j p w0 hj hp hw0
      exact ⟨by omega, fun hji => by have := h2.2 hji; omega⟩
    unfold firstR
    rw [if_neg (by omega), if_neg (by omega), hb', hb]
    simp only [hr', hf.get, Option.getD_some, e2]
/-- Two reservations that have no cell in common. -/
theorem res_comm {D : List (List Int)} {x s : St} {a b : Int} (h : Apt x s) : resR (resR D x a) s b = resR (resR D s b) x a := by
  refine List.ext_getElem? fun i => ?_
  by_cases hi : i < D.length
  · obtain ⟨row, hr⟩ := getE hi
    obtain ⟨rx, hx⟩ := getE (l := resR D x a) (i := i) (by rw [res_length]; exact hi)
    obtain ⟨rs, hs⟩ := getE (l := resR D s b) (i := i) (by rw [res_length]; exact hi)
    obtain ⟨rxs, hxs⟩ := getE (l := resR (resR D x a) s b) (i := i) (by rw [res_length, res_length]; exact hi)
    obtain ⟨rsx, hsx⟩ := getE (l := resR (resR D s b) x a) (i := i) (by rw [res_length, res_length]; exact hi)
    rw [hxs, hsx]
    congr 1
    have l1 : rx.length = row.length := by rw [res_get hr] at hx; cases hx; exact rowF_length ..
    have l2 : rs.length = row.length := by rw [res_get hr] at hs; cases hs; exact rowF_length ..
    have l3 : rxs.length = rx.length := by rw [res_get hx] at hxs; cases hxs; exact rowF_length ..
    have l4 : rsx.length = rs.length := by rw [res_get hs] at hsx; cases hsx; exact rowF_length ..
    refine List.ext_getElem? fun q => ?_
    by_cases hq : q < row.length
    · rw [(res_row hx hxs (by omega)).2, (res_row hs hsx (by omega)).2, (res_row hr hx hq).2, (res_row hr hs hq).2]
      by_cases h1 : s.ok = true ∧ (i : Int) = s.row ∧ (q : Int) ∈ s.nodes
      · rw [if_pos h1, if_pos h1, if_neg]
        rintro ⟨_, h2, h3⟩
        exact h h1.1 (h1.2.1.symm.trans h2) _ h3 h1.2.2
      · rw [if_neg h1, if_neg h1]
    · rw [List.getElem?_eq_none (by omega), List.getElem?_eq_none (by omega)]
  · rw [List.getElem?_eq_none (by rw [res_length, res_length]; omega), List.getElem?_eq_none (by rw [res_length, res_length]; omega)]
/-- Nobody ahead waits longer for who starts now. -/
theorem fair_plan : ∀ (l : List Ak) (D : List (List Int)) (i : Nat) (x : St) (len : Int), (planR D l)[i]? = some x → x.ok = true → x.at_ = 0 → Zr D x ∧ planR (resR D x len) (l.take i) = planR D (l.take i)
  | [], D, i, x, len, h, _, _ => by cases h
  | a :: l, D, 0, x, len, h, hok, hat => by
    have e : firstR D a.k = x := Option.some.inj h
    obtain ⟨i, row, hf⟩ := first_ok (D := D) (k := a.k) (by rw [e]; exact hok)
    rw [e] at hf
    refine ⟨⟨i, row, hf.row_, hf.get, fun n hn => ?_⟩, rfl⟩
    rw [hf.nodes] at hn
    have h1 := hf.kth_
    rw [hat] at h1
    exact chosen_free (by have := hf.k1; omega) h1 hn
  | a :: l, D, i + 1, x, len, h, hok, hat => by
    obtain ⟨hz1, hp⟩ := fair_plan l (resR D (firstR D a.k) a.len) i x len h hok hat
    obtain ⟨r, row1, hr, hrow1, hfree⟩ := hz1
    have hrl : r < D.length := by have := (List.getElem?_eq_some_iff.1 hrow1).1; rwa [res_length] at this
    obtain ⟨row, hrow⟩ := getE hrl
    have hlen : row1.length = row.length := by rw [res_get hrow] at hrow1; cases hrow1; exact rowF_length ..
    have hapt : Apt x (firstR D a.k) := fun hso hsr n hn hns => by
      obtain ⟨q, rfl, y, hy, hle⟩ := hfree n hn
      have hq : q < row.length := by have := (List.getElem?_eq_some_iff.1 hy).1; omega
      have h2 := (res_row hrow hrow1 hq).2
      rw [if_pos ⟨hso, by rw [hsr, hr], hns⟩, hy] at h2
      cases h2
      have := (addI_ge (a := (firstR D a.k).at_) first_at (show 1 ≤ max a.len 1 by omega)).2
      rw [inI_add] at hle
      omega
    have hz : Zr D x := ⟨r, row, hr, hrow, fun n hn => by
      obtain ⟨q, rfl, y, hy, hle⟩ := hfree n hn
      have hq : q < row.length := by have := (List.getElem?_eq_some_iff.1 hy).1; omega
      have h2 := (res_row hrow hrow1 hq).2
      rw [if_neg (fun hc => hapt hc.1 (hc.2.1.symm.trans hr.symm) _ hn hc.2.2), hy] at h2
      exact ⟨q, rfl, y, h2.symm, hle⟩⟩
    refine ⟨hz, ?_⟩
    rw [List.take_succ_cons, planR, planR, first_raise hz hapt, res_comm hapt, hp]
/-- Who starts has what it asked for; nobody else has it then. -/
theorem room_plan : ∀ (l : List Ak) (D : List (List Int)) (i : Nat) (s : St) (a : Ak), (planR D l)[i]? = some s → s.ok = true → l[i]? = some a →
    (s.nodes.length : Int) = a.k ∧ (∃ (r : Nat) (row : List Int), s.row = r ∧ D[r]? = some row ∧ ∀ n ∈ s.nodes, ∃ q : Nat, n = q ∧ ∃ y, row[q]? = some y ∧ inI y ≤ s.at_) ∧
      ∀ (j : Nat) (t : St) (b : Ak), j < i → (planR D l)[j]? = some t → l[j]? = some b → t.ok = true → t.row = s.row → ∀ m ∈ t.nodes, m ∈ s.nodes → addI t.at_ (max b.len 1) ≤ s.at_
  | [], D, i, s, a, h, _, _ => by cases h
  | c :: l, D, 0, s, a, h, hok, ha => by
    have e : firstR D c.k = s := Option.some.inj h
    have ec : c = a := Option.some.inj ha
    subst ec
    obtain ⟨i, row, hf⟩ := first_ok (D := D) (k := c.k) (by rw [e]; exact hok)
    rw [e] at hf
    have hk1 := hf.k1
    refine ⟨?_, ⟨i, row, hf.row_, hf.get, fun n hn => ?_⟩, fun j _ _ hj => absurd hj (Nat.not_lt_zero _)⟩
    · rw [hf.nodes, chosen_length (kth_nn hf.kth_).2.2]
      omega
    · rw [hf.nodes] at hn
      exact chosen_free (by omega) hf.kth_ hn
  | c :: l, D, i + 1, s, a, h, hok, ha => by
    obtain ⟨h1, ⟨r, row1, hr, hrow1, hfree⟩, h3⟩ := room_plan l (resR D (firstR D c.k) c.len) i s a h hok ha
    have hrl : r < D.length := by have := (List.getElem?_eq_some_iff.1 hrow1).1; rwa [res_length] at this
    obtain ⟨row, hrow⟩ := getE hrl
    have hlen : row1.length = row.length := by rw [res_get hrow] at hrow1; cases hrow1; exact rowF_length ..
    refine ⟨h1, ⟨r, row, hr, hrow, fun n hn => ?_⟩, fun j t b hj ht hb htok htr m hm hms => ?_⟩
    · obtain ⟨q, rfl, y, hy, hle⟩ := hfree n hn
      have hq : q < row.length := by have := (List.getElem?_eq_some_iff.1 hy).1; omega
      obtain ⟨x, hx⟩ := getE hq
      have := ((res_le D c.k c.len).row r row row1 hrow hrow1).2 q x y hx hy
      exact ⟨q, rfl, x, hx, by omega⟩
    · cases j with
      | zero =>
        have e : firstR D c.k = t := Option.some.inj ht
        have ec : c = b := Option.some.inj hb
        subst ec
        obtain ⟨q, rfl, y, hy, hle⟩ := hfree m hms
        have hq : q < row.length := by have := (List.getElem?_eq_some_iff.1 hy).1; omega
        have h2 := (res_row hrow hrow1 hq).2
        rw [e] at h2
        rw [if_pos ⟨htok, by rw [htr, hr], hm⟩, hy] at h2
        cases h2
        rw [inI_add] at hle
        exact hle
      | succ j => exact h3 j t b (by omega) ht hb htok htr m hm hms
end Go.Proofs.Ytknpddiffellgaa
