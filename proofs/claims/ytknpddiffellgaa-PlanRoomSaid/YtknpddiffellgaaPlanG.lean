/- The document's way: by asking times. Of no program. -/
import Derived.Test.YtknpddiffellgaaPlanC
namespace Go.Proofs.Ytknpddiffellgaa
set_option linter.unusedVariables false
/-- How many cells are free from v on. -/
def cnt (row : List Int) (v : Int) : Nat := row.countP fun x => decide (inI x ≤ v)
theorem cnt_cellsF (v : Int) : ∀ (k : Nat) (row : List Int), (cellsF k row).countP (fun c => decide (c.2 ≤ v)) = row.countP fun x => decide (inI x ≤ v)
  | _, [] => rfl
  | k, x :: l => by rw [cellsF, List.countP_cons, List.countP_cons, cnt_cellsF v (k + 1) l]
theorem cnt_srt (row : List Int) (v : Int) : cnt row v = (srt row).countP fun c => decide (c.2 ≤ v) := by
  rw [(srt_perm row).countP_eq, cnt_cellsF]
  rfl
theorem cnt_le (row : List Int) (v : Int) : cnt row v ≤ row.length := List.countP_le_length
theorem srt_mono {row : List Int} {i j : Nat} {c d : Ce} (hc : (srt row)[i]? = some c) (hd : (srt row)[j]? = some d) (h : i ≤ j) : c.2 ≤ d.2 := by
  rcases Nat.lt_or_eq_of_le h with h | h
  · have h1 := List.pairwise_iff_getElem.1 (srt_srt row) i j (List.getElem?_eq_some_iff.1 hc).1 (List.getElem?_eq_some_iff.1 hd).1 h
    rw [(List.getElem?_eq_some_iff.1 hc).2, (List.getElem?_eq_some_iff.1 hd).2] at h1
    simp only [ltC, decide_eq_true_eq] at h1
    omega
  · subst h
    rw [hc] at hd
    cases hd
    exact Int.le_refl _
/-- The k-th is free by v just if k are. -/
theorem kth_cnt {row : List Int} {k : Nat} {c : Ce} (hk : 1 ≤ k) (hc : (srt row)[k - 1]? = some c) (v : Int) : c.2 ≤ v ↔ k ≤ cnt row v := by
  rw [cnt_srt]
  have hlt := (List.getElem?_eq_some_iff.1 hc).1
  constructor
  · intro h
    have h1 : ((srt row).take k).countP (fun c => decide (c.2 ≤ v)) = ((srt row).take k).length := by
      rw [List.countP_eq_length]
      intro d hd
      obtain ⟨i, hi⟩ := List.getElem?_of_mem hd
      have hik : i < k := by have := (List.getElem?_eq_some_iff.1 hi).1; rw [List.length_take] at this; omega
      rw [List.getElem?_take_of_lt hik] at hi
      have := srt_mono hi hc (by omega)
      exact decide_eq_true (by omega)
    rw [List.length_take] at h1
    have h2 : ((srt row).take k).countP (fun c => decide (c.2 ≤ v)) ≤ (srt row).countP (fun c => decide (c.2 ≤ v)) := (List.take_sublist k _).countP_le
    omega
  · intro h
    refine Int.not_lt.1 fun hv => ?_
    have h1 : ((srt row).drop (k - 1)).countP (fun c => decide (c.2 ≤ v)) = 0 := by
      rw [List.countP_eq_zero]
      intro d hd
      obtain ⟨i, hi⟩ := List.getElem?_of_mem hd
      rw [List.getElem?_drop] at hi
      have := srt_mono hc hi (by omega)
      simp only [decide_eq_true_eq]
      omega
    have h2 : (srt row).countP (fun c => decide (c.2 ≤ v)) = ((srt row).take (k - 1)).countP (fun c => decide (c.2 ≤ v)) + ((srt row).drop (k - 1)).countP (fun c => decide (c.2 ≤ v)) := by
      rw [← List.countP_append, List.take_append_drop]
    have h3 : ((srt row).take (k - 1)).countP (fun c => decide (c.2 ≤ v)) ≤ ((srt row).take (k - 1)).length := List.countP_le_length
    rw [List.length_take] at h3
    omega
/-- Times at which k cells of the row are free. -/
def valsR (row : List Int) (k m : Nat) : List Int := (row.take m).filterMap fun x => if k ≤ cnt row (inI x) then some (inI x) else none
theorem valsR_succ {row : List Int} {k m : Nat} {x : Int} (hx : row[m]? = some x) : valsR row k (m + 1) = valsR row k m ++ if k ≤ cnt row (inI x) then [inI x] else [] := by
  unfold valsR
  rw [List.take_add_one, hx, Option.toList_some, List.filterMap_append]
  congr 1
  by_cases h : k ≤ cnt row (inI x)
  · simp [h]
  · simp [h]
def omin : Option Int → Option Int → Option Int
  | none, o => o
  | o, none => o
  | some u, some v => if v < u then some v else some u
theorem comb_comb (b : Option (Int × Nat)) (i : Nat) (o p : Option Int) : comb (comb b i o) i p = comb b i (omin o p) := by
  cases o with
  | none => cases p <;> rfl
  | some u =>
    cases p with
    | none => rfl
    | some v =>
      cases b with
      | none => simp only [comb, omin]; split <;> rfl
      | some w =>
        obtain ⟨w, j⟩ := w
        simp only [comb, omin]
        by_cases h1 : u < w <;> by_cases h2 : v < u
        · rw [if_pos h1, if_pos h2]; simp only; rw [if_pos h2, if_pos (show v < w by omega)]
        · rw [if_pos h1, if_neg h2]; simp only; rw [if_neg h2, if_pos h1]
        · rw [if_neg h1, if_pos h2]
        · rw [if_neg h1, if_neg h2]; simp only; rw [if_neg h1, if_neg (show ¬ v < w by omega)]
theorem foldl_comb (i : Nat) : ∀ (l : List Int) (b : Option (Int × Nat)) (o : Option Int), l.foldl (fun b v => comb b i (some v)) (comb b i o) = comb b i (l.foldl (fun o v => omin o (some v)) o)
  | [], _, _ => rfl
  | v :: l, b, o => by rw [List.foldl_cons, List.foldl_cons, comb_comb, foldl_comb i l]
theorem omin_le : ∀ (l : List Int) (v : Int), (∀ x ∈ l, v ≤ x) → l.foldl (fun o v => omin o (some v)) (some v) = some v
  | [], _, _ => rfl
  | x :: l, v, h => by
    rw [List.foldl_cons]
    have : ¬ x < v := by have := h x (.head _); omega
    rw [show omin (some v) (some x) = some v by simp only [omin]; rw [if_neg this]]
    exact omin_le l v fun y hy => h y (.tail _ hy)
theorem omin_mem : ∀ (l : List Int) (o : Option Int) (v : Int), v ∈ l → (∀ x ∈ l, v ≤ x) → (∀ u, o = some u → v ≤ u) → l.foldl (fun o v => omin o (some v)) o = some v
  | [], _, _, h, _, _ => by cases h
  | x :: l, o, v, h, hl, ho => by
    rw [List.foldl_cons]
    by_cases e : x = v
    · subst e
      have : omin o (some x) = some x := by
        cases o with
        | none => rfl
        | some u =>
          simp only [omin]
          have := ho u rfl
          split
          · rfl
          · congr 1; omega
      rw [this]
      exact omin_le l x fun y hy => hl y (.tail _ hy)
    · refine omin_mem l _ v ((List.mem_cons.1 h).resolve_left (fun h => e h.symm)) (fun y hy => hl y (.tail _ hy)) fun u hu => ?_
      have h1 := hl x (.head _)
      cases o with
      | none => cases hu; exact h1
      | some w =>
        simp only [omin] at hu
        have := ho w rfl
        split at hu <;> cases hu <;> omega
theorem vals_kth {row : List Int} {k : Nat} (hk : 1 ≤ k) : (valsR row k row.length).foldl (fun o v => omin o (some v)) none = kth row k := by
  unfold kth
  by_cases h : k ≤ row.length
  · rw [if_pos h]
    obtain ⟨c, hc⟩ := getE (l := srt row) (i := k - 1) (by rw [srt_length]; omega)
    rw [hc]
    obtain ⟨i, x, hx, hcx⟩ := mem_cells.1 ((srt_perm row).mem_iff.1 (List.mem_of_getElem? hc))
    have hc2 : c.2 = inI x := by rw [hcx]
    refine omin_mem _ _ _ ?_ ?_ (fun u hu => by cases hu)
    · refine List.mem_filterMap.2 ⟨x, ?_, ?_⟩
      · rw [List.take_of_length_le (Nat.le_refl _)]; exact List.mem_of_getElem? hx
      · rw [if_pos ((kth_cnt hk hc _).1 (by omega))]; exact congrArg some hc2.symm
    · intro y hy
      obtain ⟨z, _, hz⟩ := List.mem_filterMap.1 hy
      split at hz
      · rename_i h2
        cases hz
        exact (kth_cnt hk hc _).2 h2
      · cases hz
  · rw [if_neg h]
    have : valsR row k row.length = [] := by
      refine List.filterMap_eq_nil_iff.2 fun x _ => ?_
      rw [if_neg (by have := cnt_le row (inI x); omega)]
    rw [this]
    rfl
theorem vals_best {row : List Int} {k i : Nat} (hk : 1 ≤ k) (b : Option (Int × Nat)) : (valsR row k row.length).foldl (fun b v => comb b i (some v)) b = comb b i (kth row k) := by
  have h := foldl_comb i (valsR row k row.length) b none
  rw [vals_kth hk] at h
  exact h
/-! Who is taken: the least that isn't yet, k times. -/
def tkR (row : List Int) (j : Nat) : List Bool := (List.range row.length).map fun n : Nat => decide ((n : Int) ∈ ((srt row).take j).map (·.1))
theorem tkR_length (row : List Int) (j : Nat) : (tkR row j).length = row.length := by simp [tkR]
theorem tkR_get {row : List Int} {j n : Nat} (h : n < row.length) : (tkR row j)[n]? = some (decide ((n : Int) ∈ ((srt row).take j).map (·.1))) := by
  unfold tkR
  rw [List.getElem?_map, List.getElem?_range h]
  rfl
def selUp (row : List Int) (tk : List Bool) : Nat → Option Nat
  | 0 => none
  | m + 1 => if tk[m]? = some false then (match selUp row tk m with
    | none => some m
    | some q => if inI (row[m]?.getD 0) < inI (row[q]?.getD 0) then some m else some q) else selUp row tk m
abbrev cl (row : List Int) (q : Nat) : Ce := ((q : Int), inI (row[q]?.getD 0))
theorem selUp_spec (row : List Int) (tk : List Bool) : ∀ m, (∀ q, selUp row tk m = some q → q < m ∧ tk[q]? = some false ∧ ∀ p, p < m → tk[p]? = some false → ltC (cl row p) (cl row q) = false) ∧ (selUp row tk m = none → ∀ p, p < m → tk[p]? ≠ some false)
  | 0 => ⟨fun q h => (by cases h), fun _ p h => absurd h (Nat.not_lt_zero _)⟩
  | m + 1 => by
    obtain ⟨h1, h2⟩ := selUp_spec row tk m
    simp only [selUp]
    by_cases ht : tk[m]? = some false
    · rw [if_pos ht]
      refine ⟨fun q hq => ?_, fun hn => ?_⟩
      · cases hs : selUp row tk m with
        | none =>
          rw [hs] at hq
          cases hq
          refine ⟨Nat.lt_succ_self _, ht, fun p hp hf => ?_⟩
          rcases Nat.lt_or_eq_of_le (Nat.le_of_lt_succ hp) with hp | hp
          · exact absurd hf (h2 hs p hp)
          · subst hp; exact ltC_irr _
        | some q0 =>
          rw [hs] at hq
          simp only at hq
          obtain ⟨g1, g2, g3⟩ := h1 q0 hs
          by_cases hlt : inI (row[m]?.getD 0) < inI (row[q0]?.getD 0)
          · rw [if_pos hlt] at hq
            cases hq
            refine ⟨Nat.lt_succ_self _, ht, fun p hp hf => ?_⟩
            rcases Nat.lt_or_eq_of_le (Nat.le_of_lt_succ hp) with hp | hp
            · have := g3 p hp hf
              simp only [ltC, decide_eq_false_iff_not] at this ⊢
              omega
            · subst hp; exact ltC_irr _
          · rw [if_neg hlt] at hq
            cases hq
            refine ⟨by omega, g2, fun p hp hf => ?_⟩
            rcases Nat.lt_or_eq_of_le (Nat.le_of_lt_succ hp) with hp | hp
            · exact g3 p hp hf
            · subst hp
              simp only [ltC, decide_eq_false_iff_not]
              omega
      · exfalso
        cases hs : selUp row tk m with
        | none => rw [hs] at hn; cases hn
        | some q0 => rw [hs] at hn; simp only at hn; split at hn <;> cases hn
    · rw [if_neg ht]
      refine ⟨fun q hq => ?_, fun hn p hp => ?_⟩
      · obtain ⟨g1, g2, g3⟩ := h1 q hq
        refine ⟨by omega, g2, fun p hp hf => ?_⟩
        rcases Nat.lt_or_eq_of_le (Nat.le_of_lt_succ hp) with hp | hp
        · exact g3 p hp hf
        · subst hp; exact absurd hf ht
      · rcases Nat.lt_or_eq_of_le (Nat.le_of_lt_succ hp) with hp | hp
        · exact h2 hn p hp
        · subst hp; exact ht
theorem srt_nodes (row : List Int) : ((srt row).map (·.1)).Nodup := by
  rw [List.nodup_iff_pairwise_ne, List.pairwise_map]
  exact dif_perm (srt_perm row).symm (cells_dif row)
theorem srt_at {row : List Int} {j : Nat} {c : Ce} (h : (srt row)[j]? = some c) : ∃ q : Nat, q < row.length ∧ c = cl row q := by
  obtain ⟨i, x, hx, hcx⟩ := mem_cells.1 ((srt_perm row).mem_iff.1 (List.mem_of_getElem? h))
  exact ⟨i, (List.getElem?_eq_some_iff.1 hx).1, by rw [hcx, cl, hx]; rfl⟩
theorem srt_has {row : List Int} {q : Nat} (h : q < row.length) : ∃ j : Nat, (srt row)[j]? = some (cl row q) := by
  obtain ⟨x, hx⟩ := getE h
  have : cl row q ∈ srt row := (srt_perm row).mem_iff.2 (mem_cells.2 ⟨q, x, hx, by rw [cl, hx]; rfl⟩)
  exact List.getElem?_of_mem this
theorem srt_inj {row : List Int} {i j : Nat} {c d : Ce} (hc : (srt row)[i]? = some c) (hd : (srt row)[j]? = some d) (e : c.1 = d.1) : i = j := by
  have h := srt_nodes row
  have h1 : ((srt row).map (·.1))[i]? = some c.1 := by rw [List.getElem?_map, hc]; rfl
  have h2 : ((srt row).map (·.1))[j]? = some c.1 := by rw [List.getElem?_map, hd, e]; rfl
  exact (List.getElem?_inj (List.getElem?_eq_some_iff.1 h1).1 h).1 (h1.trans h2.symm)
theorem mem_take_srt {row : List Int} {j i : Nat} {c : Ce} (hc : (srt row)[i]? = some c) : c.1 ∈ ((srt row).take j).map (·.1) ↔ i < j := by
  constructor
  · intro h
    obtain ⟨d, hd, e⟩ := List.mem_map.1 h
    obtain ⟨p, hp⟩ := List.getElem?_of_mem hd
    have hpj : p < j := by have := (List.getElem?_eq_some_iff.1 hp).1; rw [List.length_take] at this; omega
    rw [List.getElem?_take_of_lt hpj] at hp
    have := srt_inj hc hp e.symm
    omega
  · intro h
    exact List.mem_map.2 ⟨c, List.mem_of_getElem? (i := i) (by rw [List.getElem?_take_of_lt h]; exact hc), rfl⟩
/-- The next to be taken. -/
theorem sel_next {row : List Int} {j : Nat} {c : Ce} (hc : (srt row)[j]? = some c) : ∃ q : Nat, q < row.length ∧ selUp row (tkR row j) row.length = some q ∧ c = cl row q := by
  obtain ⟨q, hq, hcq⟩ := srt_at hc
  have hfree : (tkR row j)[q]? = some false := by
    rw [tkR_get hq]
    congr 1
    refine decide_eq_false fun h => ?_
    rw [show (q : Int) = c.1 by rw [hcq]] at h
    have := (mem_take_srt hc).1 h
    omega
  obtain ⟨h1, h2⟩ := selUp_spec row (tkR row j) row.length
  cases hs : selUp row (tkR row j) row.length with
  | none => exact absurd hfree (h2 hs q hq)
  | some q' =>
    obtain ⟨g1, g2, g3⟩ := h1 q' hs
    obtain ⟨j', hj'⟩ := srt_has g1
    have hjj : ¬ j' < j := fun h => by
      rw [tkR_get g1] at g2
      have := of_decide_eq_false (Option.some.inj g2)
      exact this ((mem_take_srt hj').2 h)
    have e : j' = j := by
      refine Nat.le_antisymm (Nat.not_lt.1 fun h => ?_) (Nat.not_lt.1 hjj)
      have h3 := List.pairwise_iff_getElem.1 (srt_srt row) j j' (List.getElem?_eq_some_iff.1 hc).1 (List.getElem?_eq_some_iff.1 hj').1 h
      rw [(List.getElem?_eq_some_iff.1 hc).2, (List.getElem?_eq_some_iff.1 hj').2, hcq] at h3
      rw [g3 q hq hfree] at h3
      cases h3
    subst e
    rw [hc] at hj'
    cases hj'
    exact ⟨q', g1, rfl, rfl⟩
theorem tkR_zero (row : List Int) : tkR row 0 = List.replicate row.length false := by
  unfold tkR
  refine List.ext_getElem? fun i => ?_
  simp only [List.take_zero, List.map_nil, List.not_mem_nil, decide_false, List.getElem?_map, List.getElem?_replicate]
  by_cases h : i < row.length
  · rw [List.getElem?_range h, if_pos h]; rfl
  · rw [List.getElem?_eq_none (by simp; omega), if_neg h]; rfl
theorem tkR_succ {row : List Int} {j q : Nat} (hq : q < row.length) (hc : (srt row)[j]? = some (cl row q)) : tkR row (j + 1) = (tkR row j).set q true := by
  refine List.ext_getElem? fun n => ?_
  rw [List.getElem?_set]
  by_cases hn : n < row.length
  · obtain ⟨i, hi⟩ := srt_has hn
    rw [tkR_get hn, tkR_length]
    split
    · rename_i e
      subst e
      first | rw [if_pos hq] | skip
      congr 1
      exact decide_eq_true ((mem_take_srt hc).2 (Nat.lt_succ_self _))
    · rename_i e
      rw [tkR_get hn]
      congr 1
      refine decide_eq_decide.2 ?_
      rw [mem_take_srt hi, mem_take_srt hi]
      have : i ≠ j := fun h => by
        subst h
        rw [hc] at hi
        have := congrArg Prod.fst (Option.some.inj hi)
        simp only at this
        omega
      omega
  · rw [List.getElem?_eq_none (by rw [tkR_length]; omega), if_neg (by omega), List.getElem?_eq_none (by rw [tkR_length]; omega)]
def nodesUp (tk : List Bool) : Nat → List Int
  | 0 => []
  | m + 1 => nodesUp tk m ++ if tk[m]? = some true then [(m : Int)] else []
theorem nodesUp_eq (tk : List Bool) : ∀ m, nodesUp tk m = ((List.range m).filter fun n => decide (tk[n]? = some true)).map (fun n : Nat => (n : Int))
  | 0 => rfl
  | m + 1 => by
    rw [nodesUp, nodesUp_eq tk m, List.range_succ, List.filter_append, List.map_append]
    congr 1
    by_cases h : tk[m]? = some true
    · simp [h]
    · simp [h]
theorem nodesUp_chosen (row : List Int) (k : Nat) : nodesUp (tkR row k) row.length = chosen row k := by
  unfold chosen
  rw [nodesUp_eq]
  refine srtI_uni ?_ (srtI_srt _) ?_
  · rw [List.pairwise_map]
    refine List.Pairwise.filter _ (List.Pairwise.imp (R := (· < ·)) (fun h => by omega) List.pairwise_lt_range)
  · refine List.Perm.trans ?_ (srtI_perm _).symm
    refine (List.perm_ext_iff_of_nodup ?_ ?_).2 fun n => ?_
    · rw [List.nodup_iff_pairwise_ne, List.pairwise_map]
      refine List.Pairwise.filter _ (List.Pairwise.imp (R := (· < ·)) (fun h => by omega) List.pairwise_lt_range)
    · exact (srt_nodes row).sublist ((List.take_sublist k _).map _)
    · constructor
      · intro h
        obtain ⟨m, hm, rfl⟩ := List.mem_map.1 h
        obtain ⟨h1, h2⟩ := List.mem_filter.1 hm
        have h1 := List.mem_range.1 h1
        have h2 := of_decide_eq_true h2
        rw [tkR_get h1] at h2
        exact of_decide_eq_true (Option.some.inj h2)
      · intro h
        obtain ⟨c, hc, rfl⟩ := List.mem_map.1 h
        obtain ⟨j, hj⟩ := List.getElem?_of_mem ((List.take_sublist k _).subset hc)
        obtain ⟨q, hq, hcq⟩ := srt_at hj
        refine List.mem_map.2 ⟨q, List.mem_filter.2 ⟨List.mem_range.2 hq, decide_eq_true ?_⟩, by rw [hcq]⟩
        rw [tkR_get hq]
        congr 1
        refine decide_eq_true ?_
        rw [show (q : Int) = c.1 by rw [hcq]]
        exact h
end Go.Proofs.Ytknpddiffellgaa
