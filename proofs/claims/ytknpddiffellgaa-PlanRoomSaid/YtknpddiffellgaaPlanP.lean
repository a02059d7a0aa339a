/- The plan, of no program: where an ask starts, what is free then, and several asks. -/
import Derived.Test.YtknpddiffellgaaPure
set_option linter.unusedVariables false
namespace Go.Proofs.Ytknpddiffellgaa
def inI (x : Int) : Int := if x < 0 then 0 else if 1099511627776 < x then 1099511627776 else x
def addI (a b : Int) : Int := inI (inI a + inI b)
theorem inI_nn (x : Int) : 0 ≤ inI x ∧ inI x ≤ 1099511627776 := by unfold inI; split <;> (try split) <;> omega
theorem inI_id {x : Int} (h : 0 ≤ x) (h2 : x ≤ 1099511627776) : inI x = x := by unfold inI; rw [if_neg (by omega), if_neg (by omega)]
theorem inI_inI (x : Int) : inI (inI x) = inI x := inI_id (inI_nn x).1 (inI_nn x).2
theorem inI_add (a b : Int) : inI (addI a b) = addI a b := inI_inI _
/-- A cell: a node, and from when on it is free. -/
abbrev Ce := Int × Int
def ltC (a b : Ce) : Bool := decide (a.2 < b.2 ∨ a.2 = b.2 ∧ a.1 < b.1)
theorem ltC_irr (a : Ce) : ltC a a = false := decide_eq_false (by omega)
theorem ltC_tr {a b c : Ce} (h1 : ltC a b = true) (h2 : ltC b c = true) : ltC a c = true := by
  simp only [ltC, decide_eq_true_eq] at *; omega
theorem ltC_nt {a b c : Ce} (h1 : ltC a b = false) (h2 : ltC b c = false) : ltC a c = false := by
  simp only [ltC, decide_eq_false_iff_not] at *; omega
theorem ltC_as {a b : Ce} (h1 : ltC a b = true) : ltC b a = false := by
  simp only [ltC, decide_eq_true_eq, decide_eq_false_iff_not] at *; omega
theorem ltC_tot {a b : Ce} (h : a.1 ≠ b.1) : ltC a b = true ∨ ltC b a = true := by
  simp only [ltC, decide_eq_true_eq]; omega
def insC (x : Ce) : List Ce → List Ce
  | [] => [x]
  | y :: l => if ltC x y then x :: y :: l else y :: insC x l
def srtC : List Ce → List Ce
  | [] => []
  | x :: l => insC x (srtC l)
theorem insC_perm (x : Ce) : ∀ l, (insC x l).Perm (x :: l)
  | [] => .refl _
  | y :: l => by
    unfold insC
    split
    · exact .refl _
    · exact ((insC_perm x l).cons y).trans (.swap _ _ _)
theorem srtC_perm : ∀ l, (srtC l).Perm l
  | [] => .refl _
  | x :: l => (insC_perm x _).trans ((srtC_perm l).cons x)
abbrev Srt (l : List Ce) : Prop := l.Pairwise fun a b => ltC a b = true
theorem insC_srt {x : Ce} : ∀ {l}, Srt l → (∀ y ∈ l, x.1 ≠ y.1) → Srt (insC x l)
  | [], _, _ => List.pairwise_singleton _ _
  | y :: l, h, hd => by
    have h' := List.pairwise_cons.1 h
    unfold insC
    split
    · rename_i hlt
      refine List.pairwise_cons.2 ⟨fun z hz => ?_, h⟩
      rcases List.mem_cons.1 hz with rfl | hz
      · exact hlt
      · exact ltC_tr hlt (h'.1 z hz)
    · rename_i hlt
      refine List.pairwise_cons.2 ⟨fun z hz => ?_, insC_srt h'.2 fun z hz => hd z (.tail _ hz)⟩
      rcases List.mem_cons.1 ((insC_perm x l).mem_iff.1 hz) with rfl | hz
      · exact (ltC_tot (hd y (.head _))).resolve_left (by simpa using hlt)
      · exact h'.1 z hz
abbrev Dif (l : List Ce) : Prop := l.Pairwise fun a b => a.1 ≠ b.1
theorem srtC_srt : ∀ {l}, Dif l → Srt (srtC l)
  | [], _ => .nil
  | x :: l, h => by
    have h' := List.pairwise_cons.1 h
    exact insC_srt (srtC_srt h'.2) fun y hy => h'.1 y ((srtC_perm l).mem_iff.1 hy)
theorem srt_uni : ∀ {l m : List Ce}, Srt l → Srt m → l.Perm m → l = m
  | [], m, _, _, hp => (List.nil_perm.1 hp).symm
  | a :: l, [], _, _, hp => by have := hp.length_eq; simp at this
  | a :: l, b :: m, hl, hm, hp => by
    have hl' := List.pairwise_cons.1 hl
    have hm' := List.pairwise_cons.1 hm
    have e : a = b := by
      rcases List.mem_cons.1 (hp.mem_iff.1 (List.mem_cons_self ..)) with e | h1
      · exact e
      · rcases List.mem_cons.1 (hp.mem_iff.2 (List.mem_cons_self ..)) with e | h2
        · exact e.symm
        · have := ltC_as (hl'.1 b h2)
          rw [hm'.1 a h1] at this
          cases this
    subst e
    rw [srt_uni hl'.2 hm'.2 (List.Perm.cons_inv hp)]
theorem dif_perm {l m : List Ce} (hp : l.Perm m) (h : Dif l) : Dif m := by
  have : (m.map (·.1)).Nodup := ((hp.map _).nodup_iff).1 (by rw [List.nodup_iff_pairwise_ne, List.pairwise_map]; exact h)
  rwa [List.nodup_iff_pairwise_ne, List.pairwise_map] at this
theorem srt_of_nt {l : List Ce} (hd : Dif l) (h : l.Pairwise fun a b => ltC b a = false) : Srt l :=
  (hd.and h).imp fun ⟨h1, h2⟩ => (ltC_tot h1).resolve_right (by rw [h2]; simp)
/-- The cells of a row, from node k on. -/
def cellsF : Nat → List Int → List Ce
  | _, [] => []
  | k, x :: l => ((k : Int), inI x) :: cellsF (k + 1) l
abbrev cellsR (row : List Int) : List Ce := cellsF 0 row
theorem cellsF_length : ∀ k row, (cellsF k row).length = row.length
  | _, [] => rfl
  | k, _ :: l => by simp [cellsF, cellsF_length (k + 1) l]
theorem cellsF_get : ∀ {k row i}, (cellsF k row)[i]? = (row[i]?).map fun x => (((k + i : Nat) : Int), inI x)
  | _, [], _ => rfl
  | k, x :: l, 0 => rfl
  | k, x :: l, i + 1 => by
    simp only [cellsF, List.getElem?_cons_succ]
    rw [cellsF_get (k := k + 1), show k + 1 + i = k + (i + 1) by omega]
theorem cellsR_get {row : List Int} {i : Nat} : (cellsR row)[i]? = (row[i]?).map fun x => ((i : Int), inI x) := by
  rw [cellsF_get, Nat.zero_add]
theorem cellsR_snoc (row : List Int) (m : Nat) (x : Int) (hx : row[m]? = some x) : (cellsR row).take (m + 1) = (cellsR row).take m ++ [((m : Int), inI x)] := by
  rw [List.take_add_one, cellsR_get, hx]
  rfl
theorem mem_cells {row : List Int} {c : Ce} : c ∈ cellsR row ↔ ∃ (i : Nat) (x : Int), row[i]? = some x ∧ c = ((i : Int), inI x) := by
  rw [List.mem_iff_getElem?]
  constructor
  · rintro ⟨i, h⟩
    rw [cellsR_get, Option.map_eq_some_iff] at h
    obtain ⟨x, h1, h2⟩ := h
    exact ⟨i, x, h1, h2.symm⟩
  · rintro ⟨i, x, h1, h2⟩
    exact ⟨i, by rw [cellsR_get, h1, h2]; rfl⟩
theorem cells_dif (row : List Int) : Dif (cellsR row) := by
  rw [Dif, List.pairwise_iff_getElem]
  intro i j hi hj hij e
  have h1 := List.getElem?_eq_getElem hi
  have h2 := List.getElem?_eq_getElem hj
  rw [cellsR_get, Option.map_eq_some_iff] at h1 h2
  obtain ⟨x, _, h1⟩ := h1
  obtain ⟨y, _, h2⟩ := h2
  rw [← h1, ← h2] at e
  simp only at e
  omega
/-- A row's cells, the soonest first. -/
def srt (row : List Int) : List Ce := srtC (cellsR row)
theorem srt_perm (row : List Int) : (srt row).Perm (cellsR row) := srtC_perm _
theorem srt_srt (row : List Int) : Srt (srt row) := srtC_srt (cells_dif row)
theorem srt_length (row : List Int) : (srt row).length = row.length := by rw [(srt_perm row).length_eq, cellsF_length]
theorem srt_eq {row : List Int} {l : List Ce} (hp : l.Perm (cellsR row)) (h : l.Pairwise fun a b => ltC b a = false) : l = srt row :=
  srt_uni (srt_of_nt (dif_perm hp.symm (cells_dif row)) h) (srt_srt row) (hp.trans (srt_perm row).symm)
/-- Numbers, rising. -/
def insI (x : Int) : List Int → List Int
  | [] => [x]
  | y :: l => if x ≤ y then x :: y :: l else y :: insI x l
def srtI : List Int → List Int
  | [] => []
  | x :: l => insI x (srtI l)
theorem insI_perm (x : Int) : ∀ l, (insI x l).Perm (x :: l)
  | [] => .refl _
  | y :: l => by
    unfold insI
    split
    · exact .refl _
    · exact ((insI_perm x l).cons y).trans (.swap _ _ _)
theorem srtI_perm : ∀ l, (srtI l).Perm l
  | [] => .refl _
  | x :: l => (insI_perm x _).trans ((srtI_perm l).cons x)
theorem insI_srt {x : Int} : ∀ {l : List Int}, l.Pairwise (· ≤ ·) → (insI x l).Pairwise (· ≤ ·)
  | [], _ => List.pairwise_singleton _ _
  | y :: l, h => by
    have h' := List.pairwise_cons.1 h
    unfold insI
    split
    · rename_i hlt
      refine List.pairwise_cons.2 ⟨fun z hz => ?_, h⟩
      rcases List.mem_cons.1 hz with rfl | hz
      · exact hlt
      · exact Int.le_trans hlt (h'.1 z hz)
    · rename_i hlt
      refine List.pairwise_cons.2 ⟨fun z hz => ?_, insI_srt h'.2⟩
      rcases List.mem_cons.1 ((insI_perm x l).mem_iff.1 hz) with rfl | hz
      · omega
      · exact h'.1 z hz
theorem srtI_srt : ∀ l, (srtI l).Pairwise (· ≤ ·)
  | [] => .nil
  | x :: l => insI_srt (srtI_srt l)
theorem srtI_uni : ∀ {l m : List Int}, l.Pairwise (· ≤ ·) → m.Pairwise (· ≤ ·) → l.Perm m → l = m
  | [], m, _, _, hp => (List.nil_perm.1 hp).symm
  | a :: l, [], _, _, hp => by have := hp.length_eq; simp at this
  | a :: l, b :: m, hl, hm, hp => by
    have hl' := List.pairwise_cons.1 hl
    have hm' := List.pairwise_cons.1 hm
    have e : a = b := by
      rcases List.mem_cons.1 (hp.mem_iff.1 (List.mem_cons_self ..)) with e | h1
      · exact e
      · rcases List.mem_cons.1 (hp.mem_iff.2 (List.mem_cons_self ..)) with e | h2
        · exact e.symm
        · exact Int.le_antisymm (hl'.1 b h2) (hm'.1 a h1)
    subst e
    rw [srtI_uni hl'.2 hm'.2 (List.Perm.cons_inv hp)]
theorem mergeSort_srtI (l : List Int) : l.mergeSort (fun x y => decide (x ≤ y)) = srtI l := by
  refine srtI_uni ?_ (srtI_srt l) ((List.mergeSort_perm l _).trans (srtI_perm l).symm)
  have := List.pairwise_mergeSort (le := fun x y : Int => decide (x ≤ y)) (fun a b c h1 h2 => by simp only [decide_eq_true_eq] at *; omega) (fun a b => by simp only [Bool.or_eq_true, decide_eq_true_eq]; omega) l
  exact this.imp fun h => by simpa using h
/-- The k soonest cells of a row: when the last of them is free; their nodes, rising. -/
def kth (row : List Int) (k : Nat) : Option Int := if k ≤ row.length then ((srt row)[k - 1]?).map (·.2) else none
def chosen (row : List Int) (k : Nat) : List Int := srtI (((srt row).take k).map (·.1))
def comb (b : Option (Int × Nat)) (i : Nat) (v : Option Int) : Option (Int × Nat) :=
  match v with
  | none => b
  | some v => match b with
    | none => some (v, i)
    | some (u, j) => if v < u then some (v, i) else some (u, j)
def bestUp (k : Nat) (D : List (List Int)) : Nat → Option (Int × Nat)
  | 0 => none
  | n + 1 => comb (bestUp k D n) n ((D[n]?).bind fun row => kth row k)
structure St where
  at_ : Int
  row : Int
  nodes : List Int
  ok : Bool
  deriving DecidableEq
instance : Inhabited St := ⟨⟨0, 0, [], false⟩⟩
def firstR (D : List (List Int)) (k : Int) : St :=
  if k < 1 then ⟨0, 0, [], false⟩ else match bestUp k.toNat D D.length with
    | none => ⟨0, 0, [], false⟩
    | some (v, i) => ⟨v, i, chosen (D[i]?.getD []) k.toNat, true⟩
/-- Nodes of a row are free from v on. -/
def setN (v : Int) (row : List Int) (n : Int) : List Int := if 0 ≤ n ∧ n < row.length then row.set n.toNat v else row
def setAll (v : Int) (row : List Int) (ns : List Int) : List Int := ns.foldl (setN v) row
def raiseR (D : List (List Int)) (r : Int) (ns : List Int) (v : Int) : List (List Int) := if 0 ≤ r ∧ r < D.length then D.set r.toNat (setAll v (D[r.toNat]?.getD []) ns) else D
def resR (D : List (List Int)) (s : St) (len : Int) : List (List Int) :=
  if s.ok then raiseR D s.row s.nodes (addI s.at_ (max len 1)) else D
structure Ak where
  k : Int
  len : Int
  deriving DecidableEq
instance : Inhabited Ak := ⟨⟨0, 0⟩⟩
def planR (D : List (List Int)) : List Ak → List St
  | [] => []
  | a :: l => firstR D a.k :: planR (resR D (firstR D a.k) a.len) l
def fewR (P : List (List Int)) : List (List Int) := (P.take 10).map (·.take 20)
theorem planR_length : ∀ (l : List Ak) D, (planR D l).length = l.length
  | [], _ => rfl
  | a :: l, D => by simp [planR, planR_length l]
theorem setN_length (v : Int) (row : List Int) (n : Int) : (setN v row n).length = row.length := by unfold setN; split <;> simp
theorem setAll_length (v : Int) : ∀ (ns : List Int) (row : List Int), (setAll v row ns).length = row.length
  | [], _ => rfl
  | n :: ns, row => by
    show (setAll v (setN v row n) ns).length = _
    rw [setAll_length v ns, setN_length]
theorem raiseR_lens (D : List (List Int)) (r : Int) (ns : List Int) (v : Int) : (raiseR D r ns v).map List.length = D.map List.length := by
  unfold raiseR
  split
  · rename_i h
    refine List.ext_getElem? fun i => ?_
    rw [List.getElem?_map, List.getElem?_map, List.getElem?_set]
    split
    · rename_i e
      subst e
      rw [if_pos (by omega), List.getElem?_eq_getElem (show r.toNat < D.length by omega)]
      simp [setAll_length]
    · rfl
  · rfl
theorem resR_lens (D : List (List Int)) (s : St) (len : Int) : (resR D s len).map List.length = D.map List.length := by
  unfold resR
  split
  · exact raiseR_lens ..
  · rfl
/-- The plan's state behind m asks. -/
def profAt (D : List (List Int)) : List Ak → List (List Int)
  | [] => D
  | a :: l => profAt (resR D (firstR D a.k) a.len) l
theorem profAt_lens : ∀ (l : List Ak) (D : List (List Int)), (profAt D l).map List.length = D.map List.length
  | [], _ => rfl
  | a :: l, D => by
    show (profAt (resR D (firstR D a.k) a.len) l).map List.length = _
    rw [profAt_lens l, resR_lens]
theorem profAt_snoc (a : Ak) : ∀ (l : List Ak) (D : List (List Int)), profAt D (l ++ [a]) = resR (profAt D l) (firstR (profAt D l) a.k) a.len
  | [], _ => rfl
  | b :: l, D => profAt_snoc a l _
theorem planR_snoc (a : Ak) : ∀ (l : List Ak) (D : List (List Int)), planR D (l ++ [a]) = planR D l ++ [firstR (profAt D l) a.k]
  | [], _ => rfl
  | b :: l, D => by
    show firstR D b.k :: planR _ (l ++ [a]) = firstR D b.k :: (planR _ l ++ [_])
    rw [planR_snoc a l]
    rfl
end Go.Proofs.Ytknpddiffellgaa
