/- ShufflePlays: of any matrix rows are put together, and jobs put ahead, just as the document says; the matrix itself stays as it was; a nil one is none. -/
import Derived.Test.YtegjmmocnffpiaaDoorMH5
/- The document's shuffle: Repack. -/
namespace Go.Proofs.YtegjmmocnffpiaaDoor
open Go.RowKit
set_option maxRecDepth 20000
theorem repRow_keep {j : Nat} {ids : List Nat} {a : Mx × List Mv} (ha : MxOk a.1) : ∀ p, Keep a.1 (repRow j ids a p).1
  | 0 => Keep.refl ha
  | p + 1 => by
    have ih := repRow_keep (j := j) (ids := ids) ha p
    rw [repRow]
    cases h : repTry (repRow j ids a p).1 (ids.getD p 0) j with
    | none => exact ih
    | some r =>
      obtain ⟨i, _, hv, _⟩ := repTry_first h
      have hm := Keep.move ih.ok (ids.getD p 0) i
      rw [hv] at hm
      exact ih.trans hm
/-- The first row ahead in which a job's nodes are free. -/
abbrev goF (js : List Jb) (ns : Bs) : Nat → Bool := fun i => decide (tk js i &&& ns = 0#16)
theorem find_succ (f : Nat → Bool) (p : Nat) : (List.range (p + 1)).find? f = match (List.range p).find? f with
    | some r => some r
    | none => if f p = true then some p else none := by
  rw [List.range_succ, List.find?_append]
  cases (List.range p).find? f with
  | some r => rfl
  | none =>
    simp only [Option.none_or, List.find?_cons, List.find?_nil]
    cases f p <;> rfl
theorem repTry_go {m : Mx} (hm : MxOk m) {y : Jb} (hy : y ∈ m.js) : ∀ p, p ≤ y.row → repTry m y.id p = ((List.range p).find? (goF m.js y.ns)).map fun i : Nat => ((y.id, (y.row : Int), (i : Int)), { m with js := reRow m.js y.id i })
  | 0, _ => rfl
  | p + 1, hp => by
    have hr := hm.row y hy
    rw [repTry, repTry_go hm hy p (by omega), find_succ]
    cases h : (List.range p).find? (goF m.js y.ns) with
    | some i => rfl
    | none =>
      simp only
      have hc : canMove m y (p : Nat) = goF m.js y.ns p := by
        rw [canMove, rowB_iff.2 ⟨by omega, by omega⟩, Bool.true_and, Int.toNat_natCast, tk_delJ hm hy, if_neg (by omega)]
      have hv : moveR m y.id (p : Nat) = if goF m.js y.ns p = true then (some (y.id, (y.row : Int), ((p : Nat) : Int)), { m with js := reRow m.js y.id p }) else (none, m) := by
        unfold moveR
        rw [look_mem hm.srt hy]
        simp only [hc, Int.toNat_natCast]
      rw [hv]
      cases goF m.js y.ns p <;> rfl
/-- All rows, one behind the other; the first moves nobody. -/
def repAll (m : Mx) : Nat → Mx × List Mv
  | 0 => (m, [])
  | j + 1 => repRow j (rowIds (repAll m j).1 (j : Nat)) (repAll m j) (rowIds (repAll m j).1 (j : Nat)).length
theorem repRow_zero (ids : List Nat) (a : Mx × List Mv) : ∀ p, repRow 0 ids a p = a
  | 0 => rfl
  | p + 1 => by
    rw [repRow, repRow_zero ids a p]
    rfl
theorem repAll_up (m : Mx) : ∀ k, repAll m (k + 1) = repUp m k
  | 0 => by
    rw [repAll, repRow_zero]
    rfl
  | k + 1 => by
    rw [repAll, repAll_up m k]
    rfl
theorem repAll_keep {m : Mx} (hm : MxOk m) : ∀ j, Keep m (repAll m j).1
  | 0 => Keep.refl hm
  | j + 1 => by
    have ih := repAll_keep hm j
    rw [repAll]
    exact ih.trans (repRow_keep ih.ok _)
theorem repRow_len (j : Nat) (ids : List Nat) (a : Mx × List Mv) : ∀ p, (repRow j ids a p).2.length ≤ a.2.length + p
  | 0 => Nat.le_refl _
  | p + 1 => by
    have ih := repRow_len j ids a p
    rw [repRow]
    cases repTry (repRow j ids a p).1 (ids.getD p 0) j with
    | none => simp only; omega
    | some r => simp only [List.length_append, List.length_singleton]; omega
/-- Who is next in row j stands there. -/
theorem rep_next {m : Mx} (hm : MxOk m) {j : Nat} (hj : j < m.R) (xs : List Mv) {p : Nat} (hp : p < (rowIds m j).length) : ∃ y ∈ (repRow j (rowIds m j) (m, xs) p).1.js, (rowIds m j)[p]? = some y.id ∧ y.row = j := by
  have hU := repRow_U (e := j) hm hj (fun h => by omega) xs p (Nat.le_of_lt hp)
  have hk := (repRow_keep (j := j) (ids := rowIds m j) (a := (m, xs)) hm p).ids
  obtain ⟨z, z1, _, z3⟩ := (mem_rowIds hm hj).1 (List.getElem_mem hp)
  have h8 : (rowIds m j)[p] ∈ m.js.map (·.id) := List.mem_map.2 ⟨z, z1, z3⟩
  rw [← hk] at h8
  obtain ⟨y, y1, y2⟩ := List.mem_map.1 h8
  refine ⟨y, y1, by rw [List.getElem?_eq_getElem hp, y2], hU.left y y1 ?_⟩
  rw [y2, List.drop_eq_getElem_cons hp]
  exact List.mem_cons_self ..
def dnF (f : Nat → Bool) (j n : Nat) : Option Nat := ((List.range j).drop n).find? f
theorem dnF_end (f : Nat → Bool) (j : Nat) : dnF f j j = none := by
  rw [dnF, List.drop_eq_nil_of_le (by simp)]
  rfl
theorem dnF_step (f : Nat → Bool) {j n : Nat} (h : n < j) : dnF f j n = if f n = true then some n else dnF f j (n + 1) := by
  rw [dnF, List.drop_eq_getElem_cons (by simpa using h), List.find?_cons]
  simp only [List.getElem_range]
  cases f n <;> rfl
def toI (o : Option Nat) : Int := match o with
  | some i => (i : Int)
  | none => -1
set_option maxHeartbeats 2000000 in
theorem rRepack_S (b : Nat) (m : Mx) : Spec Tryd.prog 18 [.pointer (some ⟨b, 0, none⟩)] [RI b m] fun Γ v Θ => ∃ (c : Nat) (sv : SV), v = .tuple #[.pointer (some ⟨c, 0, none⟩), sv.v] ∧ sv.n = (repackR m).2.length ∧
    Θ = own sv 113 3 ((repackR m).2.flatMap mvC) :: RI c (repackR m).1 :: RI b m :: Γ := by
  refine Spec.riOk fun hm => ?_
  refine Spec.of_body Tryd.func18 rfl Tryd.ntmps18 rfl ?_
  intro w0 Γ
  show S _ w0 [(0, .pointer (some ⟨b, 0, none⟩))] (RI b m :: Γ) _
  have hR8 := hm.R8
  have hR1 := hm.R1
  refine S.seq fun K1 hK1 => ?_
  refine S.region rfl ?_
  refine S.op (S.q (q_assign rfl) rfl rfl ?_)
  refine S.op (S.q (q_assign rfl) rfl rfl ?_)
  first | with_reducible refine S.nilK ?_ | refine S.nil ?_
  refine hK1 _ _ ?_
  refine S.seq fun K2 hK2 => ?_
  refine S.seq fun K3 hK3 => ?_
  refine S.region rfl ?_
  refine S.op (S.q (q_move rfl) rfl rfl ?_)
  refine S.op (S.q (q_eqN Tryd.underlying26 rfl rfl) rfl rfl ?_)
  first | with_reducible refine S.nilK ?_ | refine S.nil ?_
  refine hK3 _ _ ?_
  refine S.condF rfl ?_
  refine S.skip ?_
  with_reducible repeat (first | refine S.then_n ?_ | refine S.then_x ?_ | refine S.then_r ?_ | refine S.inBlock_n ?_ | refine S.inBlock_r ?_ | refine S.inBlock_x rfl ?_ | refine S.noGoto_r ?_ | refine S.noGoto_n ?_ | refine S.noGoto_x ?_)
  refine hK2 _ _ ?_
  refine S.seq fun K4 hK4 => ?_
  refine S.region rfl ?_
  refine S.op (S.q (q_move rfl) rfl rfl ?_)
  refine S.op (S.call Tryd.en26 (vs := [_]) ⟨rfl, trivial⟩ (rCopy_S b m) rfl ?_)
  rintro v Θ ⟨c, rfl, rfl⟩
  refine S.op (S.q (q_assign rfl) rfl rfl ?_)
  first | with_reducible refine S.nilK ?_ | refine S.nil ?_
  refine hK4 _ _ ?_
  refine S.seq fun K5 hK5 => ?_
  refine S.region rfl ?_
  refine S.op (S.q (q_assign rfl) rfl rfl ?_)
  first | with_reducible refine S.nilK ?_ | refine S.nil ?_
  refine hK5 _ _ ?_
  refine S.seq fun K6 hK6 => ?_
  refine S.seq fun K7 hK7 => ?_
  refine S.region rfl ?_
  refine S.riOpen c m fun cs us rs hri => ?_
  have hcn := hri.cn
  refine S.op (S.q (q_move rfl) rfl rfl ?_)
  refine S.op (S.q (q_nilCheck rfl) rfl rfl ?_)
  refine S.op (S.q (q_field Tryd.fo55_0 rfl) rfl rfl ?_)
  refine S.op (S.q (q_load Tryd.at52 rfl rfl) rfl rfl ?_)
  refine S.op (S.q (q_len Tryd.underlying52 rfl) rfl rfl ?_)
  refine S.riClose c m cs us rs hri ?_
  refine S.ent (Ent.ownNil 113 3) ?_
  show S _ w0 _ (own SV.nil 113 3 (([] : List Mv).flatMap mvC) :: _) _
  refine S.op (S.q (q_move rfl) rfl rfl ?_)
  first | with_reducible refine S.nilK ?_ | refine S.nil ?_
  refine hK7 _ _ ?_
  refine S.block ?_
  refine S.loop (fun q ρ' Γ' => ∃ (j : Nat) (m1 : Mx) (sv : SV) (xs : List Mv), q = m.R - j ∧ j ≤ m.R ∧ repAll m j = (m1, xs) ∧ MxOk m1 ∧ m1.R = m.R ∧ sv.n = xs.length ∧ xs.length ≤ 16 * j ∧ ρ' = [(4, .pointer (some ⟨c, 0, none⟩)), (5, sv.v), (23, .int .i64 (cs.n : Int)), (24, .int .i64 (j : Int))] ∧   Γ' = own sv 113 3 (xs.flatMap mvC) :: RI c m1 :: RI b m :: Γ) (m := _) (ρ0 := _) (Γ0 := _) (⟨0, m, SV.nil, [], rfl, by omega, rfl, hm, rfl, rfl, by simp, rfl, rfl⟩) (by repeat (first | exact trivial | refine ⟨rfl, ?_⟩)) Sub.ent ?_
  rintro q ρ' Γ' ⟨j, m1, sv, xs, hq, hj, hra1, hm1, hR1', hsv, hxl, rfl, rfl⟩
  refine S.seq fun K8 hK8 => ?_
  refine S.region rfl ?_
  refine S.op (S.q (q_lt rfl rfl) rfl rfl ?_)
  first | with_reducible refine S.nilK ?_ | refine S.nil ?_
  refine hK8 _ _ ?_
  refine S.seq fun K9 hK9 => ?_
  refine S.condD rfl (fun h2 => ?_) (fun h2 => ?_)
  · refine S.skip ?_
    with_reducible repeat (first | refine S.then_n ?_ | refine S.then_x ?_ | refine S.then_r ?_ | refine S.inBlock_n ?_ | refine S.inBlock_r ?_ | refine S.inBlock_x rfl ?_ | refine S.noGoto_r ?_ | refine S.noGoto_n ?_ | refine S.noGoto_x ?_)
    refine hK9 _ _ ?_
    refine S.seq fun K10 hK10 => ?_
    refine S.block ?_
    refine S.seq fun K11 hK11 => ?_
    refine S.region rfl ?_
    refine S.op (S.q (q_move rfl) rfl rfl ?_)
    refine S.op (S.q (q_assign rfl) rfl rfl ?_)
    first | with_reducible refine S.nilK ?_ | refine S.nil ?_
    refine hK11 _ _ ?_
    refine S.seq fun K12 hK12 => ?_
    refine S.region rfl ?_
    refine S.op (S.q (q_move rfl) rfl rfl ?_)
    refine S.op (S.q (q_move rfl) rfl rfl ?_)
    refine S.op (S.call Tryd.en19 (vs := [_, _]) ⟨rfl, rfl, trivial⟩ (rRow_S c m1 j) rfl ?_)
    rintro v Θ ⟨rv, rfl, hrv, rfl⟩
    have hr16 := rIds_len m1 j
    refine S.op (S.q (q_len Tryd.underlying31 rfl) rfl rfl ?_)
    refine S.op (S.q (q_move rfl) rfl rfl ?_)
    first | with_reducible refine S.nilK ?_ | refine S.nil ?_
    refine hK12 _ _ ?_
    refine S.block ?_
    refine S.loop (fun q2 ρ' Γ' => ∃ (p : Nat) (m2 : Mx) (s2 : SV) (ys : List Mv), q2 = (rowIds m1 j).length - p ∧ p ≤ (rowIds m1 j).length ∧ repRow j (rowIds m1 j) (m1, xs) p = (m2, ys) ∧ s2.n = ys.length ∧ ρ' = [(4, .pointer (some ⟨c, 0, none⟩)), (5, s2.v), (6, .int .i64 (j : Int)), (23, .int .i64 (cs.n : Int)), (24, .int .i64 (j : Int)), (29, rv.v), (30, .int .i64 rv.n), (31, .int .i64 (p : Int))] ∧   Γ' = own s2 113 3 (ys.flatMap mvC) :: own rv 68 1 (idsV (rowIds m1 j)) :: RI c m2 :: RI b m :: Γ) (m := _) (ρ0 := _) (Γ0 := _) (⟨0, m1, sv, xs, rfl, by omega, rfl, hsv, rfl, rfl⟩) (by repeat (first | exact trivial | refine ⟨rfl, ?_⟩)) Sub.ent ?_
    rintro q2 ρ' Γ' ⟨p, m2, s2, ys, hq2, hp, hrr, hs2, rfl, rfl⟩
    have hyl := repRow_len j (rowIds m1 j) (m1, xs) p
    have hkp := repRow_keep (j := j) (ids := rowIds m1 j) (a := (m1, xs)) hm1 p
    rw [hrr] at hyl hkp
    have hyl : ys.length ≤ xs.length + p := hyl
    have hkp : Keep m1 m2 := hkp
    have hm2 := hkp.ok
    have hR2 : m2.R = m1.R := hkp.R
    have hN16 := hm2.N16
    refine S.seq fun K13 hK13 => ?_
    refine S.region rfl ?_
    refine S.op (S.q (q_lt rfl rfl) rfl rfl ?_)
    first | with_reducible refine S.nilK ?_ | refine S.nil ?_
    refine hK13 _ _ ?_
    refine S.seq fun K14 hK14 => ?_
    refine S.condD rfl (fun h3 => ?_) (fun h3 => ?_)
    · refine S.ownSome rv (by omega) fun rb ro hra _ _ _ => ?_
      obtain ⟨y, hy, hyp, hyj⟩ := rep_next hm1 (show j < m1.R by omega) xs (show p < (rowIds m1 j).length by omega)
      rw [hrr] at hy
      have hof := ofR_some (look_mem hm2.srt hy)
      have hl16 := lst_len y.ns
      have hyg : (rowIds m1 j).getD p 0 = y.id := by simp [List.getD, hyp]
      have hstep : repRow j (rowIds m1 j) (m1, xs) (p + 1) = match (List.range j).find? (goF m2.js y.ns) with
          | some i => ({ m2 with js := reRow m2.js y.id i }, ys ++ [(y.id, (j : Int), (i : Int))])
          | none => (m2, ys) := by
        have ht := repTry_go hm2 hy j (by omega)
        rw [repRow, hrr, hyg]
        simp only [ht]
        rw [hyj]
        cases (List.range j).find? (goF m2.js y.ns) <;> rfl
      have hnsN : ∀ z ∈ lst y.ns, z < m2.N := fun z hz => hm2.ns y hy z (mem_lst.1 hz)
      refine S.skip ?_
      with_reducible repeat (first | refine S.then_n ?_ | refine S.then_x ?_ | refine S.then_r ?_ | refine S.inBlock_n ?_ | refine S.inBlock_r ?_ | refine S.inBlock_x rfl ?_ | refine S.noGoto_r ?_ | refine S.noGoto_n ?_ | refine S.noGoto_x ?_)
      refine hK14 _ _ ?_
      refine S.seq fun K15 hK15 => ?_
      refine S.block ?_
      refine S.seq fun K16 hK16 => ?_
      refine S.region rfl ?_
      refine S.op (S.q (q_indexO (p) Tryd.el31 rfl hra rfl rfl (by omega)) rfl rfl ?_)
      refine S.op (S.q (q_loadOw (rv) (p) Tryd.at68 rfl hra (by first | rfl | exact Nat.add_assoc _ _ _ | omega) (idsV_get hyp)) rfl rfl ?_)
      refine S.op (S.q (q_assign rfl) rfl rfl ?_)
      first | with_reducible refine S.nilK ?_ | refine S.nil ?_
      refine hK16 _ _ ?_
      refine S.seq fun K17 hK17 => ?_
      refine S.region rfl ?_
      refine S.op (S.q (q_move rfl) rfl rfl ?_)
      refine S.op (S.q (q_move rfl) rfl rfl ?_)
      refine S.op (S.call Tryd.en46 (vs := [_, _]) ⟨rfl, rfl, trivial⟩ (rOf_S c m2 y.id) rfl ?_)
      rintro v Θ ⟨nv1, rfl, hnv, rfl⟩
      rw [hof] at hnv ⊢
      simp only at hnv ⊢
      refine S.op (S.q (q_move rfl) rfl rfl ?_)
      refine S.op (S.q (q_extract rfl rfl) rfl rfl ?_)
      refine S.op (S.q (q_extract rfl rfl) rfl rfl ?_)
      refine S.op (S.q (q_extract rfl rfl) rfl rfl ?_)
      refine S.op (S.q (q_assign rfl) rfl rfl ?_)
      refine S.op (S.q (q_assign rfl) rfl rfl ?_)
      refine S.op (S.q (q_assign rfl) rfl rfl ?_)
      first | with_reducible refine S.nilK ?_ | refine S.nil ?_
      refine hK17 _ _ ?_
      refine S.seq fun K18 hK18 => ?_
      refine S.region rfl ?_
      refine S.op (S.q (q_assign rfl) rfl rfl ?_)
      first | with_reducible refine S.nilK ?_ | refine S.nil ?_
      refine hK18 _ _ ?_
      refine S.seq fun K19 hK19 => ?_
      refine S.seq fun K20 hK20 => ?_
      refine S.region rfl ?_
      refine S.op (S.q (q_move rfl) rfl rfl ?_)
      refine S.op (S.q (q_sub rfl rfl (inI64 (by omega) (by omega))) rfl rfl ?_)
      refine S.op (S.q (q_assign rfl) rfl rfl ?_)
      first | with_reducible refine S.nilK ?_ | refine S.nil ?_
      refine hK20 _ _ ?_
      refine S.block ?_
      refine S.loop (fun q3 ρ' Γ' => ∃ (n : Nat) (z tv : Int), q3 = n ∧ z = (n : Int) - 1 ∧ n ≤ j ∧ tv = toI (dnF (goF m2.js y.ns) j n) ∧ ρ' = [(4, .pointer (some ⟨c, 0, none⟩)), (5, s2.v), (6, .int .i64 (j : Int)), (8, .int .u32 (y.id : Int)), (10, nv1.v), (12, .int .i64 tv), (13, .int .i64 z), (23, .int .i64 (cs.n : Int)), (24, .int .i64 (j : Int)), (29, rv.v), (30, .int .i64 rv.n), (31, .int .i64 (p : Int))] ∧   Γ' = own nv1 3 1 (nds (lst y.ns)) :: own s2 113 3 (ys.flatMap mvC) :: own rv 68 1 (idsV (rowIds m1 j)) :: RI c m2 :: RI b m :: Γ) (m := _) (ρ0 := _) (Γ0 := _) (⟨j, (j : Int) - 1, -1, rfl, rfl, Nat.le_refl _, by rw [dnF_end]; rfl, rfl, rfl⟩) (by repeat (first | exact trivial | refine ⟨rfl, ?_⟩)) Sub.ent ?_
      rintro q3 ρ' Γ' ⟨n, z, tv, hq3, hz, hnj, htv, rfl, rfl⟩
      refine S.seq fun K21 hK21 => ?_
      refine S.seq fun K22 hK22 => ?_
      refine S.region rfl ?_
      refine S.op (S.q (q_move rfl) rfl rfl ?_)
      refine S.op (S.q (q_ge rfl rfl) rfl rfl ?_)
      first | with_reducible refine S.nilK ?_ | refine S.nil ?_
      refine hK22 _ _ ?_
      refine S.condD rfl (fun h4 => ?_) (fun h4 => ?_)
      · obtain ⟨n, rfl⟩ : ∃ n', n = n' + 1 := ⟨n - 1, by omega⟩
        obtain rfl : z = (n : Int) := by omega
        have hds := dnF_step (goF m2.js y.ns) (show n < j by omega)
        refine S.skip ?_
        with_reducible repeat (first | refine S.then_n ?_ | refine S.then_x ?_ | refine S.then_r ?_ | refine S.inBlock_n ?_ | refine S.inBlock_r ?_ | refine S.inBlock_x rfl ?_ | refine S.noGoto_r ?_ | refine S.noGoto_n ?_ | refine S.noGoto_x ?_)
        refine hK21 _ _ ?_
        refine S.seq fun K23 hK23 => ?_
        refine S.block ?_
        refine S.seq fun K24 hK24 => ?_
        refine S.region rfl ?_
        refine S.op (S.q (q_move rfl) rfl rfl ?_)
        refine S.op (S.q (q_move rfl) rfl rfl ?_)
        refine S.op (S.q (q_move rfl) rfl rfl ?_)
        refine S.op (S.call Tryd.en50 (vs := [_, _, _]) ⟨rfl, rfl, rfl, trivial⟩ (rGoes_S c m2 n (own nv1 3 1 (nds (lst y.ns))) nv1 (lst y.ns) hnv (rdNds nv1 3 (lst y.ns)) (by omega) hnsN) rfl ?_)
        rintro v Θ ⟨rfl, rfl⟩
        rw [ofL_lst]
        first | with_reducible refine S.nilK ?_ | refine S.nil ?_
        refine hK24 _ _ ?_
        refine S.cond rfl (fun h5 => ?_) (fun h5 => ?_)
        · have hd2 : (n : Int) = toI (dnF (goF m2.js y.ns) j n) := by rw [hds, if_pos h5]; rfl
          refine S.region rfl ?_
          refine S.op (S.q (q_move rfl) rfl rfl ?_)
          refine S.op (S.q (q_assign rfl) rfl rfl ?_)
          first | with_reducible refine S.nilK ?_ | refine S.nil ?_
          with_reducible repeat (first | refine S.then_n ?_ | refine S.then_x ?_ | refine S.then_r ?_ | refine S.inBlock_n ?_ | refine S.inBlock_r ?_ | refine S.inBlock_x rfl ?_ | refine S.noGoto_r ?_ | refine S.noGoto_n ?_ | refine S.noGoto_x ?_)
          refine hK23 _ _ ?_
          refine S.region rfl ?_
          refine S.op (S.q (q_move rfl) rfl rfl ?_)
          refine S.op (S.q (q_sub rfl rfl (inI64 (by omega) (by omega))) rfl rfl ?_)
          refine S.op (S.q (q_assign rfl) rfl rfl ?_)
          first | with_reducible refine S.nilK ?_ | refine S.nil ?_
          with_reducible repeat (first | refine S.then_n ?_ | refine S.then_x ?_ | refine S.then_r ?_ | refine S.inBlock_n ?_ | refine S.inBlock_r ?_ | refine S.inBlock_x rfl ?_ | refine S.noGoto_r ?_ | refine S.noGoto_n ?_ | refine S.noGoto_x ?_)
          first | exact S.next n ⟨n, (n : Int) - 1, (n : Int), rfl, rfl, by omega, hd2, rfl, rfl⟩ (by omega) (by repeat (first | exact trivial | refine ⟨rfl, ?_⟩)) Sub.ent | exact S.next n ⟨n, (n : Int) - 1, tv, rfl, rfl, by omega, hd2, rfl, rfl⟩ (by omega) (by repeat (first | exact trivial | refine ⟨rfl, ?_⟩)) Sub.ent
        · have hd2 : tv = toI (dnF (goF m2.js y.ns) j n) := by rw [hds, if_neg (by rw [show goF m2.js y.ns n = false from h5]; decide)]; exact htv
          refine S.skip ?_
          with_reducible repeat (first | refine S.then_n ?_ | refine S.then_x ?_ | refine S.then_r ?_ | refine S.inBlock_n ?_ | refine S.inBlock_r ?_ | refine S.inBlock_x rfl ?_ | refine S.noGoto_r ?_ | refine S.noGoto_n ?_ | refine S.noGoto_x ?_)
          with_reducible repeat (first | refine S.then_n ?_ | refine S.then_x ?_ | refine S.then_r ?_ | refine S.inBlock_n ?_ | refine S.inBlock_r ?_ | refine S.inBlock_x rfl ?_ | refine S.noGoto_r ?_ | refine S.noGoto_n ?_ | refine S.noGoto_x ?_)
          refine hK23 _ _ ?_
          refine S.region rfl ?_
          refine S.op (S.q (q_move rfl) rfl rfl ?_)
          refine S.op (S.q (q_sub rfl rfl (inI64 (by omega) (by omega))) rfl rfl ?_)
          refine S.op (S.q (q_assign rfl) rfl rfl ?_)
          first | with_reducible refine S.nilK ?_ | refine S.nil ?_
          with_reducible repeat (first | refine S.then_n ?_ | refine S.then_x ?_ | refine S.then_r ?_ | refine S.inBlock_n ?_ | refine S.inBlock_r ?_ | refine S.inBlock_x rfl ?_ | refine S.noGoto_r ?_ | refine S.noGoto_n ?_ | refine S.noGoto_x ?_)
          first | exact S.next n ⟨n, (n : Int) - 1, (n : Int), rfl, rfl, by omega, hd2, rfl, rfl⟩ (by omega) (by repeat (first | exact trivial | refine ⟨rfl, ?_⟩)) Sub.ent | exact S.next n ⟨n, (n : Int) - 1, tv, rfl, rfl, by omega, hd2, rfl, rfl⟩ (by omega) (by repeat (first | exact trivial | refine ⟨rfl, ?_⟩)) Sub.ent
      · have hn0 : n = 0 := by omega
        have hfd : dnF (goF m2.js y.ns) j n = (List.range j).find? (goF m2.js y.ns) := by rw [hn0, dnF, List.drop_zero]
        rw [hfd] at htv
        refine S.exit ?_
        with_reducible repeat (first | refine S.then_n ?_ | refine S.then_x ?_ | refine S.then_r ?_ | refine S.inBlock_n ?_ | refine S.inBlock_r ?_ | refine S.inBlock_x rfl ?_ | refine S.noGoto_r ?_ | refine S.noGoto_n ?_ | refine S.noGoto_x ?_)
        with_reducible refine S.inBlock_s ?_
        with_reducible repeat (first | refine S.then_n ?_ | refine S.then_x ?_ | refine S.then_r ?_ | refine S.inBlock_n ?_ | refine S.inBlock_r ?_ | refine S.inBlock_x rfl ?_ | refine S.noGoto_r ?_ | refine S.noGoto_n ?_ | refine S.noGoto_x ?_)
        refine hK19 _ _ ?_
        refine S.seq fun K25 hK25 => ?_
        refine S.region rfl ?_
        refine S.op (S.q (q_move rfl) rfl rfl ?_)
        refine S.op (S.q (q_ge rfl rfl) rfl rfl ?_)
        first | with_reducible refine S.nilK ?_ | refine S.nil ?_
        refine hK25 _ _ ?_
        refine S.condD rfl (fun h6 => ?_) (fun h6 => ?_)
        · obtain ⟨i, hi⟩ : ∃ i, (List.range j).find? (goF m2.js y.ns) = some i := by
            cases h : (List.range j).find? (goF m2.js y.ns) with
            | some i => exact ⟨i, rfl⟩
            | none => rw [h] at htv; have htv : tv = -1 := htv; omega
          rw [hi] at htv hstep
          have htv : tv = (i : Int) := htv
          have hij : i < j := List.mem_range.1 (List.mem_of_find?_eq_some hi)
          have hgo1 : goF m2.js y.ns i = true := List.find?_some hi
          have hgo : tk m2.js i &&& y.ns = 0#16 := of_decide_eq_true hgo1
          subst htv
          refine S.seq fun K26 hK26 => ?_
          refine S.region rfl ?_
          refine S.op (S.q (q_move rfl) rfl rfl ?_)
          refine S.op (S.q (q_move rfl) rfl rfl ?_)
          refine S.op (S.q (q_move rfl) rfl rfl ?_)
          refine S.op (S.call Tryd.en51 (vs := [_, _, _]) ⟨rfl, rfl, rfl, trivial⟩ (rMove_S c m2 y i hy (by omega) (by omega) hgo) rfl ?_)
          rintro v Θ ⟨rfl, rfl⟩
          rw [hyj]
          refine S.op (S.alloc Tryd.z113 rfl ?_)
          intro b14
          refine S.op (S.storeS (cs' := [_, _, _]) Tryd.ag113 rfl rfl rfl rfl rfl rfl ?_)
          first | with_reducible refine S.nilK ?_ | refine S.nil ?_
          refine hK26 _ _ ?_
          refine S.region rfl ?_
          refine S.op (S.q (q_move rfl) rfl rfl ?_)
          refine S.op (S.q (q_loadS [_, _, _] Tryd.ag113 rfl rfl ⟨rfl, rfl, rfl, trivial⟩) rfl rfl ?_)
          refine S.op (S.buildSlice (pvs := [(_, _)]) [_, _, _] Tryd.underlying49 Tryd.inf113 rfl rfl ⟨⟨rfl, rfl⟩, trivial⟩ rfl rfl ?_)
          intro b61
          refine S.op (S.appendOw (s := s2) (1) (mvC (y.id, (j : Int), (i : Int))) Tryd.underlying49 Tryd.inf113 rfl rfl rfl (blk_slAt (b := b61) rfl (by unfold maxLen; omega)) (by first | rfl | exact allOne_bcells _) (⟨by omega, by omega⟩) rfl ?_)
          intro s4 hs4
          rw [flat_snoc mvC ys (y.id, (j : Int), (i : Int))]
          refine S.op (S.q (q_assign rfl) rfl rfl ?_)
          first | with_reducible refine S.nilK ?_ | refine S.nil ?_
          with_reducible repeat (first | refine S.then_n ?_ | refine S.then_x ?_ | refine S.then_r ?_ | refine S.inBlock_n ?_ | refine S.inBlock_r ?_ | refine S.inBlock_x rfl ?_ | refine S.noGoto_r ?_ | refine S.noGoto_n ?_ | refine S.noGoto_x ?_)
          refine hK15 _ _ ?_
          refine S.region rfl ?_
          refine S.op (S.q (q_add rfl rfl (inI64 (by omega) (by omega))) rfl rfl ?_)
          refine S.op (S.q (q_move rfl) rfl rfl ?_)
          first | with_reducible refine S.nilK ?_ | refine S.nil ?_
          with_reducible repeat (first | refine S.then_n ?_ | refine S.then_x ?_ | refine S.then_r ?_ | refine S.inBlock_n ?_ | refine S.inBlock_r ?_ | refine S.inBlock_x rfl ?_ | refine S.noGoto_r ?_ | refine S.noGoto_n ?_ | refine S.noGoto_x ?_)
          first | exact S.next (q2 - 1) ⟨p + 1, { m2 with js := reRow m2.js y.id i }, s4, ys ++ [(y.id, (j : Int), (i : Int))], by omega, by omega, hstep, by rw [List.length_append, List.length_singleton]; omega, rfl, rfl⟩ (by omega) (by repeat (first | exact trivial | refine ⟨rfl, ?_⟩)) Sub.ent | exact S.next (q2 - 1) ⟨p + 1, m2, s2, ys, by omega, by omega, hstep, hs2, rfl, rfl⟩ (by omega) (by repeat (first | exact trivial | refine ⟨rfl, ?_⟩)) Sub.ent
        · have hi : (List.range j).find? (goF m2.js y.ns) = none := by
            cases h : (List.range j).find? (goF m2.js y.ns) with
            | none => rfl
            | some i => rw [h] at htv; have htv : tv = (i : Int) := htv; omega
          rw [hi] at hstep
          refine S.skip ?_
          with_reducible repeat (first | refine S.then_n ?_ | refine S.then_x ?_ | refine S.then_r ?_ | refine S.inBlock_n ?_ | refine S.inBlock_r ?_ | refine S.inBlock_x rfl ?_ | refine S.noGoto_r ?_ | refine S.noGoto_n ?_ | refine S.noGoto_x ?_)
          with_reducible repeat (first | refine S.then_n ?_ | refine S.then_x ?_ | refine S.then_r ?_ | refine S.inBlock_n ?_ | refine S.inBlock_r ?_ | refine S.inBlock_x rfl ?_ | refine S.noGoto_r ?_ | refine S.noGoto_n ?_ | refine S.noGoto_x ?_)
          refine hK15 _ _ ?_
          refine S.region rfl ?_
          refine S.op (S.q (q_add rfl rfl (inI64 (by omega) (by omega))) rfl rfl ?_)
          refine S.op (S.q (q_move rfl) rfl rfl ?_)
          first | with_reducible refine S.nilK ?_ | refine S.nil ?_
          with_reducible repeat (first | refine S.then_n ?_ | refine S.then_x ?_ | refine S.then_r ?_ | refine S.inBlock_n ?_ | refine S.inBlock_r ?_ | refine S.inBlock_x rfl ?_ | refine S.noGoto_r ?_ | refine S.noGoto_n ?_ | refine S.noGoto_x ?_)
          first | exact S.next (q2 - 1) ⟨p + 1, { m2 with js := reRow m2.js y.id i }, s4, ys ++ [(y.id, (j : Int), (i : Int))], by omega, by omega, hstep, by rw [List.length_append, List.length_singleton]; omega, rfl, rfl⟩ (by omega) (by repeat (first | exact trivial | refine ⟨rfl, ?_⟩)) Sub.ent | exact S.next (q2 - 1) ⟨p + 1, m2, s2, ys, by omega, by omega, hstep, hs2, rfl, rfl⟩ (by omega) (by repeat (first | exact trivial | refine ⟨rfl, ?_⟩)) Sub.ent
    · have hnx : repAll m (j + 1) = (m2, ys) := by rw [repAll, hra1, ← hrr, show p = (rowIds m1 j).length by omega]
      refine S.exit ?_
      with_reducible repeat (first | refine S.then_n ?_ | refine S.then_x ?_ | refine S.then_r ?_ | refine S.inBlock_n ?_ | refine S.inBlock_r ?_ | refine S.inBlock_x rfl ?_ | refine S.noGoto_r ?_ | refine S.noGoto_n ?_ | refine S.noGoto_x ?_)
      with_reducible refine S.inBlock_s ?_
      with_reducible repeat (first | refine S.then_n ?_ | refine S.then_x ?_ | refine S.then_r ?_ | refine S.inBlock_n ?_ | refine S.inBlock_r ?_ | refine S.inBlock_x rfl ?_ | refine S.noGoto_r ?_ | refine S.noGoto_n ?_ | refine S.noGoto_x ?_)
      with_reducible repeat (first | refine S.then_n ?_ | refine S.then_x ?_ | refine S.then_r ?_ | refine S.inBlock_n ?_ | refine S.inBlock_r ?_ | refine S.inBlock_x rfl ?_ | refine S.noGoto_r ?_ | refine S.noGoto_n ?_ | refine S.noGoto_x ?_)
      refine hK10 _ _ ?_
      refine S.region rfl ?_
      refine S.op (S.q (q_add rfl rfl (inI64 (by omega) (by omega))) rfl rfl ?_)
      refine S.op (S.q (q_move rfl) rfl rfl ?_)
      first | with_reducible refine S.nilK ?_ | refine S.nil ?_
      with_reducible repeat (first | refine S.then_n ?_ | refine S.then_x ?_ | refine S.then_r ?_ | refine S.inBlock_n ?_ | refine S.inBlock_r ?_ | refine S.inBlock_x rfl ?_ | refine S.noGoto_r ?_ | refine S.noGoto_n ?_ | refine S.noGoto_x ?_)
      exact S.next (q - 1) (⟨j + 1, m2, s2, ys, by omega, by omega, hnx, hm2, hR2.trans hR1', hs2, by omega, rfl, rfl⟩) (by omega) (by repeat (first | exact trivial | refine ⟨rfl, ?_⟩)) Sub.ent
  · have hfin : repackR m = (m1, xs) := by
      rw [repackR, ← repAll_up, show m.R - 1 + 1 = j by omega]
      exact hra1
    refine S.exit ?_
    with_reducible repeat (first | refine S.then_n ?_ | refine S.then_x ?_ | refine S.then_r ?_ | refine S.inBlock_n ?_ | refine S.inBlock_r ?_ | refine S.inBlock_x rfl ?_ | refine S.noGoto_r ?_ | refine S.noGoto_n ?_ | refine S.noGoto_x ?_)
    with_reducible refine S.inBlock_s ?_
    with_reducible repeat (first | refine S.then_n ?_ | refine S.then_x ?_ | refine S.then_r ?_ | refine S.inBlock_n ?_ | refine S.inBlock_r ?_ | refine S.inBlock_x rfl ?_ | refine S.noGoto_r ?_ | refine S.noGoto_n ?_ | refine S.noGoto_x ?_)
    refine hK6 _ _ ?_
    refine S.seq fun K27 hK27 => ?_
    refine S.region rfl ?_
    refine S.op (S.q (q_move rfl) rfl rfl ?_)
    refine S.op (S.q (q_move rfl) rfl rfl ?_)
    refine S.op (S.q (q_assign rfl) rfl rfl ?_)
    refine S.op (S.q (q_assign rfl) rfl rfl ?_)
    first | with_reducible refine S.nilK ?_ | refine S.nil ?_
    refine hK27 _ _ ?_
    refine S.ret ?_
    with_reducible repeat (first | refine S.then_n ?_ | refine S.then_x ?_ | refine S.then_r ?_ | refine S.inBlock_n ?_ | refine S.inBlock_r ?_ | refine S.inBlock_x rfl ?_ | refine S.noGoto_r ?_ | refine S.noGoto_n ?_ | refine S.noGoto_x ?_)
    exact S.fin (rs := [_, _]) (vs := [_, _]) Tryd.results18 (⟨rfl, rfl, trivial⟩)  (⟨c, sv, rfl, by rw [hfin]; exact hsv, by rw [hfin]⟩) Sub.ent
end Go.Proofs.YtegjmmocnffpiaaDoor
/- Both sides of the shuffle are the same; nothing comes of nil. -/
namespace Go.Proofs.YtegjmmocnffpiaaDoor
open Go.RowKit
set_option maxRecDepth 20000
section
variable {W : World}
theorem CopyNil_S : Spec Tryd.prog 25 [.pointer none] [] fun Γ v Θ => v = .pointer none ∧ Θ = Γ := by
  refine Spec.of_body Tryd.func25 rfl Tryd.ntmps25 rfl ?_
  intro w0 Γ
  show S _ w0 [(0, .pointer none)] Γ _
  refine S.seq fun K1 hK1 => ?_
  refine S.region rfl ?_
  refine S.op (S.q (q_assign rfl) rfl rfl ?_)
  first | with_reducible refine S.nilK ?_ | refine S.nil ?_
  refine hK1 _ _ ?_
  refine S.seq fun K2 hK2 => ?_
  refine S.seq fun K3 hK3 => ?_
  refine S.region rfl ?_
  refine S.op (S.q (q_move rfl) rfl rfl ?_)
  refine S.op (S.q (q_eqN Tryd.underlying25 rfl rfl) rfl rfl ?_)
  first | with_reducible refine S.nilK ?_ | refine S.nil ?_
  refine hK3 _ _ ?_
  refine S.condT rfl ?_
  refine S.seq fun K4 hK4 => ?_
  refine S.region rfl ?_
  refine S.op (S.q (q_assign rfl) rfl rfl ?_)
  first | with_reducible refine S.nilK ?_ | refine S.nil ?_
  refine hK4 _ _ ?_
  refine S.ret ?_
  with_reducible repeat (first | refine S.then_n ?_ | refine S.then_x ?_ | refine S.then_r ?_ | refine S.inBlock_n ?_ | refine S.inBlock_r ?_ | refine S.inBlock_x rfl ?_ | refine S.noGoto_r ?_ | refine S.noGoto_n ?_ | refine S.noGoto_x ?_)
  exact S.fin (rs := [_]) (vs := [_]) Tryd.results25 (⟨rfl, trivial⟩)  (⟨rfl, rfl⟩) Sub.ent
theorem SizeNil_S : Spec Tryd.prog 37 [.pointer none] [] fun Γ v Θ => v = .tuple #[.int .i64 0, .int .i64 0] ∧ Θ = Γ := by
  refine Spec.of_body Tryd.func37 rfl Tryd.ntmps37 rfl ?_
  intro w0 Γ
  show S _ w0 [(0, .pointer none)] Γ _
  refine S.seq fun K1 hK1 => ?_
  refine S.region rfl ?_
  refine S.op (S.q (q_assign rfl) rfl rfl ?_)
  refine S.op (S.q (q_assign rfl) rfl rfl ?_)
  first | with_reducible refine S.nilK ?_ | refine S.nil ?_
  refine hK1 _ _ ?_
  refine S.seq fun K2 hK2 => ?_
  refine S.seq fun K3 hK3 => ?_
  refine S.region rfl ?_
  refine S.op (S.q (q_move rfl) rfl rfl ?_)
  refine S.op (S.q (q_eqN Tryd.underlying25 rfl rfl) rfl rfl ?_)
  first | with_reducible refine S.nilK ?_ | refine S.nil ?_
  refine hK3 _ _ ?_
  refine S.condT rfl ?_
  refine S.seq fun K4 hK4 => ?_
  refine S.region rfl ?_
  refine S.op (S.q (q_assign rfl) rfl rfl ?_)
  refine S.op (S.q (q_assign rfl) rfl rfl ?_)
  first | with_reducible refine S.nilK ?_ | refine S.nil ?_
  refine hK4 _ _ ?_
  refine S.ret ?_
  with_reducible repeat (first | refine S.then_n ?_ | refine S.then_x ?_ | refine S.then_r ?_ | refine S.inBlock_n ?_ | refine S.inBlock_r ?_ | refine S.inBlock_x rfl ?_ | refine S.noGoto_r ?_ | refine S.noGoto_n ?_ | refine S.noGoto_x ?_)
  exact S.fin (rs := [_, _]) (vs := [_, _]) Tryd.results37 (⟨rfl, rfl, trivial⟩)  (⟨rfl, rfl⟩) Sub.ent
theorem countNil_S : Spec Tryd.prog 48 [.pointer none] [] fun Γ v Θ => v = .int .i64 0 ∧ Θ = Γ := by
  refine Spec.of_body Tryd.func48 rfl Tryd.ntmps48 rfl ?_
  intro w0 Γ
  show S _ w0 [(0, .pointer none)] Γ _
  refine S.seq fun K1 hK1 => ?_
  refine S.region rfl ?_
  refine S.op (S.q (q_assign rfl) rfl rfl ?_)
  first | with_reducible refine S.nilK ?_ | refine S.nil ?_
  refine hK1 _ _ ?_
  refine S.seq fun K2 hK2 => ?_
  refine S.region rfl ?_
  refine S.op (S.q (q_move rfl) rfl rfl ?_)
  refine S.op (S.call Tryd.en37 (vs := [_]) ⟨rfl, trivial⟩ (SizeNil_S) rfl ?_)
  rintro v Θ ⟨rfl, hG⟩
  rw [hG]
  refine S.op (S.q (q_move rfl) rfl rfl ?_)
  refine S.op (S.q (q_extract rfl rfl) rfl rfl ?_)
  refine S.op (S.q (q_extract rfl rfl) rfl rfl ?_)
  refine S.op (S.q (q_assign rfl) rfl rfl ?_)
  refine S.op (S.q (q_assign rfl) rfl rfl ?_)
  first | with_reducible refine S.nilK ?_ | refine S.nil ?_
  refine hK2 _ _ ?_
  refine S.seq fun K3 hK3 => ?_
  refine S.region rfl ?_
  refine S.op (S.q (q_move rfl) rfl rfl ?_)
  refine S.op (S.q (q_assign rfl) rfl rfl ?_)
  first | with_reducible refine S.nilK ?_ | refine S.nil ?_
  refine hK3 _ _ ?_
  refine S.ret ?_
  with_reducible repeat (first | refine S.then_n ?_ | refine S.then_x ?_ | refine S.then_r ?_ | refine S.inBlock_n ?_ | refine S.inBlock_r ?_ | refine S.inBlock_x rfl ?_ | refine S.noGoto_r ?_ | refine S.noGoto_n ?_ | refine S.noGoto_x ?_)
  exact S.fin (rs := [_]) (vs := [_]) Tryd.results48 (⟨rfl, trivial⟩)  (⟨rfl, rfl⟩) Sub.ent
theorem UnifyNil_S : Spec Tryd.prog 15 [.pointer none] [] fun Γ v Θ => v = .tuple #[.pointer none, SV.nil.v] ∧ Θ = Γ := by
  refine Spec.of_body Tryd.func15 rfl Tryd.ntmps15 rfl ?_
  intro w0 Γ
  show S _ w0 [(0, .pointer none)] Γ _
  refine S.seq fun K1 hK1 => ?_
  refine S.region rfl ?_
  refine S.op (S.q (q_assign rfl) rfl rfl ?_)
  refine S.op (S.q (q_assign rfl) rfl rfl ?_)
  first | with_reducible refine S.nilK ?_ | refine S.nil ?_
  refine hK1 _ _ ?_
  refine S.seq fun K2 hK2 => ?_
  refine S.region rfl ?_
  refine S.op (S.q (q_move rfl) rfl rfl ?_)
  refine S.op (S.call Tryd.en25 (vs := [_]) ⟨rfl, trivial⟩ (CopyNil_S) rfl ?_)
  rintro v Θ ⟨rfl, hG⟩
  rw [hG]
  refine S.op (S.q (q_assign rfl) rfl rfl ?_)
  first | with_reducible refine S.nilK ?_ | refine S.nil ?_
  refine hK2 _ _ ?_
  refine S.seq fun K3 hK3 => ?_
  refine S.region rfl ?_
  refine S.op (S.q (q_assign rfl) rfl rfl ?_)
  first | with_reducible refine S.nilK ?_ | refine S.nil ?_
  refine hK3 _ _ ?_
  refine S.seq fun K4 hK4 => ?_
  refine S.seq fun K5 hK5 => ?_
  refine S.region rfl ?_
  refine S.op (S.q (q_move rfl) rfl rfl ?_)
  refine S.op (S.call Tryd.en48 (vs := [_]) ⟨rfl, trivial⟩ (countNil_S) rfl ?_)
  rintro v Θ ⟨rfl, hG⟩
  rw [hG]
  refine S.op (S.q (q_move rfl) rfl rfl ?_)
  first | with_reducible refine S.nilK ?_ | refine S.nil ?_
  refine hK5 _ _ ?_
  refine S.block ?_
  refine S.loop (fun q ρ' Γ' => q = 0 ∧ ρ' = [(4, .pointer none), (5, SV.nil.v), (11, .int .i64 0), (12, .int .i64 0)] ∧ Γ' = Γ) (m := _) (ρ0 := _) (Γ0 := _) (⟨rfl, rfl, rfl⟩) (by repeat (first | exact trivial | refine ⟨rfl, ?_⟩)) Sub.ent ?_
  rintro q ρ' Γ' ⟨rfl, rfl, hG2⟩
  rw [hG2]
  refine S.seq fun K6 hK6 => ?_
  refine S.region rfl ?_
  refine S.op (S.q (q_lt rfl rfl) rfl rfl ?_)
  first | with_reducible refine S.nilK ?_ | refine S.nil ?_
  refine hK6 _ _ ?_
  refine S.seq fun K7 hK7 => ?_
  refine S.condF rfl ?_
  refine S.exit ?_
  with_reducible repeat (first | refine S.then_n ?_ | refine S.then_x ?_ | refine S.then_r ?_ | refine S.inBlock_n ?_ | refine S.inBlock_r ?_ | refine S.inBlock_x rfl ?_ | refine S.noGoto_r ?_ | refine S.noGoto_n ?_ | refine S.noGoto_x ?_)
  with_reducible refine S.inBlock_s ?_
  with_reducible repeat (first | refine S.then_n ?_ | refine S.then_x ?_ | refine S.then_r ?_ | refine S.inBlock_n ?_ | refine S.inBlock_r ?_ | refine S.inBlock_x rfl ?_ | refine S.noGoto_r ?_ | refine S.noGoto_n ?_ | refine S.noGoto_x ?_)
  refine hK4 _ _ ?_
  refine S.seq fun K8 hK8 => ?_
  refine S.region rfl ?_
  refine S.op (S.q (q_move rfl) rfl rfl ?_)
  refine S.op (S.q (q_move rfl) rfl rfl ?_)
  refine S.op (S.q (q_assign rfl) rfl rfl ?_)
  refine S.op (S.q (q_assign rfl) rfl rfl ?_)
  first | with_reducible refine S.nilK ?_ | refine S.nil ?_
  refine hK8 _ _ ?_
  refine S.ret ?_
  with_reducible repeat (first | refine S.then_n ?_ | refine S.then_x ?_ | refine S.then_r ?_ | refine S.inBlock_n ?_ | refine S.inBlock_r ?_ | refine S.inBlock_x rfl ?_ | refine S.noGoto_r ?_ | refine S.noGoto_n ?_ | refine S.noGoto_x ?_)
  exact S.fin (rs := [_, _]) (vs := [_, _]) Tryd.results15 (⟨rfl, rfl, trivial⟩)  (⟨rfl, rfl⟩) Sub.ent
theorem UsedNil_S : Spec Tryd.prog 21 [.pointer none] [] fun Γ v Θ => v = .int .i64 0 ∧ Θ = Γ := by
  refine Spec.of_body Tryd.func21 rfl Tryd.ntmps21 rfl ?_
  intro w0 Γ
  show S _ w0 [(0, .pointer none)] Γ _
  refine S.seq fun K1 hK1 => ?_
  refine S.region rfl ?_
  refine S.op (S.q (q_assign rfl) rfl rfl ?_)
  first | with_reducible refine S.nilK ?_ | refine S.nil ?_
  refine hK1 _ _ ?_
  refine S.seq fun K2 hK2 => ?_
  refine S.region rfl ?_
  refine S.op (S.q (q_assign rfl) rfl rfl ?_)
  first | with_reducible refine S.nilK ?_ | refine S.nil ?_
  refine hK2 _ _ ?_
  refine S.seq fun K3 hK3 => ?_
  refine S.seq fun K4 hK4 => ?_
  refine S.region rfl ?_
  refine S.op (S.q (q_move rfl) rfl rfl ?_)
  refine S.op (S.call Tryd.en48 (vs := [_]) ⟨rfl, trivial⟩ (countNil_S) rfl ?_)
  rintro v Θ ⟨rfl, hG⟩
  rw [hG]
  refine S.op (S.q (q_move rfl) rfl rfl ?_)
  first | with_reducible refine S.nilK ?_ | refine S.nil ?_
  refine hK4 _ _ ?_
  refine S.block ?_
  refine S.loop (fun q ρ' Γ' => q = 0 ∧ ρ' = [(0, .pointer none), (3, .int .i64 0), (6, .int .i64 0), (7, .int .i64 0)] ∧ Γ' = Γ) (m := _) (ρ0 := _) (Γ0 := _) (⟨rfl, rfl, rfl⟩) (by repeat (first | exact trivial | refine ⟨rfl, ?_⟩)) Sub.ent ?_
  rintro q ρ' Γ' ⟨rfl, rfl, hG2⟩
  rw [hG2]
  refine S.seq fun K5 hK5 => ?_
  refine S.region rfl ?_
  refine S.op (S.q (q_lt rfl rfl) rfl rfl ?_)
  first | with_reducible refine S.nilK ?_ | refine S.nil ?_
  refine hK5 _ _ ?_
  refine S.seq fun K6 hK6 => ?_
  refine S.condF rfl ?_
  refine S.exit ?_
  with_reducible repeat (first | refine S.then_n ?_ | refine S.then_x ?_ | refine S.then_r ?_ | refine S.inBlock_n ?_ | refine S.inBlock_r ?_ | refine S.inBlock_x rfl ?_ | refine S.noGoto_r ?_ | refine S.noGoto_n ?_ | refine S.noGoto_x ?_)
  with_reducible refine S.inBlock_s ?_
  with_reducible repeat (first | refine S.then_n ?_ | refine S.then_x ?_ | refine S.then_r ?_ | refine S.inBlock_n ?_ | refine S.inBlock_r ?_ | refine S.inBlock_x rfl ?_ | refine S.noGoto_r ?_ | refine S.noGoto_n ?_ | refine S.noGoto_x ?_)
  refine hK3 _ _ ?_
  refine S.seq fun K7 hK7 => ?_
  refine S.region rfl ?_
  refine S.op (S.q (q_move rfl) rfl rfl ?_)
  refine S.op (S.q (q_assign rfl) rfl rfl ?_)
  first | with_reducible refine S.nilK ?_ | refine S.nil ?_
  refine hK7 _ _ ?_
  refine S.ret ?_
  with_reducible repeat (first | refine S.then_n ?_ | refine S.then_x ?_ | refine S.then_r ?_ | refine S.inBlock_n ?_ | refine S.inBlock_r ?_ | refine S.inBlock_x rfl ?_ | refine S.noGoto_r ?_ | refine S.noGoto_n ?_ | refine S.noGoto_x ?_)
  exact S.fin (rs := [_]) (vs := [_]) Tryd.results21 (⟨rfl, trivial⟩)  (⟨rfl, rfl⟩) Sub.ent
theorem same_S (b c : Nat) (m : Mx) (s t : SV) (xs : List Mv) (hs : s.n = xs.length) (ht : t.n = xs.length) : Spec Tryd.prog 20 [.pointer (some ⟨b, 0, none⟩), s.v, .pointer (some ⟨c, 0, none⟩), t.v] [MI b m, RI c m, own s 107 3 (xs.flatMap mvC), own t 113 3 (xs.flatMap mvC)] fun Γ v Θ => v = .bool true ∧ Θ = MI b m :: RI c m :: Γ := by
  refine Spec.of_body Tryd.func20 rfl Tryd.ntmps20 rfl ?_
  intro w0 Γ
  show S _ w0 [(0, .pointer (some ⟨b, 0, none⟩)), (1, s.v), (2, .pointer (some ⟨c, 0, none⟩)), (3, t.v)] (MI b m :: RI c m :: own s 107 3 (xs.flatMap mvC) :: own t 113 3 (xs.flatMap mvC) :: Γ) _
  have hmx : maxLen ≤ 9223372036854775807 := by unfold maxLen; omega
  refine S.seq fun K1 hK1 => ?_
  refine S.region rfl ?_
  refine S.op (S.q (q_assign rfl) rfl rfl ?_)
  first | with_reducible refine S.nilK ?_ | refine S.nil ?_
  refine hK1 _ _ ?_
  refine S.seq fun K2 hK2 => ?_
  refine S.seq fun K3 hK3 => ?_
  refine S.region rfl ?_
  refine S.op (S.q (q_move rfl) rfl rfl ?_)
  refine S.op (S.q (q_len Tryd.underlying46 rfl) rfl rfl ?_)
  refine S.op (S.q (q_move rfl) rfl rfl ?_)
  refine S.op (S.q (q_len Tryd.underlying49 rfl) rfl rfl ?_)
  refine S.op (S.q (q_ne rfl rfl) rfl rfl ?_)
  first | with_reducible refine S.nilK ?_ | refine S.nil ?_
  refine hK3 _ _ ?_
  refine S.condD rfl (fun h1 => ?_) (fun h1 => ?_)
  · exact absurd (show ((s.n : Nat) : Int) = t.n by omega) h1
  · refine S.skip ?_
    with_reducible repeat (first | refine S.then_n ?_ | refine S.then_x ?_ | refine S.then_r ?_ | refine S.inBlock_n ?_ | refine S.inBlock_r ?_ | refine S.inBlock_x rfl ?_ | refine S.noGoto_r ?_ | refine S.noGoto_n ?_ | refine S.noGoto_x ?_)
    refine hK2 _ _ ?_
    refine S.seq fun K4 hK4 => ?_
    refine S.seq fun K5 hK5 => ?_
    refine S.region rfl ?_
    refine S.op (S.q (q_move rfl) rfl rfl ?_)
    refine S.op (S.q (q_len Tryd.underlying46 rfl) rfl rfl ?_)
    refine S.op (S.q (q_move rfl) rfl rfl ?_)
    first | with_reducible refine S.nilK ?_ | refine S.nil ?_
    refine hK5 _ _ ?_
    refine S.block ?_
    refine S.loop (fun q ρ' Γ' => ∃ i : Nat, q = xs.length - i ∧ i ≤ xs.length ∧ ρ' = [(0, .pointer (some ⟨b, 0, none⟩)), (1, s.v), (2, .pointer (some ⟨c, 0, none⟩)), (3, t.v), (21, .int .i64 (s.n : Int)), (22, .int .i64 (i : Int))] ∧ Γ' = own s 107 3 (xs.flatMap mvC) :: own t 113 3 (xs.flatMap mvC) :: MI b m :: RI c m :: Γ) (m := _) (ρ0 := _) (Γ0 := _) (⟨0, rfl, by omega, rfl, rfl⟩) (by repeat (first | exact trivial | refine ⟨rfl, ?_⟩)) Sub.ent ?_
    rintro q ρ' Γ' ⟨i, hq, hi, rfl, rfl⟩
    refine S.seq fun K6 hK6 => ?_
    refine S.region rfl ?_
    refine S.op (S.q (q_lt rfl rfl) rfl rfl ?_)
    first | with_reducible refine S.nilK ?_ | refine S.nil ?_
    refine hK6 _ _ ?_
    refine S.seq fun K7 hK7 => ?_
    refine S.condD rfl (fun h2 => ?_) (fun h2 => ?_)
    · refine S.ownSome s (by omega) fun sb so hsa _ _ hcap => ?_
      refine S.ownSome t (by omega) fun tb to_ hta _ _ _ => ?_
      obtain ⟨x, hx⟩ := getE (show i < xs.length by omega)
      refine S.skip ?_
      with_reducible repeat (first | refine S.then_n ?_ | refine S.then_x ?_ | refine S.then_r ?_ | refine S.inBlock_n ?_ | refine S.inBlock_r ?_ | refine S.inBlock_x rfl ?_ | refine S.noGoto_r ?_ | refine S.noGoto_n ?_ | refine S.noGoto_x ?_)
      refine hK7 _ _ ?_
      refine S.seq fun K8 hK8 => ?_
      refine S.block ?_
      refine S.seq fun K9 hK9 => ?_
      refine S.region rfl ?_
      refine S.op (S.q (q_move rfl) rfl rfl ?_)
      refine S.op (S.q (q_assign rfl) rfl rfl ?_)
      first | with_reducible refine S.nilK ?_ | refine S.nil ?_
      refine hK9 _ _ ?_
      refine S.seq fun K10 hK10 => ?_
      refine S.draw ([own s 107 3 (xs.flatMap mvC), own t 113 3 (xs.flatMap mvC)]) [] Tryd.mixed ?_
      refine S.dr_take 0 [] rfl (by kernel_rfl) rfl rfl rfl (q_move rfl) Sub.ent ?_
      refine S.dr_take 1 [] rfl (by kernel_rfl) rfl rfl rfl (q_move rfl) Sub.ent ?_
      refine S.dr_take 2 [] rfl (by kernel_rfl) rfl rfl rfl (q_indexO (i) Tryd.el46 rfl hsa rfl rfl (by omega)) Sub.ent ?_
      refine S.dr_take 3 [] rfl (by kernel_rfl) rfl rfl rfl (q_loadOwS (s) (i * 3) [_, _, _] Tryd.ag107 rfl hsa (by first | rfl | exact Nat.add_assoc _ _ _ | omega) rfl (flat_seg (enc := mvC) (sz := 3) (fun _ => rfl) hx)) Sub.ent ?_
      refine S.dr_take 4 [] rfl (by kernel_rfl) rfl rfl rfl (q_move rfl) Sub.ent ?_
      refine S.dr_take 5 [] rfl (by kernel_rfl) rfl rfl rfl (q_move rfl) Sub.ent ?_
      refine S.dr_take 6 [] rfl (by kernel_rfl) rfl rfl rfl (q_indexO (i) Tryd.el49 rfl hta rfl rfl (by omega)) Sub.ent ?_
      refine S.dr_take 7 [] rfl (by kernel_rfl) rfl rfl rfl (q_loadOwS (t) (i * 3) [_, _, _] Tryd.ag113 rfl hta (by first | rfl | exact Nat.add_assoc _ _ _ | omega) rfl (flat_seg (enc := mvC) (sz := 3) (fun _ => rfl) hx)) Sub.ent ?_
      refine S.dr_take 8 [] rfl (by kernel_rfl) rfl rfl rfl (q_neMv x x (.inr rfl) rfl rfl) Sub.ent ?_
      first | with_reducible refine S.dr_doneK (by kernel_rfl) ?_ | refine S.dr_done (by kernel_rfl) ?_
      refine hK10 _ _ ?_
      refine S.cond rfl (fun h3 => ?_) (fun h3 => ?_)
      · exact absurd h3 (by simp)
      · refine S.skip ?_
        with_reducible repeat (first | refine S.then_n ?_ | refine S.then_x ?_ | refine S.then_r ?_ | refine S.inBlock_n ?_ | refine S.inBlock_r ?_ | refine S.inBlock_x rfl ?_ | refine S.noGoto_r ?_ | refine S.noGoto_n ?_ | refine S.noGoto_x ?_)
        with_reducible repeat (first | refine S.then_n ?_ | refine S.then_x ?_ | refine S.then_r ?_ | refine S.inBlock_n ?_ | refine S.inBlock_r ?_ | refine S.inBlock_x rfl ?_ | refine S.noGoto_r ?_ | refine S.noGoto_n ?_ | refine S.noGoto_x ?_)
        refine hK8 _ _ ?_
        refine S.region rfl ?_
        refine S.op (S.q (q_add rfl rfl (inI64 (by omega) (by omega))) rfl rfl ?_)
        refine S.op (S.q (q_move rfl) rfl rfl ?_)
        first | with_reducible refine S.nilK ?_ | refine S.nil ?_
        with_reducible repeat (first | refine S.then_n ?_ | refine S.then_x ?_ | refine S.then_r ?_ | refine S.inBlock_n ?_ | refine S.inBlock_r ?_ | refine S.inBlock_x rfl ?_ | refine S.noGoto_r ?_ | refine S.noGoto_n ?_ | refine S.noGoto_x ?_)
        exact S.next (q - 1) (⟨i + 1, by omega, by omega, rfl, rfl⟩) (by omega) (by repeat (first | exact trivial | refine ⟨rfl, ?_⟩)) Sub.ent
    · skip
      refine S.exit ?_
      with_reducible repeat (first | refine S.then_n ?_ | refine S.then_x ?_ | refine S.then_r ?_ | refine S.inBlock_n ?_ | refine S.inBlock_r ?_ | refine S.inBlock_x rfl ?_ | refine S.noGoto_r ?_ | refine S.noGoto_n ?_ | refine S.noGoto_x ?_)
      with_reducible refine S.inBlock_s ?_
      with_reducible repeat (first | refine S.then_n ?_ | refine S.then_x ?_ | refine S.then_r ?_ | refine S.inBlock_n ?_ | refine S.inBlock_r ?_ | refine S.inBlock_x rfl ?_ | refine S.noGoto_r ?_ | refine S.noGoto_n ?_ | refine S.noGoto_x ?_)
      refine hK4 _ _ ?_
      refine S.seq fun K11 hK11 => ?_
      refine S.seq fun K12 hK12 => ?_
      refine S.region rfl ?_
      refine S.riOpen c m fun cs us rs hri => ?_
      have hm := hri.ok
      have hR8 := hm.R8
      have hN16 := hm.N16
      have hN1 := hm.N1
      have hR1 := hm.R1
      have hcn := hri.cn
      have hun := hri.un
      refine S.ownSome cs (by omega) fun cb co hca _ _ _ => ?_
      refine S.ownSome us (by omega) fun ub uo hua _ _ _ => ?_
      refine S.op (S.q (q_move rfl) rfl rfl ?_)
      refine S.op (S.q (q_nilCheck rfl) rfl rfl ?_)
      refine S.op (S.q (q_field Tryd.fo55_0 rfl) rfl rfl ?_)
      refine S.op (S.q (q_load Tryd.at52 rfl rfl) rfl rfl ?_)
      refine S.op (S.q (q_len Tryd.underlying52 rfl) rfl rfl ?_)
      refine S.op (S.q (q_move rfl) rfl rfl ?_)
      first | with_reducible refine S.nilK ?_ | refine S.nil ?_
      refine hK12 _ _ ?_
      refine S.block ?_
      refine S.loop (fun q ρ' Γ' => ∃ i : Nat, q = m.R - i ∧ i ≤ m.R ∧ ρ' = [(0, .pointer (some ⟨b, 0, none⟩)), (2, .pointer (some ⟨c, 0, none⟩)), (39, .int .i64 (cs.n : Int)), (40, .int .i64 (i : Int))] ∧ Γ' = MI b m :: riX c m cs us rs Γ) (m := _) (ρ0 := _) (Γ0 := _) (⟨0, rfl, by omega, rfl, rfl⟩) (by repeat (first | exact trivial | refine ⟨rfl, ?_⟩)) Sub.ent ?_
      rintro q ρ' Γ' ⟨i, hq, hi, rfl, rfl⟩
      refine S.seq fun K13 hK13 => ?_
      refine S.region rfl ?_
      refine S.op (S.q (q_lt rfl rfl) rfl rfl ?_)
      first | with_reducible refine S.nilK ?_ | refine S.nil ?_
      refine hK13 _ _ ?_
      refine S.seq fun K14 hK14 => ?_
      refine S.condD rfl (fun h4 => ?_) (fun h4 => ?_)
      · obtain ⟨p, hp, hpd, hpn⟩ := hri.at_ (show i < m.R by omega)
        have hRp : RdS (alls rs rrB) p.1 p.1.n 1 (idsV p.2) := RdS.alls hp RdS.own
        refine S.rSome hRp (by omega) fun pb po hpa => ?_
        refine S.skip ?_
        with_reducible repeat (first | refine S.then_n ?_ | refine S.then_x ?_ | refine S.then_r ?_ | refine S.inBlock_n ?_ | refine S.inBlock_r ?_ | refine S.inBlock_x rfl ?_ | refine S.noGoto_r ?_ | refine S.noGoto_n ?_ | refine S.noGoto_x ?_)
        refine hK14 _ _ ?_
        refine S.seq fun K15 hK15 => ?_
        refine S.block ?_
        refine S.seq fun K16 hK16 => ?_
        refine S.region rfl ?_
        refine S.op (S.q (q_move rfl) rfl rfl ?_)
        refine S.op (S.q (q_assign rfl) rfl rfl ?_)
        first | with_reducible refine S.nilK ?_ | refine S.nil ?_
        refine hK16 _ _ ?_
        refine S.seq fun K17 hK17 => ?_
        refine S.region rfl ?_
        refine S.op (S.q (q_move rfl) rfl rfl ?_)
        refine S.op (S.q (q_nilCheck rfl) rfl rfl ?_)
        refine S.op (S.q (q_field Tryd.fo55_0 rfl) rfl rfl ?_)
        refine S.op (S.q (q_load Tryd.at52 rfl rfl) rfl rfl ?_)
        refine S.op (S.q (q_move rfl) rfl rfl ?_)
        refine S.op (S.q (q_indexO (i) Tryd.el52 rfl hca rfl rfl (by omega)) rfl rfl ?_)
        refine S.op (S.q (q_loadOw (cs) (i) Tryd.at31 rfl hca (by first | rfl | exact Nat.add_assoc _ _ _ | omega) (by rw [List.getElem?_map, hp]; rfl)) rfl rfl ?_)
        refine S.op (S.q (q_len Tryd.underlying31 rfl) rfl rfl ?_)
        refine S.op (S.q (q_move rfl) rfl rfl ?_)
        first | with_reducible refine S.nilK ?_ | refine S.nil ?_
        refine hK17 _ _ ?_
        refine S.block ?_
        refine S.loop (fun q2 ρ' Γ' => ∃ k : Nat, q2 = m.N - k ∧ k ≤ m.N ∧ ρ' = [(0, .pointer (some ⟨b, 0, none⟩)), (2, .pointer (some ⟨c, 0, none⟩)), (10, .int .i64 (i : Int)), (39, .int .i64 (cs.n : Int)), (40, .int .i64 (i : Int)), (49, p.1.v), (50, .int .i64 p.1.n), (51, .int .i64 (k : Int))] ∧ Γ' = MI b m :: riX c m cs us rs Γ) (m := _) (ρ0 := _) (Γ0 := _) (⟨0, rfl, by omega, rfl, rfl⟩) (by repeat (first | exact trivial | refine ⟨rfl, ?_⟩)) Sub.ent ?_
        rintro q2 ρ' Γ' ⟨k, hq2, hk, rfl, rfl⟩
        refine S.seq fun K18 hK18 => ?_
        refine S.region rfl ?_
        refine S.op (S.q (q_lt rfl rfl) rfl rfl ?_)
        first | with_reducible refine S.nilK ?_ | refine S.nil ?_
        refine hK18 _ _ ?_
        refine S.seq fun K19 hK19 => ?_
        refine S.condD rfl (fun h5 => ?_) (fun h5 => ?_)
        · have hxa := rowN_get (m := m) (i := k) (by omega) i
          rw [← hpd] at hxa
          have hat : atR m i k = atJ m.js i k := by rw [atR, rowB_iff.2 ⟨by omega, by omega⟩, nodeB_iff.2 ⟨by omega, by omega⟩]; rfl
          refine S.skip ?_
          with_reducible repeat (first | refine S.then_n ?_ | refine S.then_x ?_ | refine S.then_r ?_ | refine S.inBlock_n ?_ | refine S.inBlock_r ?_ | refine S.inBlock_x rfl ?_ | refine S.noGoto_r ?_ | refine S.noGoto_n ?_ | refine S.noGoto_x ?_)
          refine hK19 _ _ ?_
          refine S.seq fun K20 hK20 => ?_
          refine S.block ?_
          refine S.seq fun K21 hK21 => ?_
          refine S.region rfl ?_
          refine S.op (S.q (q_move rfl) rfl rfl ?_)
          refine S.op (S.q (q_indexO (k) Tryd.el31 rfl hpa rfl rfl (by omega)) rfl rfl ?_)
          refine S.op (S.q (q_loadR hRp k Tryd.at68 rfl hpa (by omega) (by omega) (idsV_get hxa)) rfl rfl ?_)
          refine S.op (S.q (q_assign rfl) rfl rfl ?_)
          refine S.op (S.q (q_assign rfl) rfl rfl ?_)
          first | with_reducible refine S.nilK ?_ | refine S.nil ?_
          refine hK21 _ _ ?_
          refine S.seq fun K22 hK22 => ?_
          refine S.region rfl ?_
          refine S.op (S.q (q_move rfl) rfl rfl ?_)
          refine S.op (S.q (q_move rfl) rfl rfl ?_)
          refine S.op (S.q (q_move rfl) rfl rfl ?_)
          refine S.op (S.call Tryd.en47 (vs := [_, _, _]) ⟨rfl, rfl, rfl, trivial⟩ (At_S b m i k) rfl ?_)
          rintro v Θ ⟨rfl, rfl⟩
          rw [hat]
          refine S.op (S.q (q_move rfl) rfl rfl ?_)
          refine S.op (S.q (q_ne rfl rfl) rfl rfl ?_)
          first | with_reducible refine S.nilK ?_ | refine S.nil ?_
          refine hK22 _ _ ?_
          refine S.condD rfl (fun h6 => ?_) (fun h6 => ?_)
          · exact absurd rfl h6
          · refine S.skip ?_
            with_reducible repeat (first | refine S.then_n ?_ | refine S.then_x ?_ | refine S.then_r ?_ | refine S.inBlock_n ?_ | refine S.inBlock_r ?_ | refine S.inBlock_x rfl ?_ | refine S.noGoto_r ?_ | refine S.noGoto_n ?_ | refine S.noGoto_x ?_)
            with_reducible repeat (first | refine S.then_n ?_ | refine S.then_x ?_ | refine S.then_r ?_ | refine S.inBlock_n ?_ | refine S.inBlock_r ?_ | refine S.inBlock_x rfl ?_ | refine S.noGoto_r ?_ | refine S.noGoto_n ?_ | refine S.noGoto_x ?_)
            refine hK20 _ _ ?_
            refine S.region rfl ?_
            refine S.op (S.q (q_add rfl rfl (inI64 (by omega) (by omega))) rfl rfl ?_)
            refine S.op (S.q (q_move rfl) rfl rfl ?_)
            first | with_reducible refine S.nilK ?_ | refine S.nil ?_
            with_reducible repeat (first | refine S.then_n ?_ | refine S.then_x ?_ | refine S.then_r ?_ | refine S.inBlock_n ?_ | refine S.inBlock_r ?_ | refine S.inBlock_x rfl ?_ | refine S.noGoto_r ?_ | refine S.noGoto_n ?_ | refine S.noGoto_x ?_)
            exact S.next (q2 - 1) (⟨k + 1, by omega, by omega, rfl, rfl⟩) (by omega) (by repeat (first | exact trivial | refine ⟨rfl, ?_⟩)) Sub.ent
        · skip
          refine S.exit ?_
          with_reducible repeat (first | refine S.then_n ?_ | refine S.then_x ?_ | refine S.then_r ?_ | refine S.inBlock_n ?_ | refine S.inBlock_r ?_ | refine S.inBlock_x rfl ?_ | refine S.noGoto_r ?_ | refine S.noGoto_n ?_ | refine S.noGoto_x ?_)
          with_reducible refine S.inBlock_s ?_
          with_reducible repeat (first | refine S.then_n ?_ | refine S.then_x ?_ | refine S.then_r ?_ | refine S.inBlock_n ?_ | refine S.inBlock_r ?_ | refine S.inBlock_x rfl ?_ | refine S.noGoto_r ?_ | refine S.noGoto_n ?_ | refine S.noGoto_x ?_)
          with_reducible repeat (first | refine S.then_n ?_ | refine S.then_x ?_ | refine S.then_r ?_ | refine S.inBlock_n ?_ | refine S.inBlock_r ?_ | refine S.inBlock_x rfl ?_ | refine S.noGoto_r ?_ | refine S.noGoto_n ?_ | refine S.noGoto_x ?_)
          refine hK15 _ _ ?_
          refine S.region rfl ?_
          refine S.op (S.q (q_add rfl rfl (inI64 (by omega) (by omega))) rfl rfl ?_)
          refine S.op (S.q (q_move rfl) rfl rfl ?_)
          first | with_reducible refine S.nilK ?_ | refine S.nil ?_
          with_reducible repeat (first | refine S.then_n ?_ | refine S.then_x ?_ | refine S.then_r ?_ | refine S.inBlock_n ?_ | refine S.inBlock_r ?_ | refine S.inBlock_x rfl ?_ | refine S.noGoto_r ?_ | refine S.noGoto_n ?_ | refine S.noGoto_x ?_)
          exact S.next (q - 1) (⟨i + 1, by omega, by omega, rfl, rfl⟩) (by omega) (by repeat (first | exact trivial | refine ⟨rfl, ?_⟩)) Sub.ent
      · skip
        refine S.exit ?_
        with_reducible repeat (first | refine S.then_n ?_ | refine S.then_x ?_ | refine S.then_r ?_ | refine S.inBlock_n ?_ | refine S.inBlock_r ?_ | refine S.inBlock_x rfl ?_ | refine S.noGoto_r ?_ | refine S.noGoto_n ?_ | refine S.noGoto_x ?_)
        with_reducible refine S.inBlock_s ?_
        with_reducible repeat (first | refine S.then_n ?_ | refine S.then_x ?_ | refine S.then_r ?_ | refine S.inBlock_n ?_ | refine S.inBlock_r ?_ | refine S.inBlock_x rfl ?_ | refine S.noGoto_r ?_ | refine S.noGoto_n ?_ | refine S.noGoto_x ?_)
        refine hK11 _ _ ?_
        refine S.seq fun K23 hK23 => ?_
        refine S.seq fun K24 hK24 => ?_
        refine S.region rfl ?_
        refine S.op (S.q (q_move rfl) rfl rfl ?_)
        refine S.op (S.q (q_nilCheck rfl) rfl rfl ?_)
        refine S.op (S.q (q_field Tryd.fo55_1 rfl) rfl rfl ?_)
        refine S.op (S.q (q_load Tryd.at53 rfl rfl) rfl rfl ?_)
        refine S.op (S.q (q_len Tryd.underlying53 rfl) rfl rfl ?_)
        refine S.op (S.q (q_move rfl) rfl rfl ?_)
        first | with_reducible refine S.nilK ?_ | refine S.nil ?_
        refine hK24 _ _ ?_
        refine S.block ?_
        refine S.loop (fun q ρ' Γ' => ∃ k : Nat, q = m.N - k ∧ k ≤ m.N ∧ ρ' = [(0, .pointer (some ⟨b, 0, none⟩)), (67, us.v), (68, .int .i64 (us.n : Int)), (69, .int .i64 (k : Int))] ∧ Γ' = MI b m :: riX c m cs us rs Γ) (m := _) (ρ0 := _) (Γ0 := _) (⟨0, rfl, by omega, rfl, rfl⟩) (by repeat (first | exact trivial | refine ⟨rfl, ?_⟩)) Sub.ent ?_
        rintro q ρ' Γ' ⟨k, hq, hk, rfl, rfl⟩
        refine S.seq fun K25 hK25 => ?_
        refine S.region rfl ?_
        refine S.op (S.q (q_lt rfl rfl) rfl rfl ?_)
        first | with_reducible refine S.nilK ?_ | refine S.nil ?_
        refine hK25 _ _ ?_
        refine S.seq fun K26 hK26 => ?_
        refine S.condD rfl (fun h7 => ?_) (fun h7 => ?_)
        · have hup : (upC m)[k]? = some (.bool (m.up.getLsbD k)) := by rw [List.getElem?_map, List.getElem?_range (by omega)]; rfl
          have hiu : isUpB m k = m.up.getLsbD k := by rw [isUpB, nodeB_iff.2 ⟨by omega, by omega⟩]; rfl
          refine S.skip ?_
          with_reducible repeat (first | refine S.then_n ?_ | refine S.then_x ?_ | refine S.then_r ?_ | refine S.inBlock_n ?_ | refine S.inBlock_r ?_ | refine S.inBlock_x rfl ?_ | refine S.noGoto_r ?_ | refine S.noGoto_n ?_ | refine S.noGoto_x ?_)
          refine hK26 _ _ ?_
          refine S.seq fun K27 hK27 => ?_
          refine S.block ?_
          refine S.seq fun K28 hK28 => ?_
          refine S.region rfl ?_
          refine S.op (S.q (q_move rfl) rfl rfl ?_)
          refine S.op (S.q (q_indexO (k) Tryd.el53 rfl hua rfl rfl (by omega)) rfl rfl ?_)
          refine S.op (S.q (q_loadOw (us) (k) Tryd.at4 rfl hua (by first | rfl | exact Nat.add_assoc _ _ _ | omega) (hup)) rfl rfl ?_)
          refine S.op (S.q (q_assign rfl) rfl rfl ?_)
          refine S.op (S.q (q_assign rfl) rfl rfl ?_)
          first | with_reducible refine S.nilK ?_ | refine S.nil ?_
          refine hK28 _ _ ?_
          refine S.seq fun K29 hK29 => ?_
          refine S.region rfl ?_
          refine S.op (S.q (q_move rfl) rfl rfl ?_)
          refine S.op (S.q (q_move rfl) rfl rfl ?_)
          refine S.op (S.call Tryd.en35 (vs := [_, _]) ⟨rfl, rfl, trivial⟩ (IsUp_S b m k) rfl ?_)
          rintro v Θ ⟨rfl, rfl⟩
          rw [hiu]
          refine S.op (S.q (q_move rfl) rfl rfl ?_)
          refine S.op (S.q (q_neB Tryd.underlying4 rfl rfl) rfl rfl ?_)
          first | with_reducible refine S.nilK ?_ | refine S.nil ?_
          refine hK29 _ _ ?_
          refine S.cond rfl (fun h8 => ?_) (fun h8 => ?_)
          · exact absurd h8 (by simp)
          · refine S.skip ?_
            with_reducible repeat (first | refine S.then_n ?_ | refine S.then_x ?_ | refine S.then_r ?_ | refine S.inBlock_n ?_ | refine S.inBlock_r ?_ | refine S.inBlock_x rfl ?_ | refine S.noGoto_r ?_ | refine S.noGoto_n ?_ | refine S.noGoto_x ?_)
            with_reducible repeat (first | refine S.then_n ?_ | refine S.then_x ?_ | refine S.then_r ?_ | refine S.inBlock_n ?_ | refine S.inBlock_r ?_ | refine S.inBlock_x rfl ?_ | refine S.noGoto_r ?_ | refine S.noGoto_n ?_ | refine S.noGoto_x ?_)
            refine hK27 _ _ ?_
            refine S.region rfl ?_
            refine S.op (S.q (q_add rfl rfl (inI64 (by omega) (by omega))) rfl rfl ?_)
            refine S.op (S.q (q_move rfl) rfl rfl ?_)
            first | with_reducible refine S.nilK ?_ | refine S.nil ?_
            with_reducible repeat (first | refine S.then_n ?_ | refine S.then_x ?_ | refine S.then_r ?_ | refine S.inBlock_n ?_ | refine S.inBlock_r ?_ | refine S.inBlock_x rfl ?_ | refine S.noGoto_r ?_ | refine S.noGoto_n ?_ | refine S.noGoto_x ?_)
            exact S.next (q - 1) (⟨k + 1, by omega, by omega, rfl, rfl⟩) (by omega) (by repeat (first | exact trivial | refine ⟨rfl, ?_⟩)) Sub.ent
        · refine S.riClose c m cs us rs hri ?_
          refine S.exit ?_
          with_reducible repeat (first | refine S.then_n ?_ | refine S.then_x ?_ | refine S.then_r ?_ | refine S.inBlock_n ?_ | refine S.inBlock_r ?_ | refine S.inBlock_x rfl ?_ | refine S.noGoto_r ?_ | refine S.noGoto_n ?_ | refine S.noGoto_x ?_)
          with_reducible refine S.inBlock_s ?_
          with_reducible repeat (first | refine S.then_n ?_ | refine S.then_x ?_ | refine S.then_r ?_ | refine S.inBlock_n ?_ | refine S.inBlock_r ?_ | refine S.inBlock_x rfl ?_ | refine S.noGoto_r ?_ | refine S.noGoto_n ?_ | refine S.noGoto_x ?_)
          refine hK23 _ _ ?_
          refine S.seq fun K30 hK30 => ?_
          refine S.region rfl ?_
          refine S.op (S.q (q_assign rfl) rfl rfl ?_)
          first | with_reducible refine S.nilK ?_ | refine S.nil ?_
          refine hK30 _ _ ?_
          refine S.ret ?_
          with_reducible repeat (first | refine S.then_n ?_ | refine S.then_x ?_ | refine S.then_r ?_ | refine S.inBlock_n ?_ | refine S.inBlock_r ?_ | refine S.inBlock_x rfl ?_ | refine S.noGoto_r ?_ | refine S.noGoto_n ?_ | refine S.noGoto_x ?_)
          exact S.fin (rs := [_]) (vs := [_]) Tryd.results20 (⟨rfl, trivial⟩)  (⟨rfl, rfl⟩) Sub.ent
end
end Go.Proofs.YtegjmmocnffpiaaDoor
/- ShufflePlays: of any matrix rows are put together, and jobs put ahead, just as the document says; the matrix itself stays as it was; a nil one is none. -/
namespace Go.Proofs.YtegjmmocnffpiaaDoor
open Go.RowKit
set_option maxRecDepth 20000
set_option maxHeartbeats 1000000 in
theorem ShufflePlays_S (r n : Int) (l : List Sd) (s : SV) (d : Bs) (hr : 0 ≤ r ∧ r ≤ 255) (hn : 0 ≤ n ∧ n ≤ 255) {W : World} (hW : TabW W) (hs : SW W s l) : LawS 4 [.int .u8 r, .int .u8 n, s.v, bsv d] W := by
  refine Spec.of_body Tryd.func4 rfl Tryd.ntmps4 rfl ?_
  intro w0 Γ
  show S _ w0 [(0, .int .u8 r), (1, .int .u8 n), (2, s.v), (3, bsv d)] (old W :: Γ) _
  obtain ⟨m, hm⟩ : ∃ m, m = bldR r n l d := ⟨_, rfl⟩
  have hok : MxOk m := by rw [hm]; exact bldR_ok r n l d
  have hR8 := hok.R8
  refine S.seq fun K1 hK1 => ?_
  refine S.region rfl ?_
  refine S.op (S.q (q_assign rfl) rfl rfl ?_)
  first | with_reducible refine S.nilK ?_ | refine S.nil ?_
  refine hK1 _ _ ?_
  refine S.seq fun K2 hK2 => ?_
  refine S.seq fun K3 hK3 => ?_
  refine S.region rfl ?_
  refine S.op (S.call Tryd.en13 (vs := []) trivial (awake_S hW) rfl ?_)
  rintro v Θ ⟨rfl, rfl⟩
  refine S.op (S.q (q_not rfl) rfl rfl ?_)
  first | with_reducible refine S.nilK ?_ | refine S.nil ?_
  refine hK3 _ _ ?_
  refine S.condF rfl ?_
  refine S.skip ?_
  with_reducible repeat (first | refine S.then_n ?_ | refine S.then_x ?_ | refine S.then_r ?_ | refine S.inBlock_n ?_ | refine S.inBlock_r ?_ | refine S.inBlock_x rfl ?_ | refine S.noGoto_r ?_ | refine S.noGoto_n ?_ | refine S.noGoto_x ?_)
  refine hK2 _ _ ?_
  refine S.seq fun K4 hK4 => ?_
  refine S.region rfl ?_
  refine S.op (S.q (q_move rfl) rfl rfl ?_)
  refine S.op (S.q (q_move rfl) rfl rfl ?_)
  refine S.op (S.q (q_move rfl) rfl rfl ?_)
  refine S.op (S.q (q_move rfl) rfl rfl ?_)
  refine S.op (S.call Tryd.en14 (vs := [_, _, _, _]) ⟨rfl, rfl, rfl, rfl, trivial⟩ (build_S r n l d s hr hn hs) rfl ?_)
  rintro v Θ ⟨b, x, rfl, rfl⟩
  rw [← hm]
  refine S.op (S.q (q_move rfl) rfl rfl ?_)
  refine S.op (S.q (q_extract rfl rfl) rfl rfl ?_)
  refine S.op (S.q (q_extract rfl rfl) rfl rfl ?_)
  refine S.op (S.q (q_assign rfl) rfl rfl ?_)
  refine S.op (S.q (q_assign rfl) rfl rfl ?_)
  first | with_reducible refine S.nilK ?_ | refine S.nil ?_
  refine hK4 _ _ ?_
  refine S.seq fun K5 hK5 => ?_
  refine S.region rfl ?_
  refine S.op (S.q (q_move rfl) rfl rfl ?_)
  refine S.op (S.call Tryd.en15 (vs := [_]) ⟨rfl, trivial⟩ (Unify_S b m hW) rfl ?_)
  rintro v Θ ⟨c1, s1, rfl, hs1, rfl⟩
  obtain ⟨m1, xs1, e1⟩ : ∃ m1 xs1, unifyR m = (m1, xs1) := ⟨_, _, rfl⟩
  rw [e1] at hs1 ⊢
  refine S.op (S.q (q_move rfl) rfl rfl ?_)
  refine S.op (S.q (q_extract rfl rfl) rfl rfl ?_)
  refine S.op (S.q (q_extract rfl rfl) rfl rfl ?_)
  refine S.op (S.q (q_assign rfl) rfl rfl ?_)
  refine S.op (S.q (q_assign rfl) rfl rfl ?_)
  first | with_reducible refine S.nilK ?_ | refine S.nil ?_
  refine hK5 _ _ ?_
  refine S.seq fun K6 hK6 => ?_
  refine S.region rfl ?_
  refine S.op (S.q (q_move rfl) rfl rfl ?_)
  refine S.op (S.call Tryd.en16 (vs := [_]) ⟨rfl, trivial⟩ (rUnify_S x m) rfl ?_)
  rintro v Θ ⟨d1, t1, rfl, ht1, rfl⟩
  rw [e1] at ht1 ⊢
  refine S.op (S.q (q_move rfl) rfl rfl ?_)
  refine S.op (S.q (q_extract rfl rfl) rfl rfl ?_)
  refine S.op (S.q (q_extract rfl rfl) rfl rfl ?_)
  refine S.op (S.q (q_assign rfl) rfl rfl ?_)
  refine S.op (S.q (q_assign rfl) rfl rfl ?_)
  first | with_reducible refine S.nilK ?_ | refine S.nil ?_
  refine hK6 _ _ ?_
  refine S.seq fun K7 hK7 => ?_
  refine S.region rfl ?_
  refine S.op (S.q (q_move rfl) rfl rfl ?_)
  refine S.op (S.call Tryd.en17 (vs := [_]) ⟨rfl, trivial⟩ (Repack_S b m hW) rfl ?_)
  rintro v Θ ⟨c2, s2, rfl, hs2, rfl⟩
  obtain ⟨m2, xs2, e2⟩ : ∃ m2 xs2, repackR m = (m2, xs2) := ⟨_, _, rfl⟩
  rw [e2] at hs2 ⊢
  refine S.op (S.q (q_move rfl) rfl rfl ?_)
  refine S.op (S.q (q_extract rfl rfl) rfl rfl ?_)
  refine S.op (S.q (q_extract rfl rfl) rfl rfl ?_)
  refine S.op (S.q (q_assign rfl) rfl rfl ?_)
  refine S.op (S.q (q_assign rfl) rfl rfl ?_)
  first | with_reducible refine S.nilK ?_ | refine S.nil ?_
  refine hK7 _ _ ?_
  refine S.seq fun K8 hK8 => ?_
  refine S.region rfl ?_
  refine S.op (S.q (q_move rfl) rfl rfl ?_)
  refine S.op (S.call Tryd.en18 (vs := [_]) ⟨rfl, trivial⟩ (rRepack_S x m) rfl ?_)
  rintro v Θ ⟨d2, t2, rfl, ht2, rfl⟩
  rw [e2] at ht2 ⊢
  refine S.op (S.q (q_move rfl) rfl rfl ?_)
  refine S.op (S.q (q_extract rfl rfl) rfl rfl ?_)
  refine S.op (S.q (q_extract rfl rfl) rfl rfl ?_)
  refine S.op (S.q (q_assign rfl) rfl rfl ?_)
  refine S.op (S.q (q_assign rfl) rfl rfl ?_)
  first | with_reducible refine S.nilK ?_ | refine S.nil ?_
  refine hK8 _ _ ?_
  refine S.seq fun K9 hK9 => ?_
  refine S.region rfl ?_
  refine S.op (S.call Tryd.en15 (vs := [_]) ⟨rfl, trivial⟩ (UnifyNil_S) rfl ?_)
  rintro v Θ ⟨rfl, rfl⟩
  refine S.op (S.q (q_move rfl) rfl rfl ?_)
  refine S.op (S.q (q_extract rfl rfl) rfl rfl ?_)
  refine S.op (S.q (q_extract rfl rfl) rfl rfl ?_)
  refine S.op (S.q (q_assign rfl) rfl rfl ?_)
  refine S.op (S.q (q_assign rfl) rfl rfl ?_)
  first | with_reducible refine S.nilK ?_ | refine S.nil ?_
  refine hK9 _ _ ?_
  refine S.seq fun K10 hK10 => ?_
  refine S.region rfl ?_
  refine S.op (S.q (q_assign rfl) rfl rfl ?_)
  first | with_reducible refine S.nilK ?_ | refine S.nil ?_
  refine hK10 _ _ ?_
  refine S.seq fun K11 hK11 => ?_
  refine S.seq fun K12 hK12 => ?_
  refine S.region rfl ?_
  refine S.riOpen x m fun cs us rs hri => ?_
  have hcn := hri.cn
  refine S.op (S.q (q_move rfl) rfl rfl ?_)
  refine S.op (S.q (q_nilCheck rfl) rfl rfl ?_)
  refine S.op (S.q (q_field Tryd.fo55_0 rfl) rfl rfl ?_)
  refine S.op (S.q (q_load Tryd.at52 rfl rfl) rfl rfl ?_)
  refine S.op (S.q (q_len Tryd.underlying52 rfl) rfl rfl ?_)
  refine S.riClose x m cs us rs hri ?_
  refine S.op (S.q (q_move rfl) rfl rfl ?_)
  first | with_reducible refine S.nilK ?_ | refine S.nil ?_
  refine hK12 _ _ ?_
  refine S.block ?_
  refine S.loop (fun q ρ' Γ' => ∃ i : Nat, q = m.R - i ∧ i ≤ m.R ∧ ρ' = [(9, .pointer (some ⟨b, 0, none⟩)), (10, .pointer (some ⟨x, 0, none⟩)), (11, .pointer (some ⟨c1, 0, none⟩)), (12, s1.v), (13, .pointer (some ⟨d1, 0, none⟩)), (14, t1.v), (15, .pointer (some ⟨c2, 0, none⟩)), (16, s2.v), (17, .pointer (some ⟨d2, 0, none⟩)), (18, t2.v), (19, .pointer none), (20, .slice none 0 0), (21, .int .i64 (usedUp m i : Nat)), (61, .int .i64 (cs.n : Int)), (62, .int .i64 (i : Int))] ∧   Γ' = RI x m :: own t2 113 3 (xs2.flatMap mvC) :: RI d2 m2 :: own s2 107 3 (xs2.flatMap mvC) :: MI c2 m2 :: own t1 113 3 (xs1.flatMap mvC) :: RI d1 m1 :: own s1 107 3 (xs1.flatMap mvC) :: MI c1 m1 :: MI b m :: old W :: Γ) (m := _) (ρ0 := _) (Γ0 := _) (⟨0, rfl, by omega, rfl, rfl⟩) (by repeat (first | exact trivial | refine ⟨rfl, ?_⟩)) Sub.ent ?_
  rintro q ρ' Γ' ⟨i, hq, hi, rfl, rfl⟩
  have hle := usedUp_le m i
  refine S.seq fun K13 hK13 => ?_
  refine S.region rfl ?_
  refine S.op (S.q (q_lt rfl rfl) rfl rfl ?_)
  first | with_reducible refine S.nilK ?_ | refine S.nil ?_
  refine hK13 _ _ ?_
  refine S.seq fun K14 hK14 => ?_
  refine S.condD rfl (fun h2 => ?_) (fun h2 => ?_)
  · refine S.skip ?_
    with_reducible repeat (first | refine S.then_n ?_ | refine S.then_x ?_ | refine S.then_r ?_ | refine S.inBlock_n ?_ | refine S.inBlock_r ?_ | refine S.inBlock_x rfl ?_ | refine S.noGoto_r ?_ | refine S.noGoto_n ?_ | refine S.noGoto_x ?_)
    refine hK14 _ _ ?_
    refine S.seq fun K15 hK15 => ?_
    refine S.block ?_
    refine S.seq fun K16 hK16 => ?_
    refine S.region rfl ?_
    refine S.op (S.q (q_move rfl) rfl rfl ?_)
    refine S.op (S.q (q_assign rfl) rfl rfl ?_)
    first | with_reducible refine S.nilK ?_ | refine S.nil ?_
    refine hK16 _ _ ?_
    refine S.seq fun K17 hK17 => ?_
    refine S.region rfl ?_
    refine S.op (S.q (q_move rfl) rfl rfl ?_)
    refine S.op (S.q (q_move rfl) rfl rfl ?_)
    refine S.op (S.call Tryd.en19 (vs := [_, _]) ⟨rfl, rfl, trivial⟩ (rRow_S x m i) rfl ?_)
    rintro v Θ ⟨rv, rfl, hrv, rfl⟩
    refine S.op (S.q (q_len Tryd.underlying31 rfl) rfl rfl ?_)
    refine S.op (S.q (q_gt rfl rfl) rfl rfl ?_)
    first | with_reducible refine S.nilK ?_ | refine S.nil ?_
    refine hK17 _ _ ?_
    refine S.condD rfl (fun h3 => ?_) (fun h3 => ?_)
    · have hs : usedUp m (i + 1) = usedUp m i + 1 := by rw [usedUp, if_pos (by omega)]
      refine S.region rfl ?_
      refine S.op (S.q (q_move rfl) rfl rfl ?_)
      refine S.op (S.q (q_add rfl rfl (inI64 (by omega) (by omega))) rfl rfl ?_)
      refine S.op (S.q (q_assign rfl) rfl rfl ?_)
      first | with_reducible refine S.nilK ?_ | refine S.nil ?_
      with_reducible repeat (first | refine S.then_n ?_ | refine S.then_x ?_ | refine S.then_r ?_ | refine S.inBlock_n ?_ | refine S.inBlock_r ?_ | refine S.inBlock_x rfl ?_ | refine S.noGoto_r ?_ | refine S.noGoto_n ?_ | refine S.noGoto_x ?_)
      refine hK15 _ _ ?_
      refine S.region rfl ?_
      refine S.op (S.q (q_add rfl rfl (inI64 (by omega) (by omega))) rfl rfl ?_)
      refine S.op (S.q (q_move rfl) rfl rfl ?_)
      first | with_reducible refine S.nilK ?_ | refine S.nil ?_
      with_reducible repeat (first | refine S.then_n ?_ | refine S.then_x ?_ | refine S.then_r ?_ | refine S.inBlock_n ?_ | refine S.inBlock_r ?_ | refine S.inBlock_x rfl ?_ | refine S.noGoto_r ?_ | refine S.noGoto_n ?_ | refine S.noGoto_x ?_)
      first | exact S.next (q - 1) ⟨i + 1, by omega, by omega, by rw [hs], rfl⟩ (by omega) (by repeat (first | exact trivial | refine ⟨rfl, ?_⟩)) Sub.ent
    · have hs : usedUp m (i + 1) = usedUp m i := by rw [usedUp, if_neg (by omega)]
      refine S.skip ?_
      with_reducible repeat (first | refine S.then_n ?_ | refine S.then_x ?_ | refine S.then_r ?_ | refine S.inBlock_n ?_ | refine S.inBlock_r ?_ | refine S.inBlock_x rfl ?_ | refine S.noGoto_r ?_ | refine S.noGoto_n ?_ | refine S.noGoto_x ?_)
      with_reducible repeat (first | refine S.then_n ?_ | refine S.then_x ?_ | refine S.then_r ?_ | refine S.inBlock_n ?_ | refine S.inBlock_r ?_ | refine S.inBlock_x rfl ?_ | refine S.noGoto_r ?_ | refine S.noGoto_n ?_ | refine S.noGoto_x ?_)
      refine hK15 _ _ ?_
      refine S.region rfl ?_
      refine S.op (S.q (q_add rfl rfl (inI64 (by omega) (by omega))) rfl rfl ?_)
      refine S.op (S.q (q_move rfl) rfl rfl ?_)
      first | with_reducible refine S.nilK ?_ | refine S.nil ?_
      with_reducible repeat (first | refine S.then_n ?_ | refine S.then_x ?_ | refine S.then_r ?_ | refine S.inBlock_n ?_ | refine S.inBlock_r ?_ | refine S.inBlock_x rfl ?_ | refine S.noGoto_r ?_ | refine S.noGoto_n ?_ | refine S.noGoto_x ?_)
      first | exact S.next (q - 1) ⟨i + 1, by omega, by omega, by rw [hs], rfl⟩ (by omega) (by repeat (first | exact trivial | refine ⟨rfl, ?_⟩)) Sub.ent
  · rw [show i = m.R by omega]
    refine S.exit ?_
    with_reducible repeat (first | refine S.then_n ?_ | refine S.then_x ?_ | refine S.then_r ?_ | refine S.inBlock_n ?_ | refine S.inBlock_r ?_ | refine S.inBlock_x rfl ?_ | refine S.noGoto_r ?_ | refine S.noGoto_n ?_ | refine S.noGoto_x ?_)
    with_reducible refine S.inBlock_s ?_
    with_reducible repeat (first | refine S.then_n ?_ | refine S.then_x ?_ | refine S.then_r ?_ | refine S.inBlock_n ?_ | refine S.inBlock_r ?_ | refine S.inBlock_x rfl ?_ | refine S.noGoto_r ?_ | refine S.noGoto_n ?_ | refine S.noGoto_x ?_)
    refine hK11 _ _ ?_
    refine S.seq fun K18 hK18 => ?_
    refine S.regionG ?_
    refine S.g_op rfl (S.q (q_move rfl) rfl rfl ?_)
    refine S.g_op rfl (S.q (q_move rfl) rfl rfl ?_)
    refine S.g_op rfl (S.q (q_move rfl) rfl rfl ?_)
    refine S.g_op rfl (S.q (q_move rfl) rfl rfl ?_)
    refine S.g_op rfl (S.call Tryd.en20 (vs := [_, _, _, _]) ⟨rfl, rfl, rfl, rfl, trivial⟩ (same_S c1 d1 m1 s1 t1 xs1 hs1 ht1) rfl ?_)
    rintro v Θ ⟨rfl, rfl⟩
    refine S.g_op rfl (S.q (q_move rfl) rfl rfl ?_)
    refine S.g_yes rfl rfl rfl (rfl) (S.q (q_move rfl) rfl rfl ?_)
    refine S.g_yes rfl rfl rfl (rfl) (S.q (q_move rfl) rfl rfl ?_)
    refine S.g_yes rfl rfl rfl (rfl) (S.q (q_move rfl) rfl rfl ?_)
    refine S.g_yes rfl rfl rfl (rfl) (S.q (q_move rfl) rfl rfl ?_)
    refine S.g_yes rfl rfl rfl (rfl) (S.call Tryd.en20 (vs := [_, _, _, _]) ⟨rfl, rfl, rfl, rfl, trivial⟩ (same_S c2 d2 m2 s2 t2 xs2 hs2 ht2) rfl ?_)
    rintro v Θ ⟨rfl, rfl⟩
    refine S.g_op rfl (S.q (q_pickT rfl (rfl) rfl) rfl rfl ?_)
    refine S.g_op rfl (S.q (q_move rfl) rfl rfl ?_)
    refine S.g_yes rfl rfl rfl (rfl) (S.q (q_move rfl) rfl rfl ?_)
    refine S.g_yes rfl rfl rfl (rfl) (S.q (q_move rfl) rfl rfl ?_)
    refine S.ent (Ent.ownNil 107 3) ?_
    refine S.ent (Ent.ownNil 113 3) ?_
    show S _ w0 _ (own SV.nil 113 3 (([] : List Mv).flatMap mvC) :: own SV.nil 107 3 (([] : List Mv).flatMap mvC) :: _) _
    refine S.g_yes rfl rfl rfl (rfl) (S.call Tryd.en20 (vs := [_, _, _, _]) ⟨rfl, rfl, rfl, rfl, trivial⟩ (same_S b x m SV.nil SV.nil [] rfl rfl) rfl ?_)
    rintro v Θ ⟨rfl, rfl⟩
    refine S.g_op rfl (S.q (q_pickT rfl (rfl) rfl) rfl rfl ?_)
    refine S.g_op rfl (S.q (q_move rfl) rfl rfl ?_)
    refine S.g_yes rfl rfl rfl (rfl) (S.q (q_move rfl) rfl rfl ?_)
    refine S.g_yes rfl rfl rfl (rfl) (S.q (q_eqN Tryd.underlying25 rfl rfl) rfl rfl ?_)
    refine S.g_op rfl (S.q (q_pickT rfl (rfl) rfl) rfl rfl ?_)
    refine S.g_op rfl (S.q (q_move rfl) rfl rfl ?_)
    refine S.g_yes rfl rfl rfl (rfl) (S.q (q_move rfl) rfl rfl ?_)
    refine S.g_yes rfl rfl rfl (rfl) (S.q (q_len Tryd.underlying46 rfl) rfl rfl ?_)
    refine S.g_yes rfl rfl rfl (rfl) (S.q (q_eq rfl rfl) rfl rfl ?_)
    refine S.g_op rfl (S.q (q_pickT rfl (rfl) rfl) rfl rfl ?_)
    refine S.g_op rfl (S.q (q_move rfl) rfl rfl ?_)
    refine S.g_yes rfl rfl rfl ((decide_eq_true rfl)) (S.q (q_move rfl) rfl rfl ?_)
    refine S.g_yes rfl rfl rfl ((decide_eq_true rfl)) (S.call Tryd.en21 (vs := [_]) ⟨rfl, trivial⟩ (Used_S b m hW) rfl ?_)
    rintro v Θ ⟨rfl, rfl⟩
    refine S.g_yes rfl rfl rfl ((decide_eq_true rfl)) (S.q (q_move rfl) rfl rfl ?_)
    refine S.g_yes rfl rfl rfl ((decide_eq_true rfl)) (S.q (q_eq rfl rfl) rfl rfl ?_)
    refine S.g_op rfl (S.q (q_pickT rfl ((decide_eq_true rfl)) rfl) rfl rfl ?_)
    refine S.g_op rfl (S.q (q_move rfl) rfl rfl ?_)
    refine S.g_yes rfl rfl rfl ((decide_eq_true rfl)) (S.call Tryd.en21 (vs := [_]) ⟨rfl, trivial⟩ (UsedNil_S) rfl ?_)
    rintro v Θ ⟨rfl, rfl⟩
    refine S.g_yes rfl rfl rfl ((decide_eq_true rfl)) (S.q (q_eq rfl rfl) rfl rfl ?_)
    refine S.g_op rfl (S.q (q_pickT rfl ((decide_eq_true rfl)) rfl) rfl rfl ?_)
    refine S.g_op rfl (S.q (q_assign rfl) rfl rfl ?_)
    first | with_reducible refine S.g_nilK ?_ | refine S.g_nil ?_
    refine hK18 _ _ ?_
    refine S.ret ?_
    with_reducible repeat (first | refine S.then_n ?_ | refine S.then_x ?_ | refine S.then_r ?_ | refine S.inBlock_n ?_ | refine S.inBlock_r ?_ | refine S.inBlock_x rfl ?_ | refine S.noGoto_r ?_ | refine S.noGoto_n ?_ | refine S.noGoto_x ?_)
    exact S.fin (rs := [_]) (vs := [_]) Tryd.results4 (⟨rfl, trivial⟩)  (⟨rfl, rfl⟩) Sub.ent
open Go.ChangeShapes Go.WideShapes Go.ChangeAt
theorem ShufflePlays_law {H : Type} (enc : TypeId × Value → H) : LawWalkT enc Rows.shufflePlaysRow.laid 4 Tryd.f4 := by
  intro W base args ds before hval hA _ _ hL
  rw [Tryd.params4] at hA hval
  obtain ⟨v0, vs0, d0, ds0, p0, q0, hargs, rfl, rfl, h0, r0⟩ := trodAll_cons hA
  obtain ⟨v1, vs1, d1, ds1, p1, q1, rfl, rfl, rfl, h1, r1⟩ := trodAll_cons r0
  obtain ⟨v2, vs2, d2, ds2, p2, q2, rfl, rfl, rfl, h2, r2⟩ := trodAll_cons r1
  obtain ⟨v3, vs3, d3, ds3, p3, q3, rfl, rfl, rfl, h3, r3⟩ := trodAll_cons r2
  obtain ⟨rfl, rfl, rfl⟩ := trodAll_nil r3
  obtain rfl : args = #[v0, v1, v2, v3] := by cases args; simp_all
  obtain ⟨r, rfl, hr⟩ := arg_int Tryd.underlying5 (hval 0 5 v0 rfl rfl) h0
  obtain ⟨n, rfl, hn⟩ := arg_int Tryd.underlying5 (hval 1 5 v1 rfl rfl) h1
  obtain ⟨s, l, e2, hs⟩ := rd_sds (arg_slice 5 Tryd.underlying43 (by kernel_rfl) (hval 2 43 v2 rfl rfl) h2)
  simp only [List.cons.injEq, and_true] at e2
  subst e2
  obtain ⟨d, rfl, hd⟩ := arg_int Tryd.underlying23 (hval 3 23 v3 rfl rfl) h3
  have h16 := u16_rng hd
  have e : ((BitVec.ofNat 16 d.toNat).toNat : Int) = d := by
    rw [BitVec.toNat_ofNat, Nat.mod_eq_of_lt (by omega)]
    omega
  have e3 : Value.int .u16 d = bsv (BitVec.ofNat 16 d.toNat) := by rw [bsv, e]
  rw [e3]
  exact law_run (ShufflePlays_S r n l s (BitVec.ofNat 16 d.toNat) (u8_rng hr) (u8_rng hn) (tabW_of rfl hL) hs)
set_option maxRecDepth 100000 in
theorem ShufflePlays_met (os : Os) (args : Array Value) : laidMetH Tryd.prog Rows.shufflePlaysRow.laid ((World.doorLaid Tryd.prog 14 os).forCall (fun _ _ => 0) ⟨#[], args, []⟩).memory :=
  laidMetH_of_parts3 (fuel := 8) (laidMet_of_run' 8 (by kernel_rfl) (by kernel_rfl)) (by kernel_rfl) (by kernel_rfl)
set_option maxRecDepth 100000 in
theorem ShufflePlays_lifted (os : Os) (started : os.Started) (H : Type) (enc : TypeId × Value → H) :
    ReturnsInHanded {} Tryd.checked os 4 .any (fun w args => (Rows.shufflePlaysSpec.pre enc Tryd.prog Tryd.f4 [] false w args ∧ laidMetH Tryd.prog Rows.shufflePlaysRow.laid w) ∧ sizedMet enc Tryd.prog Tryd.f4 (OpenSpec.ofChange Rows.shufflePlaysSpec) false w args) (Rows.shufflePlaysSpec.post enc Tryd.prog Tryd.f4 false true false false) :=
  lift_trueT started Tryd.func4 (by kernel_rfl)
    (ChangeSpec.witness_shaped (enc := enc) (C := Tryd.checked) (os := os) (X := fun w _ => laidMetH Tryd.prog Rows.shufflePlaysRow.laid w) false (World.doorLaid Tryd.prog 14 os) #[.int .u8 0, .int .u8 0, .slice none 0 0, .int .u16 0] 8 rfl (World.shaped_of_RefB (by kernel_rfl) (by kernel_rfl)) (by kernel_rfl) (by kernel_rfl) (by kernel_rfl) (ShufflePlays_met os _))
    rfl rfl (by kernel_rfl) (fun ds h => by match ds, h with | [a0, a1, a2, a3], _ => rfl) (ShufflePlays_law enc)
theorem ShufflePlays_over : Rows.shufflePlaysRow.holds Tryd.pinned (OpenSpec.ofChange Rows.shufflePlaysSpec) :=
  OpenClaim.holds_of_wide 4 Tryd.f4 rfl rfl rfl rfl rfl rfl rfl ⟨rfl, rfl, rfl, rfl, rfl⟩ rfl rfl rfl rfl rfl (by kernel_rfl) Tryd.func4 (by kernel_rfl)
    (of_decide_eq_true (by kernel_rfl)) (by unfold Func.isWrapper; first | (rw [if_pos (by decide +kernel)]; kernel_rfl) | (rw [if_neg (by decide +kernel)]; exact ⟨rfl, rfl⟩))
    (fun os started H enc _ => ShufflePlays_lifted os started H enc)
theorem ShufflePlays_holds : Rows.ShufflePlaysCardSaid :=
  Claim7.holds_tied_plain_at .later [] [.data] true (true, "d82cf9a8b09ce163cf9661778cc21f6eeb0c8c5bd78b509f1c907566ac05aee4") true
    ShufflePlays_over (fun _ h => by cases h) (by kernel_rfl) (fun _ h => by cases h) shufflePlays_row_tie rfl ⟨rfl, rfl⟩ (by kernel_rfl) rfl
    (fun f fn hf hfn => by
      obtain rfl : f = 4 := Option.some.inj ((show Tryd.prog.funcNamed "quadrille/quadrillelaw13.ShufflePlays" = some 4 by kernel_rfl).symm.trans hf) |>.symm
      obtain rfl : fn = Tryd.f4 := (Option.some.inj (Tryd.func4.symm.trans hfn)).symm
      exact ⟨by kernel_rfl, fun j t ht => by
        rw [Tryd.params4] at ht
        have hm : t ∈ [5, 5, 43, 23] := by simpa using Array.mem_of_getElem? ht
        have hall : ([5, 5, 43, 23].all fun u => !Tryd.prog.wantsStandIn u) = true := by kernel_rfl
        exact (show Tryd.prog.wantsStandIn t = false by simpa using List.all_eq_true.1 hall t hm)⟩)
    (by kernel_rfl)
#print axioms ShufflePlays_holds
end Go.Proofs.YtegjmmocnffpiaaDoor
