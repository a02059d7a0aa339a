/- Rows put together, jobs put ahead: the walks of Unify and Repack. -/
import Derived.Test.YtbhnbnecaejjiaaDoorShufA
namespace Go.Proofs.YtbhnbnecaejjiaaDoor
open Go.RowKit
set_option maxRecDepth 20000
theorem mvC_one (l : List Mv) : allOne (l.flatMap mvC) = true := List.all_eq_true.2 fun u hu => by
  obtain ⟨x, _, hx⟩ := List.mem_flatMap.1 hu
  simp only [mvC, List.mem_cons, List.not_mem_nil, or_false] at hx
  rcases hx with rfl | rfl | rfl <;> rfl
theorem allR_ok {m : Mx} (hm : MxOk m) {f t : Nat} : MxOk (allR m f t).2 ∧ (allR m f t).2.R = m.R := by
  unfold allR
  cases h : runUp m t (rowIds m f) (rowIds m f).length with
  | none => exact ⟨hm, rfl⟩
  | some a =>
    obtain ⟨h1, h2, _⟩ := runUp_some hm (Nat.le_refl _) h
    exact ⟨h1, by show a.2.R = m.R; rw [h2]⟩
theorem rowIds_len (m : Mx) (z : Int) : (rowIds m z).length ≤ 16 := by
  unfold rowIds
  split
  · rw [List.length_map]; exact rowJ_len m _
  · simp
theorem allR_len {m : Mx} (hm : MxOk m) (f t : Nat) : (allR m f t).1.length ≤ 16 := by
  unfold allR
  cases h : runUp m t (rowIds m f) (rowIds m f).length with
  | none => simp
  | some a =>
    obtain ⟨_, _, h3⟩ := runUp_some hm (Nat.le_refl _) h
    have := rowIds_len m f
    show a.1.length ≤ 16
    omega
theorem Unify_S (b : Nat) (m : Mx) {W : World} (hW : TabW W) : Spec Tryd.prog 15 [.pointer (some ⟨b, 0, none⟩)] [MI b m, old W] fun Γ v Θ => ∃ (c : Nat) (sv : SV), v = .tuple #[.pointer (some ⟨c, 0, none⟩), sv.v] ∧ sv.n = (unifyR m).2.length ∧
    Θ = own sv 58 3 ((unifyR m).2.flatMap mvC) :: MI c (unifyR m).1 :: MI b m :: old W :: Γ := by
  refine Spec.miOk fun hok => ?_
  refine Spec.of_body Tryd.func15 rfl Tryd.ntmps15 rfl ?_
  intro w0 Γ
  show S _ w0 [(0, .pointer (some ⟨b, 0, none⟩))] (MI b m :: old W :: Γ) _
  have hR8 := hok.R8
  refine S.seq fun K1 hK1 => ?_
  refine S.region rfl ?_
  refine S.op (S.q (q_assign rfl) rfl rfl ?_)
  refine S.op (S.q (q_assign rfl) rfl rfl ?_)
  first | with_reducible refine S.nilK ?_ | refine S.nil ?_
  refine hK1 _ _ ?_
  refine S.seq fun K2 hK2 => ?_
  refine S.region rfl ?_
  refine S.op (S.q (q_move rfl) rfl rfl ?_)
  refine S.op (S.call Tryd.en42 (vs := [_]) ⟨rfl, trivial⟩ (Copy_S b m) rfl ?_)
  rintro v Θ ⟨c, rfl, rfl⟩
  refine S.op (S.q (q_assign rfl) rfl rfl ?_)
  first | with_reducible refine S.nilK ?_ | refine S.nil ?_
  refine hK2 _ _ ?_
  refine S.seq fun K3 hK3 => ?_
  refine S.region rfl ?_
  refine S.op (S.q (q_assign rfl) rfl rfl ?_)
  first | with_reducible refine S.nilK ?_ | refine S.nil ?_
  refine hK3 _ _ ?_
  refine S.seq fun K4 hK4 => ?_
  refine S.seq fun K5 hK5 => ?_
  refine S.region rfl ?_
  refine S.op (S.q (q_move rfl) rfl rfl ?_)
  refine S.op (S.call Tryd.en43 (vs := [_]) ⟨rfl, trivial⟩ (rowsCount_S c m) rfl ?_)
  rintro v Θ ⟨rfl, rfl⟩
  refine S.ent (Ent.ownNil 58 3) ?_
  show S _ w0 _ (own SV.nil 58 3 (([] : List Mv).flatMap mvC) :: _) _
  refine S.op (S.q (q_move rfl) rfl rfl ?_)
  first | with_reducible refine S.nilK ?_ | refine S.nil ?_
  refine hK5 _ _ ?_
  refine S.block ?_
  refine S.loop (fun q ρ' Γ' => ∃ (i : Nat) (sv : SV) (xs : List Mv) (mm : Mx), q = m.R - i ∧ i ≤ m.R ∧ uniUp m i = (mm, xs) ∧ MxOk mm ∧ mm.R = m.R ∧ xs.length ≤ 128 * i ∧ sv.n = xs.length ∧ ρ' = [(4, .pointer (some ⟨c, 0, none⟩)), (5, sv.v), (11, .int .i64 (m.R : Int)), (12, .int .i64 (i : Int))] ∧   Γ' = own sv 58 3 (xs.flatMap mvC) :: MI c mm :: MI b m :: old W :: Γ) (m := _) (ρ0 := _) (Γ0 := _) (⟨0, SV.nil, [], m, rfl, by omega, rfl, hok, rfl, Nat.le_refl _, rfl, rfl, rfl⟩) (by repeat (first | exact trivial | refine ⟨rfl, ?_⟩)) Sub.ent ?_
  rintro q ρ' Γ' ⟨i, sv, xs, mm, hq, hi, huu, hmo, hmR, hxl, hsv, rfl, rfl⟩
  refine S.seq fun K6 hK6 => ?_
  refine S.region rfl ?_
  refine S.op (S.q (q_lt rfl rfl) rfl rfl ?_)
  first | with_reducible refine S.nilK ?_ | refine S.nil ?_
  refine hK6 _ _ ?_
  refine S.seq fun K7 hK7 => ?_
  refine S.condD rfl (fun h1 => ?_) (fun h1 => ?_)
  · refine S.skip ?_
    with_reducible repeat (first | refine S.then_n ?_ | refine S.then_x ?_ | refine S.then_r ?_ | refine S.inBlock_n ?_ | refine S.inBlock_r ?_ | refine S.inBlock_x rfl ?_ | refine S.noGoto_r ?_ | refine S.noGoto_n ?_ | refine S.noGoto_x ?_)
    refine hK7 _ _ ?_
    refine S.seq fun K8 hK8 => ?_
    refine S.block ?_
    refine S.seq fun K9 hK9 => ?_
    refine S.region rfl ?_
    refine S.op (S.q (q_move rfl) rfl rfl ?_)
    refine S.op (S.q (q_assign rfl) rfl rfl ?_)
    first | with_reducible refine S.nilK ?_ | refine S.nil ?_
    refine hK9 _ _ ?_
    refine S.seq fun K10 hK10 => ?_
    refine S.region rfl ?_
    refine S.op (S.q (q_move rfl) rfl rfl ?_)
    refine S.op (S.q (q_add rfl rfl (inI64 (by omega) (by omega))) rfl rfl ?_)
    refine S.op (S.q (q_assign rfl) rfl rfl ?_)
    first | with_reducible refine S.nilK ?_ | refine S.nil ?_
    refine hK10 _ _ ?_
    refine S.block ?_
    refine S.loop (fun q2 ρ' Γ' => ∃ (j p : Nat) (s2 : SV) (ys : List Mv) (m2 : Mx), q2 = m.R - j ∧ j = i + 1 + p ∧ j ≤ m.R ∧ uniIn i (mm, xs) p = (m2, ys) ∧ MxOk m2 ∧ m2.R = m.R ∧ ys.length ≤ 128 * i + 16 * p ∧ s2.n = ys.length ∧ ρ' = [(4, .pointer (some ⟨c, 0, none⟩)), (5, s2.v), (6, .int .i64 (i : Int)), (7, .int .i64 (j : Int)), (11, .int .i64 (m.R : Int)), (12, .int .i64 (i : Int))] ∧   Γ' = own s2 58 3 (ys.flatMap mvC) :: MI c m2 :: MI b m :: old W :: Γ) (m := _) (ρ0 := _) (Γ0 := _) (⟨i + 1, 0, sv, xs, mm, rfl, rfl, by omega, rfl, hmo, hmR, by omega, hsv, rfl, rfl⟩) (by repeat (first | exact trivial | refine ⟨rfl, ?_⟩)) Sub.ent ?_
    rintro q2 ρ' Γ' ⟨j, p, s2, ys, m2, hq2, hj, hjR, hin, hm2, hm2R, hyl, hs2, rfl, rfl⟩
    refine S.seq fun K11 hK11 => ?_
    refine S.seq fun K12 hK12 => ?_
    refine S.region rfl ?_
    refine S.op (S.q (q_move rfl) rfl rfl ?_)
    refine S.op (S.q (q_move rfl) rfl rfl ?_)
    refine S.op (S.call Tryd.en43 (vs := [_]) ⟨rfl, trivial⟩ (rowsCount_S c m2) rfl ?_)
    rintro v Θ ⟨rfl, rfl⟩
    rw [hm2R]
    refine S.op (S.q (q_lt rfl rfl) rfl rfl ?_)
    first | with_reducible refine S.nilK ?_ | refine S.nil ?_
    refine hK12 _ _ ?_
    refine S.condD rfl (fun h2 => ?_) (fun h2 => ?_)
    · have hal := allR_len hm2 j i
      obtain ⟨hao, haR⟩ := allR_ok (f := j) (t := i) hm2
      have hin2 : uniIn i (mm, xs) (p + 1) = ((allR m2 j i).2, ys ++ (allR m2 j i).1) := by
        rw [uniIn, hin, allStep]
        simp only [← hj]
      refine S.skip ?_
      with_reducible repeat (first | refine S.then_n ?_ | refine S.then_x ?_ | refine S.then_r ?_ | refine S.inBlock_n ?_ | refine S.inBlock_r ?_ | refine S.inBlock_x rfl ?_ | refine S.noGoto_r ?_ | refine S.noGoto_n ?_ | refine S.noGoto_x ?_)
      refine hK11 _ _ ?_
      refine S.seq fun K13 hK13 => ?_
      refine S.block ?_
      refine S.region rfl ?_
      refine S.op (S.q (q_move rfl) rfl rfl ?_)
      refine S.op (S.q (q_move rfl) rfl rfl ?_)
      refine S.op (S.q (q_move rfl) rfl rfl ?_)
      refine S.op (S.q (q_move rfl) rfl rfl ?_)
      refine S.op (S.call Tryd.en44 (vs := [_, _, _]) ⟨rfl, rfl, rfl, trivial⟩ (all_S c m2 j i (by omega) hW) rfl ?_)
      rintro v Θ ⟨s3, rfl, hs3, rfl⟩
      refine S.op (S.appendOw (s := s2) (s3.n) ((allR m2 j i).1.flatMap mvC) Tryd.underlying29 Tryd.inf58 rfl rfl rfl (fun w hs => HasOw.slAt (s := s3) inferInstance hs) (mvC_one _) (⟨by omega, by omega⟩) rfl ?_)
      intro s4 hs4
      refine S.op (S.q (q_assign rfl) rfl rfl ?_)
      first | with_reducible refine S.nilK ?_ | refine S.nil ?_
      with_reducible repeat (first | refine S.then_n ?_ | refine S.then_x ?_ | refine S.then_r ?_ | refine S.inBlock_n ?_ | refine S.inBlock_r ?_ | refine S.inBlock_x rfl ?_ | refine S.noGoto_r ?_ | refine S.noGoto_n ?_ | refine S.noGoto_x ?_)
      refine hK13 _ _ ?_
      refine S.region rfl ?_
      refine S.op (S.q (q_move rfl) rfl rfl ?_)
      refine S.op (S.q (q_add rfl rfl (inI64 (by omega) (by omega))) rfl rfl ?_)
      refine S.op (S.q (q_assign rfl) rfl rfl ?_)
      first | with_reducible refine S.nilK ?_ | refine S.nil ?_
      with_reducible repeat (first | refine S.then_n ?_ | refine S.then_x ?_ | refine S.then_r ?_ | refine S.inBlock_n ?_ | refine S.inBlock_r ?_ | refine S.inBlock_x rfl ?_ | refine S.noGoto_r ?_ | refine S.noGoto_n ?_ | refine S.noGoto_x ?_)
      rw [← List.flatMap_append]
      exact S.next (q2 - 1) (⟨j + 1, p + 1, s4, ys ++ (allR m2 j i).1, (allR m2 j i).2, by omega, by omega, by omega, hin2, hao, by omega, by rw [List.length_append]; omega, by rw [List.length_append]; omega, rfl, rfl⟩) (by omega) (by repeat (first | exact trivial | refine ⟨rfl, ?_⟩)) Sub.ent
    · have hjR2 : j = m.R := by omega
      have huu2 : uniUp m (i + 1) = (m2, ys) := by rw [uniUp, huu, show m.R - (i + 1) = p by omega, hin]
      refine S.exit ?_
      with_reducible repeat (first | refine S.then_n ?_ | refine S.then_x ?_ | refine S.then_r ?_ | refine S.inBlock_n ?_ | refine S.inBlock_r ?_ | refine S.inBlock_x rfl ?_ | refine S.noGoto_r ?_ | refine S.noGoto_n ?_ | refine S.noGoto_x ?_)
      with_reducible refine S.inBlock_s ?_
      with_reducible repeat (first | refine S.then_n ?_ | refine S.then_x ?_ | refine S.then_r ?_ | refine S.inBlock_n ?_ | refine S.inBlock_r ?_ | refine S.inBlock_x rfl ?_ | refine S.noGoto_r ?_ | refine S.noGoto_n ?_ | refine S.noGoto_x ?_)
      with_reducible repeat (first | refine S.then_n ?_ | refine S.then_x ?_ | refine S.then_r ?_ | refine S.inBlock_n ?_ | refine S.inBlock_r ?_ | refine S.inBlock_x rfl ?_ | refine S.noGoto_r ?_ | refine S.noGoto_n ?_ | refine S.noGoto_x ?_)
      refine hK8 _ _ ?_
      refine S.region rfl ?_
      refine S.op (S.q (q_add rfl rfl (inI64 (by omega) (by omega))) rfl rfl ?_)
      refine S.op (S.q (q_move rfl) rfl rfl ?_)
      first | with_reducible refine S.nilK ?_ | refine S.nil ?_
      with_reducible repeat (first | refine S.then_n ?_ | refine S.then_x ?_ | refine S.then_r ?_ | refine S.inBlock_n ?_ | refine S.inBlock_r ?_ | refine S.inBlock_x rfl ?_ | refine S.noGoto_r ?_ | refine S.noGoto_n ?_ | refine S.noGoto_x ?_)
      exact S.next (q - 1) (⟨i + 1, s2, ys, m2, by omega, by omega, huu2, hm2, hm2R, by omega, hs2, rfl, rfl⟩) (by omega) (by repeat (first | exact trivial | refine ⟨rfl, ?_⟩)) Sub.ent
  · have hiR : i = m.R := by omega
    have hfin : unifyR m = (mm, xs) := by rw [unifyR, ← hiR, huu]
    refine S.exit ?_
    with_reducible repeat (first | refine S.then_n ?_ | refine S.then_x ?_ | refine S.then_r ?_ | refine S.inBlock_n ?_ | refine S.inBlock_r ?_ | refine S.inBlock_x rfl ?_ | refine S.noGoto_r ?_ | refine S.noGoto_n ?_ | refine S.noGoto_x ?_)
    with_reducible refine S.inBlock_s ?_
    with_reducible repeat (first | refine S.then_n ?_ | refine S.then_x ?_ | refine S.then_r ?_ | refine S.inBlock_n ?_ | refine S.inBlock_r ?_ | refine S.inBlock_x rfl ?_ | refine S.noGoto_r ?_ | refine S.noGoto_n ?_ | refine S.noGoto_x ?_)
    refine hK4 _ _ ?_
    refine S.seq fun K14 hK14 => ?_
    refine S.region rfl ?_
    refine S.op (S.q (q_move rfl) rfl rfl ?_)
    refine S.op (S.q (q_move rfl) rfl rfl ?_)
    refine S.op (S.q (q_assign rfl) rfl rfl ?_)
    refine S.op (S.q (q_assign rfl) rfl rfl ?_)
    first | with_reducible refine S.nilK ?_ | refine S.nil ?_
    refine hK14 _ _ ?_
    refine S.ret ?_
    with_reducible repeat (first | refine S.then_n ?_ | refine S.then_x ?_ | refine S.then_r ?_ | refine S.inBlock_n ?_ | refine S.inBlock_r ?_ | refine S.inBlock_x rfl ?_ | refine S.noGoto_r ?_ | refine S.noGoto_n ?_ | refine S.noGoto_x ?_)
    exact S.fin (rs := [_, _]) (vs := [_, _]) Tryd.results15 (⟨rfl, rfl, trivial⟩)  (⟨c, sv, rfl, by rw [hfin]; exact hsv, by rw [hfin]⟩) Sub.ent
theorem repTry_none {m : Mx} {j : Nat} : ∀ {p : Nat}, repTry m j p = none → ∀ i, i < p → (moveR m j i).1 = none
  | 0, _, i, hi => by omega
  | p + 1, h, i, hi => by
    rw [repTry] at h
    cases hr : repTry m j p with
    | some r => rw [hr] at h; cases h
    | none =>
      rw [hr] at h
      simp only at h
      cases hv : moveR m j p with
      | mk x m' =>
        rw [hv] at h
        cases x with
        | some x => cases h
        | none =>
          by_cases e : i = p
          · rw [e, hv]
          · exact repTry_none hr i (by omega)
theorem repTry_mono {m : Mx} {j : Nat} {r : Mv × Mx} : ∀ {p q : Nat}, repTry m j p = some r → p ≤ q → repTry m j q = some r
  | p, 0, h, hq => by rwa [show p = 0 by omega] at h
  | p, q + 1, h, hq => by
    by_cases e : p = q + 1
    · rwa [e] at h
    · rw [repTry, repTry_mono h (by omega)]
theorem repTry_some {m : Mx} (hm : MxOk m) {j : Nat} {r : Mv × Mx} : ∀ {p : Nat}, repTry m j p = some r → MxOk r.2 ∧ r.2.R = m.R ∧ ∃ i, i < p ∧ moveR m j i = (some r.1, r.2)
  | 0, h => by cases h
  | p + 1, h => by
    rw [repTry] at h
    cases hr : repTry m j p with
    | some r' =>
      rw [hr] at h
      simp only [Option.some.injEq] at h
      subst h
      obtain ⟨h1, h2, i, h3, h4⟩ := repTry_some hm hr
      exact ⟨h1, h2, i, by omega, h4⟩
    | none =>
      rw [hr] at h
      simp only at h
      cases hv : moveR m j p with
      | mk x m' =>
        rw [hv] at h
        cases x with
        | none => cases h
        | some x =>
          simp only [Option.some.injEq] at h
          subst h
          have h1 := moveR_ok hm j p
          have h2 := (moveR_N m j p).1
          rw [hv] at h1 h2
          exact ⟨h1, h2, p, by omega, hv⟩
theorem Repack_S (b : Nat) (m : Mx) {W : World} (hW : TabW W) : Spec Tryd.prog 19 [.pointer (some ⟨b, 0, none⟩)] [MI b m, old W] fun Γ v Θ => ∃ (c : Nat) (sv : SV), v = .tuple #[.pointer (some ⟨c, 0, none⟩), sv.v] ∧ sv.n = (repackR m).2.length ∧
    Θ = own sv 58 3 ((repackR m).2.flatMap mvC) :: MI c (repackR m).1 :: MI b m :: old W :: Γ := by
  refine Spec.miOk fun hok => ?_
  refine Spec.of_body Tryd.func19 rfl Tryd.ntmps19 rfl ?_
  intro w0 Γ
  show S _ w0 [(0, .pointer (some ⟨b, 0, none⟩))] (MI b m :: old W :: Γ) _
  have hR8 := hok.R8
  have hR1 := hok.R1
  refine S.seq fun K1 hK1 => ?_
  refine S.region rfl ?_
  refine S.op (S.q (q_assign rfl) rfl rfl ?_)
  refine S.op (S.q (q_assign rfl) rfl rfl ?_)
  first | with_reducible refine S.nilK ?_ | refine S.nil ?_
  refine hK1 _ _ ?_
  refine S.seq fun K2 hK2 => ?_
  refine S.region rfl ?_
  refine S.op (S.q (q_move rfl) rfl rfl ?_)
  refine S.op (S.call Tryd.en42 (vs := [_]) ⟨rfl, trivial⟩ (Copy_S b m) rfl ?_)
  rintro v Θ ⟨c, rfl, rfl⟩
  refine S.op (S.q (q_assign rfl) rfl rfl ?_)
  first | with_reducible refine S.nilK ?_ | refine S.nil ?_
  refine hK2 _ _ ?_
  refine S.seq fun K3 hK3 => ?_
  refine S.region rfl ?_
  refine S.op (S.q (q_assign rfl) rfl rfl ?_)
  first | with_reducible refine S.nilK ?_ | refine S.nil ?_
  refine hK3 _ _ ?_
  refine S.seq fun K4 hK4 => ?_
  refine S.seq fun K5 hK5 => ?_
  refine S.region rfl ?_
  refine S.ent (Ent.ownNil 58 3) ?_
  show S _ w0 _ (own SV.nil 58 3 (([] : List Mv).flatMap mvC) :: _) _
  refine S.op (S.q (q_assign rfl) rfl rfl ?_)
  first | with_reducible refine S.nilK ?_ | refine S.nil ?_
  refine hK5 _ _ ?_
  refine S.block ?_
  refine S.loop (fun q ρ' Γ' => ∃ (j k : Nat) (sv : SV) (xs : List Mv) (mm : Mx), q = m.R - j ∧ j = k + 1 ∧ j ≤ m.R ∧ repUp m k = (mm, xs) ∧ MxOk mm ∧ mm.R = m.R ∧ xs.length ≤ 16 * k ∧ sv.n = xs.length ∧ ρ' = [(4, .pointer (some ⟨c, 0, none⟩)), (5, sv.v), (6, .int .i64 (j : Int))] ∧   Γ' = own sv 58 3 (xs.flatMap mvC) :: MI c mm :: MI b m :: old W :: Γ) (m := _) (ρ0 := _) (Γ0 := _) (⟨1, 0, SV.nil, [], m, rfl, rfl, by omega, rfl, hok, rfl, Nat.le_refl _, rfl, rfl, rfl⟩) (by repeat (first | exact trivial | refine ⟨rfl, ?_⟩)) Sub.ent ?_
  rintro q ρ' Γ' ⟨j, k, sv, xs, mm, hq, hjk, hj, hru, hmo, hmR, hxl, hsv, rfl, rfl⟩
  refine S.seq fun K6 hK6 => ?_
  refine S.seq fun K7 hK7 => ?_
  refine S.region rfl ?_
  refine S.op (S.q (q_move rfl) rfl rfl ?_)
  refine S.op (S.q (q_move rfl) rfl rfl ?_)
  refine S.op (S.call Tryd.en43 (vs := [_]) ⟨rfl, trivial⟩ (rowsCount_S c mm) rfl ?_)
  rintro v Θ ⟨rfl, rfl⟩
  rw [hmR]
  refine S.op (S.q (q_lt rfl rfl) rfl rfl ?_)
  first | with_reducible refine S.nilK ?_ | refine S.nil ?_
  refine hK7 _ _ ?_
  refine S.condD rfl (fun h1 => ?_) (fun h1 => ?_)
  · obtain ⟨ids, hids⟩ : ∃ ids, ids = rowIds mm j := ⟨_, rfl⟩
    have h16 := rowIds_len mm j
    rw [← hids] at h16
    have hidj : ∀ y ∈ ids, y ≤ 4294967295 := fun y hy => by
      rw [hids] at hy
      obtain ⟨x, h1, _, h3⟩ := (mem_rowIds hmo (by omega)).1 hy
      rw [← h3]
      exact hmo.id2 x h1
    have hru2 : repUp m (k + 1) = repRow j ids (mm, xs) ids.length := by rw [repUp, hru, hids, hjk]
    refine S.skip ?_
    with_reducible repeat (first | refine S.then_n ?_ | refine S.then_x ?_ | refine S.then_r ?_ | refine S.inBlock_n ?_ | refine S.inBlock_r ?_ | refine S.inBlock_x rfl ?_ | refine S.noGoto_r ?_ | refine S.noGoto_n ?_ | refine S.noGoto_x ?_)
    refine hK6 _ _ ?_
    refine S.seq fun K8 hK8 => ?_
    refine S.block ?_
    refine S.seq fun K9 hK9 => ?_
    refine S.region rfl ?_
    refine S.op (S.q (q_move rfl) rfl rfl ?_)
    refine S.op (S.q (q_move rfl) rfl rfl ?_)
    refine S.op (S.call Tryd.en17 (vs := [_, _]) ⟨rfl, rfl, trivial⟩ (Row_S c mm j hW) rfl ?_)
    rintro v Θ ⟨rv, rfl, hrv, rfl⟩
    rw [← hids] at hrv ⊢
    refine S.op (S.q (q_len Tryd.underlying34 rfl) rfl rfl ?_)
    refine S.op (S.q (q_move rfl) rfl rfl ?_)
    first | with_reducible refine S.nilK ?_ | refine S.nil ?_
    refine hK9 _ _ ?_
    refine S.block ?_
    refine S.loop (fun q2 ρ' Γ' => ∃ (p : Nat) (s2 : SV) (ys : List Mv) (m2 : Mx), q2 = ids.length - p ∧ p ≤ ids.length ∧ repRow j ids (mm, xs) p = (m2, ys) ∧ MxOk m2 ∧ m2.R = m.R ∧ ys.length ≤ 16 * k + p ∧ s2.n = ys.length ∧ ρ' = [(4, .pointer (some ⟨c, 0, none⟩)), (5, s2.v), (6, .int .i64 (j : Int)), (22, rv.v), (23, .int .i64 rv.n), (24, .int .i64 (p : Int))] ∧   Γ' = own s2 58 3 (ys.flatMap mvC) :: own rv 36 1 (idsV ids) :: MI c m2 :: MI b m :: old W :: Γ) (m := _) (ρ0 := _) (Γ0 := _) (⟨0, sv, xs, mm, rfl, by omega, rfl, hmo, hmR, by omega, hsv, rfl, rfl⟩) (by repeat (first | exact trivial | refine ⟨rfl, ?_⟩)) Sub.ent ?_
    rintro q2 ρ' Γ' ⟨p, s2, ys, m2, hq2, hp, hrr, hm2, hm2R, hyl, hs2, rfl, rfl⟩
    refine S.seq fun K10 hK10 => ?_
    refine S.region rfl ?_
    refine S.op (S.q (q_lt rfl rfl) rfl rfl ?_)
    first | with_reducible refine S.nilK ?_ | refine S.nil ?_
    refine hK10 _ _ ?_
    refine S.seq fun K11 hK11 => ?_
    refine S.condD rfl (fun h2 => ?_) (fun h2 => ?_)
    · refine S.ownSome rv (by omega) fun rb rf hra _ _ _ => ?_
      obtain ⟨y, hy⟩ := getE (show p < ids.length by omega)
      have hyd : ids.getD p 0 = y := by simp [List.getD, hy]
      have hy32 := hidj y (List.mem_of_getElem? hy)
      refine S.skip ?_
      with_reducible repeat (first | refine S.then_n ?_ | refine S.then_x ?_ | refine S.then_r ?_ | refine S.inBlock_n ?_ | refine S.inBlock_r ?_ | refine S.inBlock_x rfl ?_ | refine S.noGoto_r ?_ | refine S.noGoto_n ?_ | refine S.noGoto_x ?_)
      refine hK11 _ _ ?_
      refine S.seq fun K12 hK12 => ?_
      refine S.cut (fun ρ' Γ' => ∃ (s2' : SV) (ys' : List Mv) (m2' : Mx), repRow j ids (mm, xs) (p + 1) = (m2', ys') ∧ MxOk m2' ∧ m2'.R = m.R ∧ ys'.length ≤ 16 * k + (p + 1) ∧ s2'.n = ys'.length ∧ ρ' = [(4, .pointer (some ⟨c, 0, none⟩)), (5, s2'.v), (6, .int .i64 (j : Int)), (22, rv.v), (23, .int .i64 rv.n), (24, .int .i64 (p : Int))] ∧   Γ' = own s2' 58 3 (ys'.flatMap mvC) :: own rv 36 1 (idsV ids) :: MI c m2' :: MI b m :: old W :: Γ) ?_ ?_
      · refine S.block ?_
        refine S.seq fun K13 hK13 => ?_
        refine S.region rfl ?_
        refine S.op (S.q (q_indexO (p) Tryd.el34 rfl hra rfl rfl (by omega)) rfl rfl ?_)
        refine S.op (S.q (q_loadOw (rv) (p) Tryd.at36 rfl hra (by first | rfl | exact Nat.add_assoc _ _ _ | omega) (idsV_get hy)) rfl rfl ?_)
        refine S.op (S.q (q_assign rfl) rfl rfl ?_)
        first | with_reducible refine S.nilK ?_ | refine S.nil ?_
        refine hK13 _ _ ?_
        refine S.seq fun K14 hK14 => ?_
        refine S.region rfl ?_
        refine S.op (S.q (q_move rfl) rfl rfl ?_)
        refine S.op (S.q (q_move rfl) rfl rfl ?_)
        first | with_reducible refine S.nilK ?_ | refine S.nil ?_
        refine hK14 _ _ ?_
        refine S.block ?_
        refine S.loop (fun q3 ρ' Γ' => ∃ i : Nat, q3 = j - i ∧ i ≤ j ∧ repTry m2 y i = none ∧ ρ' = [(4, .pointer (some ⟨c, 0, none⟩)), (5, s2.v), (6, .int .i64 (j : Int)), (8, .int .u32 (y : Int)), (22, rv.v), (23, .int .i64 rv.n), (24, .int .i64 (p : Int)), (28, .int .i64 (j : Int)), (29, .int .i64 (i : Int))] ∧   Γ' = own s2 58 3 (ys.flatMap mvC) :: own rv 36 1 (idsV ids) :: MI c m2 :: MI b m :: old W :: Γ) (m := _) (ρ0 := _) (Γ0 := _) (⟨0, rfl, by omega, rfl, rfl, rfl⟩) (by repeat (first | exact trivial | refine ⟨rfl, ?_⟩)) Sub.ent ?_
        rintro q3 ρ' Γ' ⟨i, hq3, hi, htr, rfl, rfl⟩
        refine S.seq fun K15 hK15 => ?_
        refine S.region rfl ?_
        refine S.op (S.q (q_lt rfl rfl) rfl rfl ?_)
        first | with_reducible refine S.nilK ?_ | refine S.nil ?_
        refine hK15 _ _ ?_
        refine S.seq fun K16 hK16 => ?_
        refine S.condD rfl (fun h3 => ?_) (fun h3 => ?_)
        · refine S.skip ?_
          with_reducible repeat (first | refine S.then_n ?_ | refine S.then_x ?_ | refine S.then_r ?_ | refine S.inBlock_n ?_ | refine S.inBlock_r ?_ | refine S.inBlock_x rfl ?_ | refine S.noGoto_r ?_ | refine S.noGoto_n ?_ | refine S.noGoto_x ?_)
          refine hK16 _ _ ?_
          refine S.seq fun K17 hK17 => ?_
          refine S.block ?_
          refine S.seq fun K18 hK18 => ?_
          refine S.region rfl ?_
          refine S.op (S.q (q_move rfl) rfl rfl ?_)
          refine S.op (S.q (q_assign rfl) rfl rfl ?_)
          first | with_reducible refine S.nilK ?_ | refine S.nil ?_
          refine hK18 _ _ ?_
          refine S.seq fun K19 hK19 => ?_
          refine S.region rfl ?_
          refine S.op (S.q (q_move rfl) rfl rfl ?_)
          refine S.op (S.q (q_move rfl) rfl rfl ?_)
          refine S.op (S.q (q_move rfl) rfl rfl ?_)
          refine S.op (S.call Tryd.en51 (vs := [_, _, _]) ⟨rfl, rfl, rfl, trivial⟩ (move_S c m2 y i hy32 hW) rfl ?_)
          rintro v Θ ⟨rfl, rfl⟩
          refine S.op (S.q (q_move rfl) rfl rfl ?_)
          refine S.op (S.q (q_extract rfl rfl) rfl rfl ?_)
          refine S.op (S.q (q_extract rfl rfl) rfl rfl ?_)
          refine S.op (S.alloc Tryd.z58 rfl ?_)
          intro b10
          refine S.op (S.storeS (cs' := [_, _, _]) Tryd.ag58 rfl rfl rfl rfl rfl rfl ?_)
          refine S.op (S.q (q_assign rfl) rfl rfl ?_)
          first | with_reducible refine S.nilK ?_ | refine S.nil ?_
          refine hK19 _ _ ?_
          refine S.seq fun K20 hK20 => ?_
          refine S.region rfl ?_
          refine S.op (S.q (q_move rfl) rfl rfl ?_)
          first | with_reducible refine S.nilK ?_ | refine S.nil ?_
          refine hK20 _ _ ?_
          refine S.cond rfl (fun h4 => ?_) (fun h4 => ?_)
          · obtain ⟨x, m3, hv⟩ : ∃ x m3, moveR m2 y i = (some x, m3) := by
              cases hv : moveR m2 y i with
              | mk x m' =>
                rw [hv] at h4
                cases x with
                | none => cases h4
                | some x => exact ⟨x, m', rfl⟩
            have htr2 : repTry m2 y (i + 1) = some (x, m3) := by rw [repTry, htr]; simp only [hv]
            have htr3 := repTry_mono htr2 (show i + 1 ≤ j by omega)
            have hrr2 : repRow j ids (mm, xs) (p + 1) = (m3, ys ++ [x]) := by rw [repRow, hrr, hyd, htr3]
            obtain ⟨hm3, hm3R, _⟩ := repTry_some hm2 htr3
            have hm3R2 : m3.R = m.R := hm3R.trans hm2R
            rw [hv]
            simp only [mvR, Option.getD_some]
            refine S.seq fun K21 hK21 => ?_
            refine S.region rfl ?_
            refine S.op (S.q (q_move rfl) rfl rfl ?_)
            refine S.op (S.q (q_loadS [_, _, _] Tryd.ag58 rfl rfl ⟨rfl, rfl, rfl, trivial⟩) rfl rfl ?_)
            refine S.op (S.buildSlice (pvs := [(_, _)]) [_, _, _] Tryd.underlying29 Tryd.inf58 rfl rfl ⟨⟨rfl, rfl⟩, trivial⟩ rfl rfl ?_)
            intro b42
            refine S.op (S.appendOw (s := s2) (1) (mvC x) Tryd.underlying29 Tryd.inf58 rfl rfl rfl (blk_slAt (b := b42) rfl (by unfold maxLen; omega)) (by first | rfl | exact allOne_bcells _) (⟨by omega, by omega⟩) rfl ?_)
            intro s4 hs4
            refine S.op (S.q (q_assign rfl) rfl rfl ?_)
            first | with_reducible refine S.nilK ?_ | refine S.nil ?_
            refine hK21 _ _ ?_
            refine S.exit ?_
            with_reducible repeat (first | refine S.then_n ?_ | refine S.then_x ?_ | refine S.then_r ?_ | refine S.inBlock_n ?_ | refine S.inBlock_r ?_ | refine S.inBlock_x rfl ?_ | refine S.noGoto_r ?_ | refine S.noGoto_n ?_ | refine S.noGoto_x ?_)
            with_reducible refine S.inBlock_s ?_
            with_reducible repeat (first | refine S.then_n ?_ | refine S.then_x ?_ | refine S.then_r ?_ | refine S.inBlock_n ?_ | refine S.inBlock_r ?_ | refine S.inBlock_x rfl ?_ | refine S.noGoto_r ?_ | refine S.noGoto_n ?_ | refine S.noGoto_x ?_)
            with_reducible repeat (first | refine S.then_n ?_ | refine S.then_x ?_ | refine S.then_r ?_ | refine S.inBlock_n ?_ | refine S.inBlock_r ?_ | refine S.inBlock_x rfl ?_ | refine S.noGoto_r ?_ | refine S.noGoto_n ?_ | refine S.noGoto_x ?_)
            with_reducible repeat (first | refine S.then_n ?_ | refine S.then_x ?_ | refine S.then_r ?_ | refine S.inBlock_n ?_ | refine S.inBlock_r ?_ | refine S.inBlock_x rfl ?_ | refine S.noGoto_r ?_ | refine S.noGoto_n ?_ | refine S.noGoto_x ?_)
            first | (rw [flat_snoc mvC ys x]; exact S.meet ⟨s4, ys ++ [x], m3, hrr2, hm3, hm3R2, by rw [List.length_append, List.length_singleton]; omega, by rw [List.length_append, List.length_singleton]; omega, rfl, rfl⟩ ⟨rfl, rfl, rfl, rfl, rfl, rfl, trivial⟩ Sub.ent) | exact S.meet ⟨s2, ys, m2, hrr2, hm2, hm2R, by omega, hs2, rfl, rfl⟩ ⟨rfl, rfl, rfl, rfl, rfl, rfl, trivial⟩ Sub.ent
          · have htr2 : repTry m2 y (i + 1) = none ∧ (moveR m2 y i).2 = m2 := by
              cases hv : moveR m2 y i with
              | mk x m' =>
                rw [hv] at h4
                cases x with
                | some x => cases h4
                | none => exact ⟨by rw [repTry, htr]; simp only [hv], (moveR_none hv).1⟩
            rw [htr2.2]
            refine S.skip ?_
            with_reducible repeat (first | refine S.then_n ?_ | refine S.then_x ?_ | refine S.then_r ?_ | refine S.inBlock_n ?_ | refine S.inBlock_r ?_ | refine S.inBlock_x rfl ?_ | refine S.noGoto_r ?_ | refine S.noGoto_n ?_ | refine S.noGoto_x ?_)
            with_reducible repeat (first | refine S.then_n ?_ | refine S.then_x ?_ | refine S.then_r ?_ | refine S.inBlock_n ?_ | refine S.inBlock_r ?_ | refine S.inBlock_x rfl ?_ | refine S.noGoto_r ?_ | refine S.noGoto_n ?_ | refine S.noGoto_x ?_)
            refine hK17 _ _ ?_
            refine S.region rfl ?_
            refine S.op (S.q (q_add rfl rfl (inI64 (by omega) (by omega))) rfl rfl ?_)
            refine S.op (S.q (q_move rfl) rfl rfl ?_)
            first | with_reducible refine S.nilK ?_ | refine S.nil ?_
            with_reducible repeat (first | refine S.then_n ?_ | refine S.then_x ?_ | refine S.then_r ?_ | refine S.inBlock_n ?_ | refine S.inBlock_r ?_ | refine S.inBlock_x rfl ?_ | refine S.noGoto_r ?_ | refine S.noGoto_n ?_ | refine S.noGoto_x ?_)
            exact S.next (q3 - 1) (⟨i + 1, by omega, by omega, htr2.1, rfl, rfl⟩) (by omega) (by repeat (first | exact trivial | refine ⟨rfl, ?_⟩)) Sub.ent
        · have hij : i = j := by omega
          rw [hij] at htr
          have hrr2 : repRow j ids (mm, xs) (p + 1) = (m2, ys) := by rw [repRow, hrr, hyd, htr]
          refine S.exit ?_
          with_reducible repeat (first | refine S.then_n ?_ | refine S.then_x ?_ | refine S.then_r ?_ | refine S.inBlock_n ?_ | refine S.inBlock_r ?_ | refine S.inBlock_x rfl ?_ | refine S.noGoto_r ?_ | refine S.noGoto_n ?_ | refine S.noGoto_x ?_)
          with_reducible refine S.inBlock_s ?_
          with_reducible repeat (first | refine S.then_n ?_ | refine S.then_x ?_ | refine S.then_r ?_ | refine S.inBlock_n ?_ | refine S.inBlock_r ?_ | refine S.inBlock_x rfl ?_ | refine S.noGoto_r ?_ | refine S.noGoto_n ?_ | refine S.noGoto_x ?_)
          with_reducible repeat (first | refine S.then_n ?_ | refine S.then_x ?_ | refine S.then_r ?_ | refine S.inBlock_n ?_ | refine S.inBlock_r ?_ | refine S.inBlock_x rfl ?_ | refine S.noGoto_r ?_ | refine S.noGoto_n ?_ | refine S.noGoto_x ?_)
          with_reducible repeat (first | refine S.then_n ?_ | refine S.then_x ?_ | refine S.then_r ?_ | refine S.inBlock_n ?_ | refine S.inBlock_r ?_ | refine S.inBlock_x rfl ?_ | refine S.noGoto_r ?_ | refine S.noGoto_n ?_ | refine S.noGoto_x ?_)
          first | (rw [flat_snoc mvC ys x]; exact S.meet ⟨s4, ys ++ [x], m3, hrr2, hm3, hm3R2, by rw [List.length_append, List.length_singleton]; omega, by rw [List.length_append, List.length_singleton]; omega, rfl, rfl⟩ ⟨rfl, rfl, rfl, rfl, rfl, rfl, trivial⟩ Sub.ent) | exact S.meet ⟨s2, ys, m2, hrr2, hm2, hm2R, by omega, hs2, rfl, rfl⟩ ⟨rfl, rfl, rfl, rfl, rfl, rfl, trivial⟩ Sub.ent
      · rintro ρ' Γ' ⟨s2', ys', m2', hrr', hm2', hm2R', hyl', hs2', rfl, rfl⟩
        refine hK12 _ _ ?_
        refine S.region rfl ?_
        refine S.op (S.q (q_add rfl rfl (inI64 (by omega) (by omega))) rfl rfl ?_)
        refine S.op (S.q (q_move rfl) rfl rfl ?_)
        first | with_reducible refine S.nilK ?_ | refine S.nil ?_
        with_reducible repeat (first | refine S.then_n ?_ | refine S.then_x ?_ | refine S.then_r ?_ | refine S.inBlock_n ?_ | refine S.inBlock_r ?_ | refine S.inBlock_x rfl ?_ | refine S.noGoto_r ?_ | refine S.noGoto_n ?_ | refine S.noGoto_x ?_)
        exact S.next (q2 - 1) (⟨p + 1, s2', ys', m2', by omega, by omega, hrr', hm2', hm2R', hyl', hs2', rfl, rfl⟩) (by omega) (by repeat (first | exact trivial | refine ⟨rfl, ?_⟩)) Sub.ent
    · have hpl : p = ids.length := by omega
      rw [hpl] at hrr
      rw [hrr] at hru2
      refine S.exit ?_
      with_reducible repeat (first | refine S.then_n ?_ | refine S.then_x ?_ | refine S.then_r ?_ | refine S.inBlock_n ?_ | refine S.inBlock_r ?_ | refine S.inBlock_x rfl ?_ | refine S.noGoto_r ?_ | refine S.noGoto_n ?_ | refine S.noGoto_x ?_)
      with_reducible refine S.inBlock_s ?_
      with_reducible repeat (first | refine S.then_n ?_ | refine S.then_x ?_ | refine S.then_r ?_ | refine S.inBlock_n ?_ | refine S.inBlock_r ?_ | refine S.inBlock_x rfl ?_ | refine S.noGoto_r ?_ | refine S.noGoto_n ?_ | refine S.noGoto_x ?_)
      with_reducible repeat (first | refine S.then_n ?_ | refine S.then_x ?_ | refine S.then_r ?_ | refine S.inBlock_n ?_ | refine S.inBlock_r ?_ | refine S.inBlock_x rfl ?_ | refine S.noGoto_r ?_ | refine S.noGoto_n ?_ | refine S.noGoto_x ?_)
      refine hK8 _ _ ?_
      refine S.region rfl ?_
      refine S.op (S.q (q_move rfl) rfl rfl ?_)
      refine S.op (S.q (q_add rfl rfl (inI64 (by omega) (by omega))) rfl rfl ?_)
      refine S.op (S.q (q_assign rfl) rfl rfl ?_)
      first | with_reducible refine S.nilK ?_ | refine S.nil ?_
      with_reducible repeat (first | refine S.then_n ?_ | refine S.then_x ?_ | refine S.then_r ?_ | refine S.inBlock_n ?_ | refine S.inBlock_r ?_ | refine S.inBlock_x rfl ?_ | refine S.noGoto_r ?_ | refine S.noGoto_n ?_ | refine S.noGoto_x ?_)
      exact S.next (q - 1) (⟨j + 1, k + 1, s2, ys, m2, by omega, by omega, by omega, hru2, hm2, hm2R, by omega, hs2, rfl, rfl⟩) (by omega) (by repeat (first | exact trivial | refine ⟨rfl, ?_⟩)) Sub.ent
  · have hfin : repackR m = (mm, xs) := by rw [repackR, show m.R - 1 = k by omega, hru]
    refine S.exit ?_
    with_reducible repeat (first | refine S.then_n ?_ | refine S.then_x ?_ | refine S.then_r ?_ | refine S.inBlock_n ?_ | refine S.inBlock_r ?_ | refine S.inBlock_x rfl ?_ | refine S.noGoto_r ?_ | refine S.noGoto_n ?_ | refine S.noGoto_x ?_)
    with_reducible refine S.inBlock_s ?_
    with_reducible repeat (first | refine S.then_n ?_ | refine S.then_x ?_ | refine S.then_r ?_ | refine S.inBlock_n ?_ | refine S.inBlock_r ?_ | refine S.inBlock_x rfl ?_ | refine S.noGoto_r ?_ | refine S.noGoto_n ?_ | refine S.noGoto_x ?_)
    refine hK4 _ _ ?_
    refine S.seq fun K22 hK22 => ?_
    refine S.region rfl ?_
    refine S.op (S.q (q_move rfl) rfl rfl ?_)
    refine S.op (S.q (q_move rfl) rfl rfl ?_)
    refine S.op (S.q (q_assign rfl) rfl rfl ?_)
    refine S.op (S.q (q_assign rfl) rfl rfl ?_)
    first | with_reducible refine S.nilK ?_ | refine S.nil ?_
    refine hK22 _ _ ?_
    refine S.ret ?_
    with_reducible repeat (first | refine S.then_n ?_ | refine S.then_x ?_ | refine S.then_r ?_ | refine S.inBlock_n ?_ | refine S.inBlock_r ?_ | refine S.inBlock_x rfl ?_ | refine S.noGoto_r ?_ | refine S.noGoto_n ?_ | refine S.noGoto_x ?_)
    exact S.fin (rs := [_, _]) (vs := [_, _]) Tryd.results19 (⟨rfl, rfl, trivial⟩)  (⟨c, sv, rfl, by rw [hfin]; exact hsv, by rw [hfin]⟩) Sub.ent
end Go.Proofs.YtbhnbnecaejjiaaDoor
