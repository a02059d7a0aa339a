/- PlanDelays: whether anybody waits longer, if something is reserved first, is told as two plans tell it. -/
import Derived.Test.YtknpddiffellgaaPlanK
import Derived.Test.YtknpddiffellgaaLift
namespace Go.Proofs.Ytknpddiffellgaa
open Go.RowKit
set_option maxRecDepth 20000
set_option linter.unusedVariables false
/-- Of the first n: does anybody wait longer? -/
def delUp (xs ys : List St) : Nat → Bool
  | 0 => false
  | n + 1 => delUp xs ys n || decide ((xs[n]?.getD default).at_ < (ys[n]?.getD default).at_)
theorem delUp_iff (xs ys : List St) : ∀ n, delUp xs ys n = true ↔ ∃ i, i < n ∧ (xs[i]?.getD default).at_ < (ys[i]?.getD default).at_
  | 0 => ⟨fun h => (by cases h), fun ⟨i, h, _⟩ => absurd h (Nat.not_lt_zero _)⟩
  | n + 1 => by
    rw [delUp, Bool.or_eq_true, delUp_iff xs ys n, decide_eq_true_eq]
    constructor
    · rintro (⟨i, h1, h2⟩ | h)
      · exact ⟨i, by omega, h2⟩
      · exact ⟨n, by omega, h⟩
    · rintro ⟨i, h1, h2⟩
      by_cases e : i = n
      · subst e; exact .inr h2
      · exact .inl ⟨i, by omega, h2⟩
theorem delUp_all {xs ys : List St} (h : xs.length = ys.length) : delUp xs ys xs.length = delR xs ys := by
  cases hd : delR xs ys with
  | true =>
    obtain ⟨p, hp, h2⟩ := List.any_eq_true.1 hd
    obtain ⟨i, hi⟩ := List.getElem?_of_mem hp
    obtain ⟨h3, h4⟩ := List.getElem?_zip_eq_some.1 hi
    refine (delUp_iff xs ys _).2 ⟨i, (List.getElem?_eq_some_iff.1 h3).1, ?_⟩
    rw [h3, h4]
    exact of_decide_eq_true h2
  | false =>
    rw [← Bool.not_eq_true, delUp_iff]
    rintro ⟨i, h1, h2⟩
    obtain ⟨x, hx⟩ := getE h1
    obtain ⟨y, hy⟩ := getE (l := ys) (i := i) (by omega)
    rw [hx, hy] at h2
    rw [del_true hx hy h2] at hd
    cases hd
set_option maxHeartbeats 2000000 in
theorem PlanDelays_S (s0 : SV) (P : List RW) (l0 : SV) (al0 : List Ak) (ux : SV) (x : St) (len : Int) (W : World) (hP : RdP (old W) s0 P) (hA : RdS (old W) l0 al0.length 2 (al0.flatMap akC)) (hx : RdS (old W) ux x.nodes.length 1 (ints x.nodes)) : LawS 10 [s0.v, l0.v, .agg (stC ux x).toArray, .int .i64 len] W := by
  refine Spec.of_body Try.func10 rfl Try.ntmps10 rfl ?_
  intro w0 Γ
  show S _ w0 [(0, s0.v), (1, l0.v), (2, .agg (stC ux x).toArray), (3, .int .i64 len)] (old W :: Γ) _
  obtain ⟨D, hD⟩ : ∃ D, D = fewR (dat P) := ⟨_, rfl⟩
  have hsm : Sml D := by rw [hD]; exact few_sml _
  obtain ⟨al, hal⟩ : ∃ al, al = al0.take 20 := ⟨_, rfl⟩
  have hall : al.length ≤ 20 := by rw [hal, List.length_take]; omega
  refine S.rCap hx fun hxn hxc _ => ?_
  refine S.rCap hA fun hln hlc hlm => ?_
  have hT := rdTakeI hx (k := min x.nodes.length 20) (by omega)
  rw [take_min20] at hT
  have hQ : RdS (old W) ⟨ux.a, min x.nodes.length 20, ux.c⟩ (x.nodes.take 20).length 1 (ints (x.nodes.take 20)) := by
    rw [show (x.nodes.take 20).length = min x.nodes.length 20 by rw [List.length_take]; omega]
    exact hT
  have hAl := rdTakeA hA (k := min al0.length 20) (by omega)
  rw [take_min20, ← hal, show min al0.length 20 = al.length by rw [hal, List.length_take]; omega] at hAl
  obtain ⟨y, hy⟩ : ∃ y : St, y = ⟨x.at_, x.row, x.nodes.take 20, x.ok⟩ := ⟨_, rfl⟩
  obtain ⟨uy, huy⟩ : ∃ uy : SV, uy = ⟨ux.a, min x.nodes.length 20, ux.c⟩ := ⟨_, rfl⟩
  have hQy : RdS (old W) uy y.nodes.length 1 (ints y.nodes) := by rw [hy, huy]; exact hQ
  obtain ⟨A, hAA⟩ : ∃ A, A = planR D al := ⟨_, rfl⟩
  obtain ⟨B, hBB⟩ : ∃ B, B = planR (resR D y len) al := ⟨_, rfl⟩
  have hAB : A.length = B.length := by rw [hAA, hBB, planR_length, planR_length]
  have hAl2 : A.length = al.length := by rw [hAA, planR_length]
  refine S.seq fun K1 hK1 => ?_
  refine S.region rfl ?_
  refine S.op (S.box (cs := [_, _, _, _]) rfl rfl rfl ?_)
  intro b6
  refine S.op (S.q (q_assign rfl) rfl rfl ?_)
  first | with_reducible refine S.nilK ?_ | refine S.nil ?_
  refine hK1 _ _ ?_
  refine S.seq fun K2 hK2 => ?_
  refine S.seq fun K3 hK3 => ?_
  refine S.region rfl ?_
  refine S.op (S.callP Try.en11 (vs := []) trivial (fun w hs => awake_P w) rfl ?_)
  refine S.op (S.q (q_not rfl) rfl rfl ?_)
  first | with_reducible refine S.nilK ?_ | refine S.nil ?_
  refine hK3 _ _ ?_
  refine S.condF rfl ?_
  refine S.skip ?_
  with_reducible repeat (first | refine S.then_n ?_ | refine S.then_x ?_ | refine S.then_r ?_ | refine S.inBlock_n ?_ | refine S.inBlock_r ?_ | refine S.inBlock_x rfl ?_ | refine S.noGoto_r ?_ | refine S.noGoto_n ?_ | refine S.noGoto_x ?_)
  refine hK2 _ _ ?_
  refine S.seq fun K4 hK4 => ?_
  refine S.region rfl ?_
  refine S.op (S.q (q_field Try.fo27_2 rfl) rfl rfl ?_)
  refine S.op (S.q (q_load Try.at25 rfl rfl) rfl rfl ?_)
  refine S.op (S.q (q_field Try.fo27_2 rfl) rfl rfl ?_)
  refine S.op (S.q (q_load Try.at25 rfl rfl) rfl rfl ?_)
  refine S.op (S.q (q_len Try.underlying25 rfl) rfl rfl ?_)
  refine S.op (S.q (q_min (((min x.nodes.length 20 : Nat) : Int)) rfl rfl (by omega)) rfl rfl ?_)
  refine S.op (S.q (q_sliceTo (min x.nodes.length 20) Try.el25 rfl rfl rfl (by omega)) rfl rfl ?_)
  refine S.op (S.q (q_field Try.fo27_2 rfl) rfl rfl ?_)
  refine S.op (S.store (cs' := [_, _, _, _]) Try.at25 rfl rfl rfl rfl rfl ?_)
  first | with_reducible refine S.nilK ?_ | refine S.nil ?_
  refine hK4 _ _ ?_
  refine S.seq fun K5 hK5 => ?_
  refine S.region rfl ?_
  refine S.conv (blk b6 27 #[.int .i64 x.at_, .int .i64 x.row, .slice ux.a (min x.nodes.length 20) ux.c, .bool x.ok]) (show Ent _ (blk b6 27 (stC uy y).toArray :: _) by rw [hy, huy]; exact Ent.refl _) ?_
  refine S.op (S.q (q_move rfl) rfl rfl ?_)
  refine S.op (S.call Try.en20 (vs := [_]) ⟨rfl, trivial⟩ (asks_S (old W) l0 al0 hA) rfl ?_)
  rintro v Θ ⟨u0, rfl, rfl⟩
  rw [← hal]
  refine S.op (S.q (q_move rfl) rfl rfl ?_)
  refine S.op (S.q (q_extract rfl rfl) rfl rfl ?_)
  refine S.op (S.q (q_extract rfl rfl) rfl rfl ?_)
  refine S.op (S.q (q_assign rfl) rfl rfl ?_)
  refine S.op (S.q (q_assign rfl) rfl rfl ?_)
  first | with_reducible refine S.nilK ?_ | refine S.nil ?_
  refine hK5 _ _ ?_
  refine S.seq fun K6 hK6 => ?_
  refine S.draw ([old W, blk b6 27 (stC uy y).toArray]) [] Try.mixed ?_
  refine S.dr_take 0 [] rfl (by kernel_rfl) rfl rfl rfl (q_move rfl) Sub.ent ?_
  refine S.dr_take 2 [] rfl (by kernel_rfl) rfl rfl rfl (q_move rfl) Sub.ent ?_
  refine S.dr_take 4 [] rfl (by kernel_rfl) rfl rfl rfl (q_move rfl) Sub.ent ?_
  refine S.dr_take 6 [] rfl (by kernel_rfl) rfl rfl rfl (q_loadS [_, _, _, _] Try.ag27 rfl rfl ⟨rfl, rfl, rfl, rfl, trivial⟩) Sub.ent ?_
  refine S.dr_take 7 [] rfl (by kernel_rfl) rfl rfl rfl (q_move rfl) Sub.ent ?_
  refine S.dr_take 9 [] rfl (by kernel_rfl) rfl rfl rfl (q_move rfl) Sub.ent ?_
  refine S.dr_1 (i := 1) (by kernel_rfl) rfl rfl ?_
  refine  (S.call Try.en13 (vs := [_]) ⟨rfl, trivial⟩ (Few_S (old W) s0 P hP) rfl ?_)
  rintro v Θ ⟨s1, r1, rfl, hd1, rfl⟩
  rw [← hD] at hd1
  refine S.dr_k rfl Sub.ent ?_
  refine S.dr_1 (i := 3) (by kernel_rfl) rfl rfl ?_
  refine  (S.call Try.en22 (vs := [_, _]) ⟨rfl, rfl, trivial⟩ (rPlan_S (prof s1 r1) (old W) s1 r1 ⟨l0.a, al.length, l0.c⟩ al (by rw [hd1]; exact hsm) (by omega) (RdP.prof s1 r1) hAl) rfl ?_)
  rintro v Θ ⟨ua, oa, rfl, hoa, rfl⟩
  rw [hd1, ← hAA] at hoa
  refine S.dr_k rfl Sub.ent ?_
  refine S.dr_1 (i := 5) (by kernel_rfl) rfl rfl ?_
  refine  (S.call Try.en13 (vs := [_]) ⟨rfl, trivial⟩ (Few_S (old W) s0 P hP) rfl ?_)
  rintro v Θ ⟨s2, r2, rfl, hd2, rfl⟩
  rw [← hD] at hd2
  refine S.dr_k rfl Sub.ent ?_
  refine S.dr_1 (i := 8) (by kernel_rfl) rfl rfl ?_
  refine  (S.call Try.en19 (vs := [_, _, _]) ⟨rfl, rfl, rfl, trivial⟩ (rReserve_S (prof s2 r2) (old W) s2 r2 uy y len (Sml.len (by rw [hd2]; exact hsm)) (Sml.each (by rw [hd2]; exact hsm)) (RdP.prof s2 r2) hQy) rfl ?_)
  rintro v Θ ⟨s3, r3, rfl, hd3, rfl⟩
  rw [hd2] at hd3
  refine S.dr_k rfl Sub.ent ?_
  refine S.dr_1 (i := 10) (by kernel_rfl) rfl rfl ?_
  refine  (S.call Try.en22 (vs := [_, _]) ⟨rfl, rfl, trivial⟩ (rPlan_S (prof s3 r3) (old W) s3 r3 ⟨l0.a, al.length, l0.c⟩ al (by rw [hd3]; exact hsm.res _ _) (by omega) (RdP.prof s3 r3) hAl) rfl ?_)
  rintro v Θ ⟨ub, ob, rfl, hob, rfl⟩
  rw [hd3, ← hBB] at hob
  refine S.dr_k rfl Sub.ent ?_
  refine S.dr_take 11 [] rfl (by kernel_rfl) rfl rfl rfl (q_assign rfl) Sub.ent ?_
  refine S.dr_take 12 [] rfl (by kernel_rfl) rfl rfl rfl (q_assign rfl) Sub.ent ?_
  first | with_reducible refine S.dr_doneK (by kernel_rfl) ?_ | refine S.dr_done (by kernel_rfl) ?_
  refine hK6 _ _ ?_
  refine S.seq fun K7 hK7 => ?_
  refine S.region rfl ?_
  refine S.rCap (rdOwnS (u := ua) (e := 27) (os := oa)) fun hna _ _ => ?_
  refine S.rCap (rdOwnS (u := ub) (e := 27) (os := ob)) fun hnb _ _ => ?_
  have hla : oa.length = A.length := by have := congrArg List.length hoa; rwa [List.length_map] at this
  have hlb : ob.length = B.length := by have := congrArg List.length hob; rwa [List.length_map] at this
  refine S.op (S.q (q_assign rfl) rfl rfl ?_)
  first | with_reducible refine S.nilK ?_ | refine S.nil ?_
  refine hK7 _ _ ?_
  refine S.seq fun K8 hK8 => ?_
  refine S.seq fun K9 hK9 => ?_
  refine S.region rfl ?_
  refine S.op (S.q (q_move rfl) rfl rfl ?_)
  refine S.op (S.q (q_len Try.underlying47 rfl) rfl rfl ?_)
  refine S.op (S.q (q_move rfl) rfl rfl ?_)
  first | with_reducible refine S.nilK ?_ | refine S.nil ?_
  refine hK9 _ _ ?_
  refine S.block ?_
  refine S.loop (fun m ρ' Γ' => ∃ (i : Nat) (c : Bool), m + i = A.length ∧ c = delUp A B i ∧ ρ' = [(0, s0.v), (3, .int .i64 len), (6, .pointer (some ⟨b6, 0, none⟩)), (9, u0.v), (11, ua.v), (12, ub.v), (13, .bool c), (42, .int .i64 ua.n), (43, .int .i64 i)] ∧ Γ' = own ua 27 4 (oa.flatMap srC) :: own ub 27 4 (ob.flatMap srC) :: own u0 34 2 (al.flatMap akC) :: blk b6 27 (stC uy y).toArray :: old W :: Γ) (m := _) (ρ0 := _) (Γ0 := _) (⟨0, false, rfl, rfl, rfl, rfl⟩) (by repeat (first | exact trivial | refine ⟨rfl, ?_⟩)) Sub.ent ?_
  rintro m ρ' Γ' ⟨i, c, hmi, hc, rfl, rfl⟩
  refine S.seq fun K10 hK10 => ?_
  refine S.region rfl ?_
  refine S.op (S.q (q_lt rfl rfl) rfl rfl ?_)
  first | with_reducible refine S.nilK ?_ | refine S.nil ?_
  refine hK10 _ _ ?_
  refine S.seq fun K11 hK11 => ?_
  refine S.condD rfl (fun h2 => ?_) (fun h2 => ?_)
  · obtain ⟨p, hp⟩ := getE (l := oa) (i := i) (by omega)
    obtain ⟨q, hq⟩ := getE (l := ob) (i := i) (by omega)
    have hx1 : A[i]? = some p.x := by rw [← hoa, List.getElem?_map, hp]; rfl
    have hx2 : B[i]? = some q.x := by rw [← hob, List.getElem?_map, hq]; rfl
    have hstep : delUp A B (i + 1) = (c || decide (p.x.at_ < q.x.at_)) := by rw [delUp, hx1, hx2, ← hc]; rfl
    refine S.ownSome ua (by omega) fun ba fa hba _ _ _ => ?_
    refine S.ownSome ub (by omega) fun bb fb hbb _ _ _ => ?_
    refine S.skip ?_
    with_reducible repeat (first | refine S.then_n ?_ | refine S.then_x ?_ | refine S.then_r ?_ | refine S.inBlock_n ?_ | refine S.inBlock_r ?_ | refine S.inBlock_x rfl ?_ | refine S.noGoto_r ?_ | refine S.noGoto_n ?_ | refine S.noGoto_x ?_)
    refine hK11 _ _ ?_
    refine S.seq fun K12 hK12 => ?_
    refine S.cut (fun ρ' Γ' => ρ' = [(0, s0.v), (3, .int .i64 len), (6, .pointer (some ⟨b6, 0, none⟩)), (9, u0.v), (11, ua.v), (12, ub.v), (13, .bool (delUp A B (i + 1))), (42, .int .i64 ua.n), (43, .int .i64 i)] ∧ Γ' = own ua 27 4 (oa.flatMap srC) :: own ub 27 4 (ob.flatMap srC) :: own u0 34 2 (al.flatMap akC) :: blk b6 27 (stC uy y).toArray :: old W :: Γ) ?_ ?_
    · refine S.block ?_
      refine S.seq fun K13 hK13 => ?_
      refine S.region rfl ?_
      refine S.op (S.q (q_move rfl) rfl rfl ?_)
      refine S.op (S.q (q_assign rfl) rfl rfl ?_)
      first | with_reducible refine S.nilK ?_ | refine S.nil ?_
      refine hK13 _ _ ?_
      refine S.draw ([own ua 27 4 (oa.flatMap srC), own ub 27 4 (ob.flatMap srC)]) [] Try.mixed ?_
      refine S.dr_take 0 [] rfl (by kernel_rfl) rfl rfl rfl (q_move rfl) Sub.ent ?_
      refine S.dr_take 1 [] rfl (by kernel_rfl) rfl rfl rfl (q_move rfl) Sub.ent ?_
      rcases Bool.eq_false_or_eq_true (c) with hg10_1 | hg10_1
      · refine S.dr_takeN 2 [] rfl (by kernel_rfl) rfl rfl rfl (hg10_1) rfl rfl Sub.ent ?_
        refine S.dr_takeN 3 [] rfl (by kernel_rfl) rfl rfl rfl (hg10_1) rfl rfl Sub.ent ?_
        refine S.dr_takeN 4 [] rfl (by kernel_rfl) rfl rfl rfl (hg10_1) rfl rfl Sub.ent ?_
        refine S.dr_takeN 5 [] rfl (by kernel_rfl) rfl rfl rfl (hg10_1) rfl rfl Sub.ent ?_
        refine S.dr_takeN 6 [] rfl (by kernel_rfl) rfl rfl rfl (hg10_1) rfl rfl Sub.ent ?_
        refine S.dr_takeN 7 [] rfl (by kernel_rfl) rfl rfl rfl (hg10_1) rfl rfl Sub.ent ?_
        refine S.dr_takeN 8 [] rfl (by kernel_rfl) rfl rfl rfl (hg10_1) rfl rfl Sub.ent ?_
        refine S.dr_takeN 9 [] rfl (by kernel_rfl) rfl rfl rfl (hg10_1) rfl rfl Sub.ent ?_
        refine S.dr_takeN 10 [] rfl (by kernel_rfl) rfl rfl rfl (hg10_1) rfl rfl Sub.ent ?_
        refine S.dr_takeN 11 [] rfl (by kernel_rfl) rfl rfl rfl (hg10_1) rfl rfl Sub.ent ?_
        refine S.dr_takeN 12 [] rfl (by kernel_rfl) rfl rfl rfl (hg10_1) rfl rfl Sub.ent ?_
        refine S.dr_take 13 [] rfl (by kernel_rfl) rfl rfl rfl (q_pickT rfl (hg10_1) rfl) Sub.ent ?_
        refine S.dr_take 14 [] rfl (by kernel_rfl) rfl rfl rfl (q_assign rfl) Sub.ent ?_
        first | with_reducible refine S.dr_doneK (by kernel_rfl) ?_ | refine S.dr_done (by kernel_rfl) ?_
        with_reducible repeat (first | refine S.then_n ?_ | refine S.then_x ?_ | refine S.then_r ?_ | refine S.inBlock_n ?_ | refine S.inBlock_r ?_ | refine S.inBlock_x rfl ?_ | refine S.noGoto_r ?_ | refine S.noGoto_n ?_ | refine S.noGoto_x ?_)
        with_reducible repeat (first | refine S.then_n ?_ | refine S.then_x ?_ | refine S.then_r ?_ | refine S.inBlock_n ?_ | refine S.inBlock_r ?_ | refine S.inBlock_x rfl ?_ | refine S.noGoto_r ?_ | refine S.noGoto_n ?_ | refine S.noGoto_x ?_)
        first
        | (rw [hg10_1, Bool.true_or] at hstep; rw [← hstep]; exact S.meet ⟨rfl, rfl⟩ ⟨rfl, rfl, rfl, rfl, rfl, rfl, rfl, rfl, rfl, trivial⟩ Sub.ent)
        | (rw [hg10_1, Bool.false_or] at hstep; rw [← hstep]; exact S.meet ⟨rfl, rfl⟩ ⟨rfl, rfl, rfl, rfl, rfl, rfl, rfl, rfl, rfl, trivial⟩ Sub.ent)
        | exact S.meet ⟨by rw [hstep, hg10_1, Bool.true_or], rfl⟩ ⟨rfl, rfl, rfl, rfl, rfl, rfl, rfl, rfl, rfl, trivial⟩ Sub.ent
      · refine S.dr_takeY 2 [] rfl (by kernel_rfl) rfl rfl rfl (hg10_1) rfl rfl (q_move rfl) Sub.ent ?_
        refine S.dr_takeY 3 [] rfl (by kernel_rfl) rfl rfl rfl (hg10_1) rfl rfl (q_move rfl) Sub.ent ?_
        refine S.dr_takeY 4 [] rfl (by kernel_rfl) rfl rfl rfl (hg10_1) rfl rfl (q_indexO (i) Try.el47 rfl hbb rfl rfl (by omega)) Sub.ent ?_
        refine S.dr_takeY 5 [] rfl (by kernel_rfl) rfl rfl rfl (hg10_1) rfl rfl (q_field Try.fo27_0 rfl) Sub.ent ?_
        refine S.dr_takeY 6 [] rfl (by kernel_rfl) rfl rfl rfl (hg10_1) rfl rfl (q_loadOw (ub) (i * 4 + 0) Try.at3 rfl hbb (by first | rfl | exact Nat.add_assoc _ _ _ | omega) (flat_get (enc := srC) (sz := 4) (k := 0) srC_len hq rfl)) Sub.ent ?_
        refine S.dr_takeY 7 [] rfl (by kernel_rfl) rfl rfl rfl (hg10_1) rfl rfl (q_move rfl) Sub.ent ?_
        refine S.dr_takeY 8 [] rfl (by kernel_rfl) rfl rfl rfl (hg10_1) rfl rfl (q_move rfl) Sub.ent ?_
        refine S.dr_takeY 9 [] rfl (by kernel_rfl) rfl rfl rfl (hg10_1) rfl rfl (q_indexO (i) Try.el47 rfl hba rfl rfl (by omega)) Sub.ent ?_
        refine S.dr_takeY 10 [] rfl (by kernel_rfl) rfl rfl rfl (hg10_1) rfl rfl (q_field Try.fo27_0 rfl) Sub.ent ?_
        refine S.dr_takeY 11 [] rfl (by kernel_rfl) rfl rfl rfl (hg10_1) rfl rfl (q_loadOw (ua) (i * 4 + 0) Try.at3 rfl hba (by first | rfl | exact Nat.add_assoc _ _ _ | omega) (flat_get (enc := srC) (sz := 4) (k := 0) srC_len hp rfl)) Sub.ent ?_
        refine S.dr_takeY 12 [] rfl (by kernel_rfl) rfl rfl rfl (hg10_1) rfl rfl (q_gt rfl rfl) Sub.ent ?_
        refine S.dr_take 13 [] rfl (by kernel_rfl) rfl rfl rfl (q_pickF rfl (hg10_1) rfl) Sub.ent ?_
        refine S.dr_take 14 [] rfl (by kernel_rfl) rfl rfl rfl (q_assign rfl) Sub.ent ?_
        first | with_reducible refine S.dr_doneK (by kernel_rfl) ?_ | refine S.dr_done (by kernel_rfl) ?_
        with_reducible repeat (first | refine S.then_n ?_ | refine S.then_x ?_ | refine S.then_r ?_ | refine S.inBlock_n ?_ | refine S.inBlock_r ?_ | refine S.inBlock_x rfl ?_ | refine S.noGoto_r ?_ | refine S.noGoto_n ?_ | refine S.noGoto_x ?_)
        with_reducible repeat (first | refine S.then_n ?_ | refine S.then_x ?_ | refine S.then_r ?_ | refine S.inBlock_n ?_ | refine S.inBlock_r ?_ | refine S.inBlock_x rfl ?_ | refine S.noGoto_r ?_ | refine S.noGoto_n ?_ | refine S.noGoto_x ?_)
        first
        | (rw [hg10_1, Bool.true_or] at hstep; rw [← hstep]; exact S.meet ⟨rfl, rfl⟩ ⟨rfl, rfl, rfl, rfl, rfl, rfl, rfl, rfl, rfl, trivial⟩ Sub.ent)
        | (rw [hg10_1, Bool.false_or] at hstep; rw [← hstep]; exact S.meet ⟨rfl, rfl⟩ ⟨rfl, rfl, rfl, rfl, rfl, rfl, rfl, rfl, rfl, trivial⟩ Sub.ent)
        | exact S.meet ⟨by rw [hstep, hg10_1, Bool.true_or], rfl⟩ ⟨rfl, rfl, rfl, rfl, rfl, rfl, rfl, rfl, rfl, trivial⟩ Sub.ent
    · rintro ρ' Γ' ⟨rfl, rfl⟩
      refine hK12 _ _ ?_
      refine S.region rfl ?_
      refine S.op (S.q (q_add rfl rfl (inI64 (by omega) (by omega))) rfl rfl ?_)
      refine S.op (S.q (q_move rfl) rfl rfl ?_)
      first | with_reducible refine S.nilK ?_ | refine S.nil ?_
      with_reducible repeat (first | refine S.then_n ?_ | refine S.then_x ?_ | refine S.then_r ?_ | refine S.inBlock_n ?_ | refine S.inBlock_r ?_ | refine S.inBlock_x rfl ?_ | refine S.noGoto_r ?_ | refine S.noGoto_n ?_ | refine S.noGoto_x ?_)
      exact S.next (m - 1) (⟨i + 1, delUp A B (i + 1), by omega, rfl, rfl, rfl⟩) (by omega) (by repeat (first | exact trivial | refine ⟨rfl, ?_⟩)) Sub.ent
  · obtain rfl : i = A.length := by omega
    rw [delUp_all hAB] at hc
    refine S.rCap (show RdS (own u0 34 2 (al.flatMap akC)) u0 u0.n 2 (al.flatMap akC) from RdS.own) fun _ _ _ => ?_
    refine S.ownLen u0 fun hul huc _ => ?_
    rw [flat_length akC_len] at hul
    have hRal : RdS (own u0 34 2 (al.flatMap akC)) u0 al.length 2 (al.flatMap akC) := by rw [show al.length = u0.n by omega]; exact RdS.own
    refine S.exit ?_
    with_reducible repeat (first | refine S.then_n ?_ | refine S.then_x ?_ | refine S.then_r ?_ | refine S.inBlock_n ?_ | refine S.inBlock_r ?_ | refine S.inBlock_x rfl ?_ | refine S.noGoto_r ?_ | refine S.noGoto_n ?_ | refine S.noGoto_x ?_)
    with_reducible refine S.inBlock_s ?_
    with_reducible repeat (first | refine S.then_n ?_ | refine S.then_x ?_ | refine S.then_r ?_ | refine S.inBlock_n ?_ | refine S.inBlock_r ?_ | refine S.inBlock_x rfl ?_ | refine S.noGoto_r ?_ | refine S.noGoto_n ?_ | refine S.noGoto_x ?_)
    refine hK8 _ _ ?_
    refine S.seq fun K14 hK14 => ?_
    refine S.draw ([old W, own u0 34 2 (al.flatMap akC), blk b6 27 (stC uy y).toArray]) [] Try.mixed ?_
    refine S.dr_take 0 [] rfl (by kernel_rfl) rfl rfl rfl (q_move rfl) Sub.ent ?_
    refine S.dr_take 2 [] rfl (by kernel_rfl) rfl rfl rfl (q_move rfl) Sub.ent ?_
    refine S.dr_take 3 [] rfl (by kernel_rfl) rfl rfl rfl (q_loadS [_, _, _, _] Try.ag27 rfl rfl ⟨rfl, rfl, rfl, rfl, trivial⟩) Sub.ent ?_
    refine S.dr_take 4 [] rfl (by kernel_rfl) rfl rfl rfl (q_move rfl) Sub.ent ?_
    refine S.dr_take 6 [] rfl (by kernel_rfl) rfl rfl rfl (q_move rfl) Sub.ent ?_
    refine S.dr_1 (i := 1) (by kernel_rfl) rfl rfl ?_
    refine  (S.call Try.en12 (vs := [_]) ⟨rfl, trivial⟩ (profile_S (old W) s0 P hP) rfl ?_)
    rintro v Θ ⟨s4, r4, rfl, hd4, rfl⟩
    rw [← hD] at hd4
    refine S.dr_k rfl Sub.ent ?_
    refine S.dr_1 (i := 5) (by kernel_rfl) rfl rfl ?_
    refine  (S.call Try.en24 (vs := [_, _, _, _]) ⟨rfl, rfl, rfl, rfl, trivial⟩ (Delays_S (prof s4 r4) (own u0 34 2 (al.flatMap akC)) (old W) s4 r4 u0 al uy y len (by rw [hd4]; exact hsm) (by omega) (RdP.prof s4 r4) hRal hQy) rfl ?_)
    rintro v Θ ⟨rfl, rfl⟩
    rw [hd4, ← hAA, ← hBB]
    refine S.dr_k rfl Sub.ent ?_
    refine S.dr_take 7 [] rfl (by kernel_rfl) rfl rfl rfl (q_eqB Try.underlying4 rfl rfl) Sub.ent ?_
    refine S.dr_take 8 [] rfl (by kernel_rfl) rfl rfl rfl (q_assign rfl) Sub.ent ?_
    first | with_reducible refine S.dr_doneK (by kernel_rfl) ?_ | refine S.dr_done (by kernel_rfl) ?_
    refine hK14 _ _ ?_
    refine S.ret ?_
    with_reducible repeat (first | refine S.then_n ?_ | refine S.then_x ?_ | refine S.then_r ?_ | refine S.inBlock_n ?_ | refine S.inBlock_r ?_ | refine S.inBlock_x rfl ?_ | refine S.noGoto_r ?_ | refine S.noGoto_n ?_ | refine S.noGoto_x ?_)
    exact S.fin (rs := [_]) (vs := [_]) Try.results10 (⟨rfl, trivial⟩)  (⟨by simp only [resV]; rw [hc]; simp, rfl⟩) Sub.ent
open Go.ChangeShapes Go.WideShapes Go.ChangeAt
theorem PlanDelays_law {H : Type} (enc : TypeId × Value → H) : LawWalk enc 10 Try.f10 := by
  intro W base args ds before hval hA _ _
  rw [Try.params10] at hA hval
  obtain ⟨v0, vs0, d0, ds0, p0, q0, hargs, rfl, rfl, h0, r0⟩ := trodAll_cons hA
  obtain ⟨v1, vs1, d1, ds1, p1, q1, rfl, rfl, rfl, h1, r1⟩ := trodAll_cons r0
  obtain ⟨v2, vs2, d2, ds2, p2, q2, rfl, rfl, rfl, h2, r2⟩ := trodAll_cons r1
  obtain ⟨v3, vs3, d3, ds3, p3, q3, rfl, rfl, rfl, h3, r3⟩ := trodAll_cons r2
  obtain ⟨rfl, rfl, rfl⟩ := trodAll_nil r3
  obtain rfl : args = #[v0, v1, v2, v3] := by cases args; simp_all
  obtain ⟨s0, P, e0, hP⟩ := rd_prof (arg_slice 4 Try.underlying22 (by kernel_rfl) (hval 0 22 v0 rfl rfl) h0)
  simp only [List.cons.injEq, and_true] at e0
  subst e0
  obtain ⟨l0, al0, e1, hAl⟩ := rd_asks (arg_slice 4 Try.underlying41 (by kernel_rfl) (hval 1 41 v1 rfl rfl) h1)
  simp only [List.cons.injEq, and_true] at e1
  subst e1
  obtain ⟨cs2, rfl, hcs2⟩ := arg_struct 5 Try.underlying27 (by kernel_rfl) (hval 2 27 v2 rfl rfl) h2
  obtain ⟨ux, x, rfl, hx⟩ := rd_start hcs2
  obtain ⟨len, rfl, _⟩ := arg_int Try.underlying3 (hval 3 3 v3 rfl rfl) h3
  exact law_run (PlanDelays_S s0 P l0 al0 ux x len W hP hAl hx)
set_option maxRecDepth 100000 in
theorem PlanDelays_lifted (os : Os) (started : os.Started) (H : Type) (enc : TypeId × Value → H) :
    ReturnsInHanded {} Try.checked os 10 .any (Rows.planDelaysSpec.pre6 enc Try.prog Try.f10 Rows.planDelaysRow.domain false) (Rows.planDelaysSpec.post enc Try.prog Try.f10 false true false false) :=
  lift_true started Try.func10 (by kernel_rfl)
    (ChangeSpec.witness6 (enc := enc) (C := Try.checked) false ⟨#[], #[.slice none 0 0, .slice none 0 0, .agg #[.int .i64 0, .int .i64 0, .slice none 0 0, .bool false], .int .i64 0], []⟩ 8 (by kernel_rfl) (by kernel_rfl) (by kernel_rfl) (by kernel_rfl))
    rfl rfl (by kernel_rfl) (fun ds h => by match ds, h with | [a0, a1, a2, a3], _ => rfl) (PlanDelays_law enc)
theorem PlanDelays_over : Rows.planDelaysRow.holds Try.pinned (OpenSpec.ofChange Rows.planDelaysSpec) :=
  OpenClaim.holds_of_wide 10 Try.f10 rfl rfl rfl rfl rfl rfl rfl ⟨rfl, rfl, rfl, rfl, rfl⟩ rfl rfl rfl rfl rfl (by kernel_rfl) Try.func10 (by kernel_rfl)
    (of_decide_eq_true (by kernel_rfl)) (by unfold Func.isWrapper; rw [if_neg (of_decide_eq_false (by kernel_rfl))]; exact ⟨rfl, rfl⟩)
    (fun os started H enc _ => PlanDelays_lifted os started H enc)
theorem PlanDelays_holds : Rows.PlanDelaysSaid := PlanDelays_over
#print axioms PlanDelays_holds
end Go.Proofs.Ytknpddiffellgaa
