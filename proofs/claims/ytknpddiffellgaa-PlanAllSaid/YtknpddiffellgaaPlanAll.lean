/- PlanAll: of any profile and any asks it is told where each starts, and who may start now. -/
import Derived.Test.YtknpddiffellgaaPlanK
import Derived.Test.YtknpddiffellgaaLift
namespace Go.Proofs.Ytknpddiffellgaa
open Go.RowKit
set_option maxRecDepth 20000
set_option linter.unusedVariables false
theorem rdSrB {os : List SR} {i : Nat} {o : SR} (h : os[i]? = some o) : RdS (alls os srB) o.v o.x.nodes.length 1 (ints o.x.nodes) := RdS.alls h rdOwnI
set_option maxHeartbeats 2000000 in
theorem PlanAll_S (s0 : SV) (P : List RW) (l0 : SV) (al0 : List Ak) (W : World) (hP : RdP (old W) s0 P) (hA : RdS (old W) l0 al0.length 2 (al0.flatMap akC)) : LawS 4 [s0.v, l0.v] W := by
  refine Spec.of_body Try.func4 rfl Try.ntmps4 rfl ?_
  intro w0 Γ
  show S _ w0 [(0, s0.v), (1, l0.v)] (old W :: Γ) _
  obtain ⟨D, hD⟩ : ∃ D, D = fewR (dat P) := ⟨_, rfl⟩
  have hsm : Sml D := by rw [hD]; exact few_sml _
  obtain ⟨al, hal⟩ : ∃ al, al = al0.take 20 := ⟨_, rfl⟩
  have hall : al.length ≤ 20 := by rw [hal, List.length_take]; omega
  have hAl := rdTakeA hA (k := min al0.length 20) (by omega)
  rw [take_min20, ← hal, show min al0.length 20 = al.length by rw [hal, List.length_take]; omega] at hAl
  obtain ⟨A, hAA⟩ : ∃ A, A = planR D al := ⟨_, rfl⟩
  have hAl2 : A.length = al.length := by rw [hAA, planR_length]
  refine S.seq fun K1 hK1 => ?_
  refine S.region rfl ?_
  refine S.op (S.q (q_assign rfl) rfl rfl ?_)
  first | with_reducible refine S.nilK ?_ | refine S.nil ?_
  refine hK1 _ _ ?_
  refine S.seq fun K2 hK2 => ?_
  refine S.seq fun K3 hK3 => ?_
  refine S.region rfl ?_
  refine S.op (S.callP Try.en11 (vs := []) trivial (fun w hs => awake_P w) rfl ?_)
  refine S.op (S.q (q_not rfl) rfl rfl ?_)
  first | with_reducible refine S.nilK ?_ | refine S.nil ?_
  refine hK3 _ _ ?_
  refine S.condF rfl ?_
  refine S.skip ?_
  with_reducible repeat (first | refine S.then_n ?_ | refine S.then_x ?_ | refine S.then_r ?_ | refine S.inBlock_n ?_ | refine S.inBlock_r ?_ | refine S.inBlock_x rfl ?_ | refine S.noGoto_r ?_ | refine S.noGoto_n ?_ | refine S.noGoto_x ?_)
  refine hK2 _ _ ?_
  refine S.seq fun K4 hK4 => ?_
  refine S.region rfl ?_
  refine S.op (S.q (q_move rfl) rfl rfl ?_)
  refine S.op (S.call Try.en20 (vs := [_]) ⟨rfl, trivial⟩ (asks_S (old W) l0 al0 hA) rfl ?_)
  rintro v Θ ⟨u0, rfl, rfl⟩
  rw [← hal]
  refine S.ownLen u0 fun hul huc _ => ?_
  rw [flat_length akC_len] at hul
  have hRal : RdS (own u0 34 2 (al.flatMap akC)) u0 al.length 2 (al.flatMap akC) := by rw [show al.length = u0.n by omega]; exact RdS.own
  refine S.op (S.q (q_move rfl) rfl rfl ?_)
  refine S.op (S.q (q_extract rfl rfl) rfl rfl ?_)
  refine S.op (S.q (q_extract rfl rfl) rfl rfl ?_)
  refine S.op (S.q (q_assign rfl) rfl rfl ?_)
  refine S.op (S.q (q_assign rfl) rfl rfl ?_)
  first | with_reducible refine S.nilK ?_ | refine S.nil ?_
  refine hK4 _ _ ?_
  refine S.seq fun K5 hK5 => ?_
  refine S.region rfl ?_
  refine S.op (S.q (q_move rfl) rfl rfl ?_)
  refine S.op (S.call Try.en12 (vs := [_]) ⟨rfl, trivial⟩ (profile_S (old W) s0 P hP) rfl ?_)
  rintro v Θ ⟨s1, r1, rfl, hd1, rfl⟩
  rw [← hD] at hd1
  refine S.op (S.q (q_move rfl) rfl rfl ?_)
  refine S.op (S.call Try.en21 (vs := [_, _]) ⟨rfl, rfl, trivial⟩ (Plan_S (prof s1 r1) (own u0 34 2 (al.flatMap akC)) s1 r1 u0 al (by rw [hd1]; exact hsm) (by omega) (RdP.prof s1 r1) hRal) rfl ?_)
  rintro v Θ ⟨ua, oa, rfl, hoa, rfl⟩
  rw [hd1, ← hAA] at hoa
  refine S.op (S.q (q_move rfl) rfl rfl ?_)
  refine S.op (S.call Try.en13 (vs := [_]) ⟨rfl, trivial⟩ (Few_S (old W) s0 P hP) rfl ?_)
  rintro v Θ ⟨s2, r2, rfl, hd2, rfl⟩
  rw [← hD] at hd2
  refine S.op (S.q (q_move rfl) rfl rfl ?_)
  refine S.op (S.call Try.en22 (vs := [_, _]) ⟨rfl, rfl, trivial⟩ (rPlan_S (prof s2 r2) (old W) s2 r2 ⟨l0.a, al.length, l0.c⟩ al (by rw [hd2]; exact hsm) (by omega) (RdP.prof s2 r2) hAl) rfl ?_)
  rintro v Θ ⟨ub, ob, rfl, hob, rfl⟩
  rw [hd2, ← hAA] at hob
  refine S.op (S.q (q_assign rfl) rfl rfl ?_)
  refine S.op (S.q (q_assign rfl) rfl rfl ?_)
  first | with_reducible refine S.nilK ?_ | refine S.nil ?_
  refine hK5 _ _ ?_
  refine S.seq fun K6 hK6 => ?_
  refine S.seq fun K7 hK7 => ?_
  refine S.region rfl ?_
  refine S.rCap (rdOwnS (u := ua) (e := 32) (os := oa)) fun hna _ _ => ?_
  refine S.rCap (rdOwnS (u := ub) (e := 27) (os := ob)) fun hnb _ _ => ?_
  have hla : oa.length = A.length := by have := congrArg List.length hoa; rwa [List.length_map] at this
  have hlb : ob.length = A.length := by have := congrArg List.length hob; rwa [List.length_map] at this
  refine S.op (S.q (q_move rfl) rfl rfl ?_)
  refine S.op (S.q (q_len Try.underlying45 rfl) rfl rfl ?_)
  refine S.op (S.q (q_move rfl) rfl rfl ?_)
  refine S.op (S.q (q_len Try.underlying47 rfl) rfl rfl ?_)
  refine S.op (S.q (q_ne rfl rfl) rfl rfl ?_)
  first | with_reducible refine S.nilK ?_ | refine S.nil ?_
  refine hK7 _ _ ?_
  refine S.condD rfl (fun h2 => ?_) (fun h2 => ?_)
  · exact absurd (show ((ua.n : Nat) : Int) = ub.n by omega) h2
  · refine S.skip ?_
    with_reducible repeat (first | refine S.then_n ?_ | refine S.then_x ?_ | refine S.then_r ?_ | refine S.inBlock_n ?_ | refine S.inBlock_r ?_ | refine S.inBlock_x rfl ?_ | refine S.noGoto_r ?_ | refine S.noGoto_n ?_ | refine S.noGoto_x ?_)
    refine hK6 _ _ ?_
    refine S.seq fun K8 hK8 => ?_
    refine S.region rfl ?_
    refine S.ent (show Ent _ (own SV.nil 3 1 (ints (nowT A 0)) :: _) from Ent.ownNil 3 1) ?_
    refine S.op (S.q (q_assign rfl) rfl rfl ?_)
    first | with_reducible refine S.nilK ?_ | refine S.nil ?_
    refine hK8 _ _ ?_
    refine S.seq fun K9 hK9 => ?_
    refine S.seq fun K10 hK10 => ?_
    refine S.region rfl ?_
    refine S.op (S.q (q_move rfl) rfl rfl ?_)
    refine S.op (S.q (q_len Try.underlying45 rfl) rfl rfl ?_)
    refine S.op (S.q (q_move rfl) rfl rfl ?_)
    first | with_reducible refine S.nilK ?_ | refine S.nil ?_
    refine hK10 _ _ ?_
    refine S.block ?_
    refine S.loop (fun m ρ' Γ' => ∃ (i : Nat) (nv : SV), m + i = A.length ∧ ρ' = [(0, s0.v), (5, u0.v), (7, ua.v), (8, ub.v), (9, nv.v), (34, .int .i64 ua.n), (35, .int .i64 i)] ∧ Γ' = own nv 3 1 (ints (nowT A i)) :: own ua 32 4 (oa.flatMap srC) :: own ub 27 4 (ob.flatMap srC) :: alls oa srB :: alls ob srB :: own u0 34 2 (al.flatMap akC) :: old W :: Γ) (m := _) (ρ0 := _) (Γ0 := _) (⟨0, SV.nil, rfl, rfl, rfl⟩) (by repeat (first | exact trivial | refine ⟨rfl, ?_⟩)) Sub.ent ?_
    rintro m ρ' Γ' ⟨i, nv, hmi, rfl, rfl⟩
    refine S.ownLen nv fun hnl _ _ => ?_
    rw [List.length_map, Nat.mul_one] at hnl
    have hnt := nowT_len A i
    refine S.seq fun K11 hK11 => ?_
    refine S.region rfl ?_
    refine S.op (S.q (q_lt rfl rfl) rfl rfl ?_)
    first | with_reducible refine S.nilK ?_ | refine S.nil ?_
    refine hK11 _ _ ?_
    refine S.seq fun K12 hK12 => ?_
    refine S.condD rfl (fun h3 => ?_) (fun h3 => ?_)
    · obtain ⟨x, hx⟩ := getE (l := oa) (i := i) (by omega)
      obtain ⟨y, hy⟩ := getE (l := ob) (i := i) (by omega)
      have hx1 : A[i]? = some x.x := by rw [← hoa, List.getElem?_map, hx]; rfl
      have hx2 : A[i]? = some y.x := by rw [← hob, List.getElem?_map, hy]; rfl
      have hxy : x.x = y.x := Option.some.inj (hx1.symm.trans hx2)
      have hsucc : nowT A (i + 1) = nowT A i ++ if (y.x.ok && decide (y.x.at_ = 0)) = true then [(i : Int)] else [] := by rw [nowT, hx2]
      refine S.ownSome ua (by omega) fun ba fa hba _ _ _ => ?_
      refine S.ownSome ub (by omega) fun bb fb hbb _ _ _ => ?_
      refine S.skip ?_
      with_reducible repeat (first | refine S.then_n ?_ | refine S.then_x ?_ | refine S.then_r ?_ | refine S.inBlock_n ?_ | refine S.inBlock_r ?_ | refine S.inBlock_x rfl ?_ | refine S.noGoto_r ?_ | refine S.noGoto_n ?_ | refine S.noGoto_x ?_)
      refine hK12 _ _ ?_
      refine S.seq fun K13 hK13 => ?_
      refine S.cut (fun ρ' Γ' => ∃ (u9 : SV), ρ' = [(0, s0.v), (5, u0.v), (7, ua.v), (8, ub.v), (9, u9.v), (34, .int .i64 ua.n), (35, .int .i64 i)] ∧ Γ' = own u9 3 1 (ints (nowT A (i + 1))) :: own ua 32 4 (oa.flatMap srC) :: own ub 27 4 (ob.flatMap srC) :: alls oa srB :: alls ob srB :: own u0 34 2 (al.flatMap akC) :: old W :: Γ) ?_ ?_
      · refine S.block ?_
        refine S.seq fun K14 hK14 => ?_
        refine S.region rfl ?_
        refine S.op (S.q (q_move rfl) rfl rfl ?_)
        refine S.op (S.q (q_assign rfl) rfl rfl ?_)
        first | with_reducible refine S.nilK ?_ | refine S.nil ?_
        refine hK14 _ _ ?_
        refine S.seq fun K15 hK15 => ?_
        refine S.seq fun K16 hK16 => ?_
        refine S.draw ([own ua 32 4 (oa.flatMap srC), own ub 27 4 (ob.flatMap srC), alls oa srB, alls ob srB]) [] Try.mixed ?_
        refine S.dr_take 0 [] rfl (by kernel_rfl) rfl rfl rfl (q_move rfl) Sub.ent ?_
        refine S.dr_take 1 [] rfl (by kernel_rfl) rfl rfl rfl (q_move rfl) Sub.ent ?_
        refine S.dr_take 2 [] rfl (by kernel_rfl) rfl rfl rfl (q_indexO (i) Try.el45 rfl hba rfl rfl (by omega)) Sub.ent ?_
        refine S.dr_take 3 [] rfl (by kernel_rfl) rfl rfl rfl (q_loadOwS (ua) (i * 4) [_, _, _, _] Try.ag32 rfl hba (by first | rfl | exact Nat.add_assoc _ _ _ | omega) rfl (flat_seg (enc := srC) (sz := 4) srC_len hx)) Sub.ent ?_
        refine S.dr_take 4 [] rfl (by kernel_rfl) rfl rfl rfl (q_move rfl) Sub.ent ?_
        refine S.dr_take 5 [] rfl (by kernel_rfl) rfl rfl rfl (q_move rfl) Sub.ent ?_
        refine S.dr_take 6 [] rfl (by kernel_rfl) rfl rfl rfl (q_indexO (i) Try.el47 rfl hbb rfl rfl (by omega)) Sub.ent ?_
        refine S.dr_take 7 [] rfl (by kernel_rfl) rfl rfl rfl (q_loadOwS (ub) (i * 4) [_, _, _, _] Try.ag27 rfl hbb (by first | rfl | exact Nat.add_assoc _ _ _ | omega) rfl (flat_seg (enc := srC) (sz := 4) srC_len hy)) Sub.ent ?_
        refine S.dr_1 (i := 8) (by kernel_rfl) rfl rfl ?_
        refine  (S.call Try.en16 (vs := [_, _]) ⟨rfl, rfl, trivial⟩ (Same_S (alls oa srB) (alls ob srB) x.v y.v x.x y.x (rdSrB hx) (rdSrB hy)) rfl ?_)
        rintro v Θ ⟨rfl, rfl⟩
        rw [decide_eq_true hxy]
        refine S.dr_k rfl Sub.ent ?_
        refine S.dr_take 9 [] rfl (by kernel_rfl) rfl rfl rfl (q_not rfl) Sub.ent ?_
        first | with_reducible refine S.dr_doneK (by kernel_rfl) ?_ | refine S.dr_done (by kernel_rfl) ?_
        refine hK16 _ _ ?_
        refine S.condF rfl ?_
        refine S.skip ?_
        with_reducible repeat (first | refine S.then_n ?_ | refine S.then_x ?_ | refine S.then_r ?_ | refine S.inBlock_n ?_ | refine S.inBlock_r ?_ | refine S.inBlock_x rfl ?_ | refine S.noGoto_r ?_ | refine S.noGoto_n ?_ | refine S.noGoto_x ?_)
        refine hK15 _ _ ?_
        refine S.seq fun K17 hK17 => ?_
        refine S.cut (fun ρ' Γ' => ∃ c : Bool, c = (y.x.ok && decide (y.x.at_ = 0)) ∧ ρ' = [(0, s0.v), (5, u0.v), (7, ua.v), (8, ub.v), (9, nv.v), (10, .int .i64 i), (34, .int .i64 ua.n), (35, .int .i64 i), (60, .bool c)] ∧ Γ' = own nv 3 1 (ints (nowT A i)) :: own ua 32 4 (oa.flatMap srC) :: own ub 27 4 (ob.flatMap srC) :: alls oa srB :: alls ob srB :: own u0 34 2 (al.flatMap akC) :: old W :: Γ) ?_ ?_
        · refine S.regionG ?_
          refine S.g_op rfl (S.q (q_move rfl) rfl rfl ?_)
          refine S.g_op rfl (S.q (q_move rfl) rfl rfl ?_)
          refine S.g_op rfl (S.q (q_indexO (i) Try.el47 rfl hbb rfl rfl (by omega)) rfl rfl ?_)
          refine S.g_op rfl (S.q (q_field Try.fo27_3 rfl) rfl rfl ?_)
          refine S.g_op rfl (S.q (q_loadOw (ub) (i * 4 + 3) Try.at4 rfl hbb (by first | rfl | exact Nat.add_assoc _ _ _ | omega) (flat_get (enc := srC) (sz := 4) (k := 3) srC_len hy rfl)) rfl rfl ?_)
          refine S.g_op rfl (S.q (q_move rfl) rfl rfl ?_)
          rcases Bool.eq_false_or_eq_true (y.x.ok) with hg13_5 | hg13_5
          · refine S.g_yes rfl rfl rfl (hg13_5) (S.q (q_move rfl) rfl rfl ?_)
            refine S.g_yes rfl rfl rfl (hg13_5) (S.q (q_move rfl) rfl rfl ?_)
            refine S.g_yes rfl rfl rfl (hg13_5) (S.q (q_indexO (i) Try.el47 rfl hbb rfl rfl (by omega)) rfl rfl ?_)
            refine S.g_yes rfl rfl rfl (hg13_5) (S.q (q_field Try.fo27_0 rfl) rfl rfl ?_)
            refine S.g_yes rfl rfl rfl (hg13_5) (S.q (q_loadOw (ub) (i * 4 + 0) Try.at3 rfl hbb (by first | rfl | exact Nat.add_assoc _ _ _ | omega) (flat_get (enc := srC) (sz := 4) (k := 0) srC_len hy rfl)) rfl rfl ?_)
            refine S.g_yes rfl rfl rfl (hg13_5) (S.q (q_eq rfl rfl) rfl rfl ?_)
            refine S.g_op rfl (S.q (q_pickT rfl (hg13_5) rfl) rfl rfl ?_)
            first | with_reducible refine S.g_nilK ?_ | refine S.g_nil ?_
            with_reducible repeat (first | refine S.then_n ?_ | refine S.then_x ?_ | refine S.then_r ?_ | refine S.inBlock_n ?_ | refine S.inBlock_r ?_ | refine S.inBlock_x rfl ?_ | refine S.noGoto_r ?_ | refine S.noGoto_n ?_ | refine S.noGoto_x ?_)
            first | exact S.meet ⟨_, by rw [hg13_5]; rfl, rfl, rfl⟩ ⟨rfl, rfl, rfl, rfl, rfl, rfl, rfl, rfl, rfl, trivial⟩ Sub.ent | exact S.meet ⟨_, by rw [hg13_5, Bool.true_and], rfl, rfl⟩ ⟨rfl, rfl, rfl, rfl, rfl, rfl, rfl, rfl, rfl, trivial⟩ Sub.ent
          · refine S.g_no rfl rfl rfl (hg13_5) rfl rfl ?_
            refine S.g_no rfl rfl rfl (hg13_5) rfl rfl ?_
            refine S.g_no rfl rfl rfl (hg13_5) rfl rfl ?_
            refine S.g_no rfl rfl rfl (hg13_5) rfl rfl ?_
            refine S.g_no rfl rfl rfl (hg13_5) rfl rfl ?_
            refine S.g_no rfl rfl rfl (hg13_5) rfl rfl ?_
            refine S.g_op rfl (S.q (q_pickF rfl (hg13_5) rfl) rfl rfl ?_)
            first | with_reducible refine S.g_nilK ?_ | refine S.g_nil ?_
            with_reducible repeat (first | refine S.then_n ?_ | refine S.then_x ?_ | refine S.then_r ?_ | refine S.inBlock_n ?_ | refine S.inBlock_r ?_ | refine S.inBlock_x rfl ?_ | refine S.noGoto_r ?_ | refine S.noGoto_n ?_ | refine S.noGoto_x ?_)
            first | exact S.meet ⟨_, by rw [hg13_5]; rfl, rfl, rfl⟩ ⟨rfl, rfl, rfl, rfl, rfl, rfl, rfl, rfl, rfl, trivial⟩ Sub.ent | exact S.meet ⟨_, by rw [hg13_5, Bool.true_and], rfl, rfl⟩ ⟨rfl, rfl, rfl, rfl, rfl, rfl, rfl, rfl, rfl, trivial⟩ Sub.ent
        · rintro ρ' Γ' ⟨c, hc, rfl, rfl⟩
          refine hK17 _ _ ?_
          refine S.cond rfl (fun h5 => ?_) (fun h5 => ?_)
          · rw [← hc, h5, if_pos rfl] at hsucc
            refine S.region rfl ?_
            refine S.op (S.q (q_move rfl) rfl rfl ?_)
            refine S.op (S.q (q_move rfl) rfl rfl ?_)
            refine S.op (S.buildSlice (pvs := [(_, _)]) [_] Try.underlying25 Try.inf3 rfl rfl ⟨⟨rfl, rfl⟩, trivial⟩ rfl rfl ?_)
            intro b63
            refine S.op (S.appendOw (s := nv) (1) ([.int .i64 i]) Try.underlying25 Try.inf3 rfl rfl rfl (blk_slAt (b := b63) rfl (by unfold maxLen; omega)) (by first | rfl | exact allOne_bcells _) (⟨by omega, by omega⟩) rfl ?_)
            intro nv2 hnv2
            rw [show ints (nowT A i) ++ [Value.int .i64 i] = ints (nowT A (i + 1)) by rw [hsucc]; simp]
            refine S.op (S.q (q_assign rfl) rfl rfl ?_)
            first | with_reducible refine S.nilK ?_ | refine S.nil ?_
            with_reducible repeat (first | refine S.then_n ?_ | refine S.then_x ?_ | refine S.then_r ?_ | refine S.inBlock_n ?_ | refine S.inBlock_r ?_ | refine S.inBlock_x rfl ?_ | refine S.noGoto_r ?_ | refine S.noGoto_n ?_ | refine S.noGoto_x ?_)
            with_reducible repeat (first | refine S.then_n ?_ | refine S.then_x ?_ | refine S.then_r ?_ | refine S.inBlock_n ?_ | refine S.inBlock_r ?_ | refine S.inBlock_x rfl ?_ | refine S.noGoto_r ?_ | refine S.noGoto_n ?_ | refine S.noGoto_x ?_)
            first | exact S.meet ⟨nv2, rfl, rfl⟩ ⟨rfl, rfl, rfl, rfl, rfl, rfl, rfl, trivial⟩ Sub.ent | (rw [← hsucc]; exact S.meet ⟨nv, rfl, rfl⟩ ⟨rfl, rfl, rfl, rfl, rfl, rfl, rfl, trivial⟩ Sub.ent)
          · rw [← hc, h5, if_neg (by simp), List.append_nil] at hsucc
            refine S.skip ?_
            with_reducible repeat (first | refine S.then_n ?_ | refine S.then_x ?_ | refine S.then_r ?_ | refine S.inBlock_n ?_ | refine S.inBlock_r ?_ | refine S.inBlock_x rfl ?_ | refine S.noGoto_r ?_ | refine S.noGoto_n ?_ | refine S.noGoto_x ?_)
            with_reducible repeat (first | refine S.then_n ?_ | refine S.then_x ?_ | refine S.then_r ?_ | refine S.inBlock_n ?_ | refine S.inBlock_r ?_ | refine S.inBlock_x rfl ?_ | refine S.noGoto_r ?_ | refine S.noGoto_n ?_ | refine S.noGoto_x ?_)
            with_reducible repeat (first | refine S.then_n ?_ | refine S.then_x ?_ | refine S.then_r ?_ | refine S.inBlock_n ?_ | refine S.inBlock_r ?_ | refine S.inBlock_x rfl ?_ | refine S.noGoto_r ?_ | refine S.noGoto_n ?_ | refine S.noGoto_x ?_)
            first | exact S.meet ⟨nv2, rfl, rfl⟩ ⟨rfl, rfl, rfl, rfl, rfl, rfl, rfl, trivial⟩ Sub.ent | (rw [← hsucc]; exact S.meet ⟨nv, rfl, rfl⟩ ⟨rfl, rfl, rfl, rfl, rfl, rfl, rfl, trivial⟩ Sub.ent)
      · rintro ρ' Γ' ⟨u9, rfl, rfl⟩
        refine hK13 _ _ ?_
        refine S.region rfl ?_
        refine S.op (S.q (q_add rfl rfl (inI64 (by omega) (by omega))) rfl rfl ?_)
        refine S.op (S.q (q_move rfl) rfl rfl ?_)
        first | with_reducible refine S.nilK ?_ | refine S.nil ?_
        with_reducible repeat (first | refine S.then_n ?_ | refine S.then_x ?_ | refine S.then_r ?_ | refine S.inBlock_n ?_ | refine S.inBlock_r ?_ | refine S.inBlock_x rfl ?_ | refine S.noGoto_r ?_ | refine S.noGoto_n ?_ | refine S.noGoto_x ?_)
        exact S.next (m - 1) (⟨i + 1, u9, by omega, rfl, rfl⟩) (by omega) (by repeat (first | exact trivial | refine ⟨rfl, ?_⟩)) Sub.ent
    · obtain rfl : i = A.length := by omega
      refine S.exit ?_
      with_reducible repeat (first | refine S.then_n ?_ | refine S.then_x ?_ | refine S.then_r ?_ | refine S.inBlock_n ?_ | refine S.inBlock_r ?_ | refine S.inBlock_x rfl ?_ | refine S.noGoto_r ?_ | refine S.noGoto_n ?_ | refine S.noGoto_x ?_)
      with_reducible refine S.inBlock_s ?_
      with_reducible repeat (first | refine S.then_n ?_ | refine S.then_x ?_ | refine S.then_r ?_ | refine S.inBlock_n ?_ | refine S.inBlock_r ?_ | refine S.inBlock_x rfl ?_ | refine S.noGoto_r ?_ | refine S.noGoto_n ?_ | refine S.noGoto_x ?_)
      refine hK9 _ _ ?_
      refine S.seq fun K18 hK18 => ?_
      refine S.region rfl ?_
      refine S.op (S.q (q_move rfl) rfl rfl ?_)
      refine S.op (S.call Try.en12 (vs := [_]) ⟨rfl, trivial⟩ (profile_S (old W) s0 P hP) rfl ?_)
      rintro v Θ ⟨s3, r3, rfl, hd3, rfl⟩
      rw [← hD] at hd3
      refine S.op (S.q (q_move rfl) rfl rfl ?_)
      refine S.op (S.call Try.en23 (vs := [_, _]) ⟨rfl, rfl, trivial⟩ (Now_S (prof s3 r3) (own u0 34 2 (al.flatMap akC)) s3 r3 u0 al (by rw [hd3]; exact hsm) (by omega) (RdP.prof s3 r3) hRal) rfl ?_)
      rintro v Θ ⟨uk, rfl, rfl⟩
      rw [show nowR (dat r3) al = nowT A A.length by rw [hd3, hAl2]; unfold nowR; rw [← hAA]]
      refine S.op (S.q (q_assign rfl) rfl rfl ?_)
      first | with_reducible refine S.nilK ?_ | refine S.nil ?_
      refine hK18 _ _ ?_
      refine S.seq fun K19 hK19 => ?_
      refine S.seq fun K20 hK20 => ?_
      refine S.region rfl ?_
      obtain ⟨N, hN⟩ : ∃ N, N = nowT A A.length := ⟨_, rfl⟩
      have hNl : N.length ≤ A.length := by rw [hN]; exact nowT_len A A.length
      rw [← hN]
      rw [← hN] at hnl
      refine S.ownIf uk fun bk fk hbk hkl _ _ => ?_
      rw [List.length_map, Nat.mul_one] at hkl
      refine S.ownIf nv fun bn fn hbn _ _ _ => ?_
      refine S.op (S.q (q_move rfl) rfl rfl ?_)
      refine S.op (S.q (q_len Try.underlying25 rfl) rfl rfl ?_)
      refine S.op (S.q (q_move rfl) rfl rfl ?_)
      refine S.op (S.q (q_len Try.underlying25 rfl) rfl rfl ?_)
      refine S.op (S.q (q_ne rfl rfl) rfl rfl ?_)
      first | with_reducible refine S.nilK ?_ | refine S.nil ?_
      refine hK20 _ _ ?_
      refine S.condD rfl (fun h6 => ?_) (fun h6 => ?_)
      · exact absurd (show ((uk.n : Nat) : Int) = nv.n by omega) h6
      · refine S.skip ?_
        with_reducible repeat (first | refine S.then_n ?_ | refine S.then_x ?_ | refine S.then_r ?_ | refine S.inBlock_n ?_ | refine S.inBlock_r ?_ | refine S.inBlock_x rfl ?_ | refine S.noGoto_r ?_ | refine S.noGoto_n ?_ | refine S.noGoto_x ?_)
        refine hK19 _ _ ?_
        refine S.seq fun K21 hK21 => ?_
        refine S.seq fun K22 hK22 => ?_
        refine S.region rfl ?_
        refine S.op (S.q (q_move rfl) rfl rfl ?_)
        refine S.op (S.q (q_len Try.underlying25 rfl) rfl rfl ?_)
        refine S.op (S.q (q_move rfl) rfl rfl ?_)
        first | with_reducible refine S.nilK ?_ | refine S.nil ?_
        refine hK22 _ _ ?_
        refine S.block ?_
        refine S.loop (fun m ρ' Γ' => ∃ i : Nat, m + i = N.length ∧ ρ' = [(9, nv.v), (11, uk.v), (76, .int .i64 uk.n), (77, .int .i64 i)] ∧ Γ' = own uk 3 1 (ints N) :: own nv 3 1 (ints N) :: old W :: Γ) (m := _) (ρ0 := _) (Γ0 := _) (⟨0, rfl, rfl, rfl⟩) (by repeat (first | exact trivial | refine ⟨rfl, ?_⟩)) Sub.ent ?_
        rintro m2 ρ' Γ' ⟨i, hmi2, rfl, rfl⟩
        refine S.seq fun K23 hK23 => ?_
        refine S.region rfl ?_
        refine S.op (S.q (q_lt rfl rfl) rfl rfl ?_)
        first | with_reducible refine S.nilK ?_ | refine S.nil ?_
        refine hK23 _ _ ?_
        refine S.seq fun K24 hK24 => ?_
        refine S.condD rfl (fun h7 => ?_) (fun h7 => ?_)
        · obtain ⟨z, hz⟩ := getE (l := N) (i := i) (by omega)
          refine S.skip ?_
          with_reducible repeat (first | refine S.then_n ?_ | refine S.then_x ?_ | refine S.then_r ?_ | refine S.inBlock_n ?_ | refine S.inBlock_r ?_ | refine S.inBlock_x rfl ?_ | refine S.noGoto_r ?_ | refine S.noGoto_n ?_ | refine S.noGoto_x ?_)
          refine hK24 _ _ ?_
          refine S.seq fun K25 hK25 => ?_
          refine S.block ?_
          refine S.seq fun K26 hK26 => ?_
          refine S.region rfl ?_
          refine S.op (S.q (q_move rfl) rfl rfl ?_)
          refine S.op (S.q (q_assign rfl) rfl rfl ?_)
          first | with_reducible refine S.nilK ?_ | refine S.nil ?_
          refine hK26 _ _ ?_
          refine S.seq fun K27 hK27 => ?_
          refine S.draw ([own uk 3 1 (ints N), own nv 3 1 (ints N)]) [] Try.mixed ?_
          refine S.dr_take 0 [] rfl (by kernel_rfl) rfl rfl rfl (q_move rfl) Sub.ent ?_
          refine S.dr_take 1 [] rfl (by kernel_rfl) rfl rfl rfl (q_move rfl) Sub.ent ?_
          refine S.dr_take 2 [] rfl (by kernel_rfl) rfl rfl rfl (q_indexO (i) Try.el25 rfl (hbk (by omega)) rfl rfl (by omega)) Sub.ent ?_
          refine S.dr_take 3 [] rfl (by kernel_rfl) rfl rfl rfl (q_loadOw (uk) (i * 1) Try.at3 rfl (hbk (by omega)) (by first | rfl | exact Nat.add_assoc _ _ _ | omega) (by rw [Nat.mul_one]; exact ints_get hz)) Sub.ent ?_
          refine S.dr_take 4 [] rfl (by kernel_rfl) rfl rfl rfl (q_move rfl) Sub.ent ?_
          refine S.dr_take 5 [] rfl (by kernel_rfl) rfl rfl rfl (q_move rfl) Sub.ent ?_
          refine S.dr_take 6 [] rfl (by kernel_rfl) rfl rfl rfl (q_indexO (i) Try.el25 rfl (hbn (by omega)) rfl rfl (by omega)) Sub.ent ?_
          refine S.dr_take 7 [] rfl (by kernel_rfl) rfl rfl rfl (q_loadOw (nv) (i * 1) Try.at3 rfl (hbn (by omega)) (by first | rfl | exact Nat.add_assoc _ _ _ | omega) (by rw [Nat.mul_one]; exact ints_get hz)) Sub.ent ?_
          refine S.dr_take 8 [] rfl (by kernel_rfl) rfl rfl rfl (q_ne rfl rfl) Sub.ent ?_
          first | with_reducible refine S.dr_doneK (by kernel_rfl) ?_ | refine S.dr_done (by kernel_rfl) ?_
          refine hK27 _ _ ?_
          refine S.condD rfl (fun h8 => ?_) (fun h8 => ?_)
          · exact absurd rfl h8
          · refine S.skip ?_
            with_reducible repeat (first | refine S.then_n ?_ | refine S.then_x ?_ | refine S.then_r ?_ | refine S.inBlock_n ?_ | refine S.inBlock_r ?_ | refine S.inBlock_x rfl ?_ | refine S.noGoto_r ?_ | refine S.noGoto_n ?_ | refine S.noGoto_x ?_)
            with_reducible repeat (first | refine S.then_n ?_ | refine S.then_x ?_ | refine S.then_r ?_ | refine S.inBlock_n ?_ | refine S.inBlock_r ?_ | refine S.inBlock_x rfl ?_ | refine S.noGoto_r ?_ | refine S.noGoto_n ?_ | refine S.noGoto_x ?_)
            refine hK25 _ _ ?_
            refine S.region rfl ?_
            refine S.op (S.q (q_add rfl rfl (inI64 (by omega) (by omega))) rfl rfl ?_)
            refine S.op (S.q (q_move rfl) rfl rfl ?_)
            first | with_reducible refine S.nilK ?_ | refine S.nil ?_
            with_reducible repeat (first | refine S.then_n ?_ | refine S.then_x ?_ | refine S.then_r ?_ | refine S.inBlock_n ?_ | refine S.inBlock_r ?_ | refine S.inBlock_x rfl ?_ | refine S.noGoto_r ?_ | refine S.noGoto_n ?_ | refine S.noGoto_x ?_)
            exact S.next (m2 - 1) (⟨i + 1, by omega, rfl, rfl⟩) (by omega) (by repeat (first | exact trivial | refine ⟨rfl, ?_⟩)) Sub.ent
        · refine S.exit ?_
          with_reducible repeat (first | refine S.then_n ?_ | refine S.then_x ?_ | refine S.then_r ?_ | refine S.inBlock_n ?_ | refine S.inBlock_r ?_ | refine S.inBlock_x rfl ?_ | refine S.noGoto_r ?_ | refine S.noGoto_n ?_ | refine S.noGoto_x ?_)
          with_reducible refine S.inBlock_s ?_
          with_reducible repeat (first | refine S.then_n ?_ | refine S.then_x ?_ | refine S.then_r ?_ | refine S.inBlock_n ?_ | refine S.inBlock_r ?_ | refine S.inBlock_x rfl ?_ | refine S.noGoto_r ?_ | refine S.noGoto_n ?_ | refine S.noGoto_x ?_)
          refine hK21 _ _ ?_
          refine S.seq fun K28 hK28 => ?_
          refine S.region rfl ?_
          refine S.op (S.q (q_assign rfl) rfl rfl ?_)
          first | with_reducible refine S.nilK ?_ | refine S.nil ?_
          refine hK28 _ _ ?_
          refine S.ret ?_
          with_reducible repeat (first | refine S.then_n ?_ | refine S.then_x ?_ | refine S.then_r ?_ | refine S.inBlock_n ?_ | refine S.inBlock_r ?_ | refine S.inBlock_x rfl ?_ | refine S.noGoto_r ?_ | refine S.noGoto_n ?_ | refine S.noGoto_x ?_)
          exact S.fin (rs := [_]) (vs := [_]) Try.results4 (⟨rfl, trivial⟩)  (⟨rfl, rfl⟩) Sub.ent
open Go.ChangeShapes Go.WideShapes Go.ChangeAt
theorem PlanAll_law {H : Type} (enc : TypeId × Value → H) : LawWalk enc 4 Try.f4 := by
  intro W base args ds before hval hA _ _
  rw [Try.params4] at hA hval
  obtain ⟨v0, vs0, d0, ds0, p0, q0, hargs, rfl, rfl, h0, r0⟩ := trodAll_cons hA
  obtain ⟨v1, vs1, d1, ds1, p1, q1, rfl, rfl, rfl, h1, r1⟩ := trodAll_cons r0
  obtain ⟨rfl, rfl, rfl⟩ := trodAll_nil r1
  obtain rfl : args = #[v0, v1] := by cases args; simp_all
  obtain ⟨s0, P, e0, hP⟩ := rd_prof (arg_slice 4 Try.underlying22 (by kernel_rfl) (hval 0 22 v0 rfl rfl) h0)
  simp only [List.cons.injEq, and_true] at e0
  subst e0
  obtain ⟨l0, al0, e1, hAl⟩ := rd_asks (arg_slice 4 Try.underlying41 (by kernel_rfl) (hval 1 41 v1 rfl rfl) h1)
  simp only [List.cons.injEq, and_true] at e1
  subst e1
  exact law_run (PlanAll_S s0 P l0 al0 W hP hAl)
set_option maxRecDepth 100000 in
theorem PlanAll_lifted (os : Os) (started : os.Started) (H : Type) (enc : TypeId × Value → H) :
    ReturnsInHanded {} Try.checked os 4 .any (Rows.planAllSpec.pre6 enc Try.prog Try.f4 Rows.planAllRow.domain false) (Rows.planAllSpec.post enc Try.prog Try.f4 false true false false) :=
  lift_true started Try.func4 (by kernel_rfl)
    (ChangeSpec.witness6 (enc := enc) (C := Try.checked) false ⟨#[], #[.slice none 0 0, .slice none 0 0], []⟩ 8 (by kernel_rfl) (by kernel_rfl) (by kernel_rfl) (by kernel_rfl))
    rfl rfl (by kernel_rfl) (fun ds h => by match ds, h with | [a0, a1], _ => rfl) (PlanAll_law enc)
theorem PlanAll_over : Rows.planAllRow.holds Try.pinned (OpenSpec.ofChange Rows.planAllSpec) :=
  OpenClaim.holds_of_wide 4 Try.f4 rfl rfl rfl rfl rfl rfl rfl ⟨rfl, rfl, rfl, rfl, rfl⟩ rfl rfl rfl rfl rfl (by kernel_rfl) Try.func4 (by kernel_rfl)
    (of_decide_eq_true (by kernel_rfl)) (by unfold Func.isWrapper; rw [if_neg (of_decide_eq_false (by kernel_rfl))]; exact ⟨rfl, rfl⟩)
    (fun os started H enc _ => PlanAll_lifted os started H enc)
theorem PlanAll_holds : Rows.PlanAllSaid := PlanAll_over
#print axioms PlanAll_holds
end Go.Proofs.Ytknpddiffellgaa
