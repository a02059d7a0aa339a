/- PlanRoom: whoever starts has as many nodes as it asked for, each free by then; no two that run at one time have one cell. -/
import Derived.Test.YtknpddiffellgaaPlanK
import Derived.Test.YtknpddiffellgaaPlanM
import Derived.Test.YtknpddiffellgaaLift
namespace Go.Proofs.Ytknpddiffellgaa
open Go.RowKit
set_option maxRecDepth 20000
set_option linter.unusedVariables false
theorem rdSrB {os : List SR} {i : Nat} {o : SR} (h : os[i]? = some o) : RdS (alls os srB) o.v o.x.nodes.length 1 (ints o.x.nodes) := RdS.alls h rdOwnI
theorem inI_maxmin (x : Int) : max 0 (min x 1099511627776) = inI x := by unfold inI; split <;> (try split) <;> omega
theorem addI_min {t len : Int} (ht : 0 ≤ t ∧ t ≤ 1099511627776) : min 1099511627776 (t + max 1 (min len 1099511627776)) = addI t (max len 1) := by
  unfold addI
  rw [inI_id ht.1 ht.2]
  unfold inI
  split <;> (try split) <;> (try split) <;> omega
theorem plan_at : ∀ (l : List Ak) (D : List (List Int)) (i : Nat) (s : St), (planR D l)[i]? = some s → 0 ≤ s.at_ ∧ s.at_ ≤ 1099511627776
  | [], _, _, _, h => by cases h
  | a :: l, D, 0, s, h => by
    have e : firstR D a.k = s := Option.some.inj h
    rw [← e]
    exact first_at
  | a :: l, D, i + 1, s, h => plan_at l _ i s h
set_option maxHeartbeats 4000000 in
theorem PlanRoom_S (s0 : SV) (P : List RW) (l0 : SV) (al0 : List Ak) (W : World) (hP : RdP (old W) s0 P) (hA : RdS (old W) l0 al0.length 2 (al0.flatMap akC)) : LawS 5 [s0.v, l0.v] W := by
  refine Spec.of_body Try.func5 rfl Try.ntmps5 rfl ?_
  intro w0 Γ
  show S _ w0 [(0, s0.v), (1, l0.v)] (old W :: Γ) _
  obtain ⟨D, hD⟩ : ∃ D, D = fewR (dat P) := ⟨_, rfl⟩
  have hsm : Sml D := by rw [hD]; exact few_sml _
  obtain ⟨al, hal⟩ : ∃ al, al = al0.take 20 := ⟨_, rfl⟩
  have hall : al.length ≤ 20 := by rw [hal, List.length_take]; omega
  have hAl := rdTakeA hA (k := min al0.length 20) (by omega)
  rw [take_min20, ← hal, show min al0.length 20 = al.length by rw [hal, List.length_take]; omega] at hAl
  obtain ⟨A, hAA⟩ : ∃ A, A = planR D al := ⟨_, rfl⟩
  have hAl2 : A.length = al.length := by rw [hAA, planR_length]
  refine S.seq fun K1 hK1 => ?_
  refine S.region rfl ?_
  refine S.op (S.q (q_assign rfl) rfl rfl ?_)
  first | with_reducible refine S.nilK ?_ | refine S.nil ?_
  refine hK1 _ _ ?_
  refine S.seq fun K2 hK2 => ?_
  refine S.seq fun K3 hK3 => ?_
  refine S.region rfl ?_
  refine S.op (S.callP Try.en11 (vs := []) trivial (fun w hs => awake_P w) rfl ?_)
  refine S.op (S.q (q_not rfl) rfl rfl ?_)
  first | with_reducible refine S.nilK ?_ | refine S.nil ?_
  refine hK3 _ _ ?_
  refine S.condF rfl ?_
  refine S.skip ?_
  with_reducible repeat (first | refine S.then_n ?_ | refine S.then_x ?_ | refine S.then_r ?_ | refine S.inBlock_n ?_ | refine S.inBlock_r ?_ | refine S.inBlock_x rfl ?_ | refine S.noGoto_r ?_ | refine S.noGoto_n ?_ | refine S.noGoto_x ?_)
  refine hK2 _ _ ?_
  refine S.seq fun K4 hK4 => ?_
  refine S.region rfl ?_
  refine S.op (S.q (q_move rfl) rfl rfl ?_)
  refine S.op (S.call Try.en20 (vs := [_]) ⟨rfl, trivial⟩ (asks_S (old W) l0 al0 hA) rfl ?_)
  rintro v Θ ⟨u0, rfl, rfl⟩
  rw [← hal]
  refine S.ownLen u0 fun hul huc _ => ?_
  rw [flat_length akC_len] at hul
  have hRal : RdS (own u0 34 2 (al.flatMap akC)) u0 al.length 2 (al.flatMap akC) := by rw [show al.length = u0.n by omega]; exact RdS.own
  refine S.op (S.q (q_move rfl) rfl rfl ?_)
  refine S.op (S.q (q_extract rfl rfl) rfl rfl ?_)
  refine S.op (S.q (q_extract rfl rfl) rfl rfl ?_)
  refine S.op (S.q (q_assign rfl) rfl rfl ?_)
  refine S.op (S.q (q_assign rfl) rfl rfl ?_)
  first | with_reducible refine S.nilK ?_ | refine S.nil ?_
  refine hK4 _ _ ?_
  refine S.seq fun K5 hK5 => ?_
  refine S.region rfl ?_
  refine S.op (S.q (q_move rfl) rfl rfl ?_)
  refine S.op (S.call Try.en13 (vs := [_]) ⟨rfl, trivial⟩ (Few_S (old W) s0 P hP) rfl ?_)
  rintro v Θ ⟨s2, r2, rfl, hd2, rfl⟩
  rw [← hD] at hd2
  have hm2 : Sml (dat r2) := by rw [hd2]; exact hsm
  have hP2 := RdP.prof s2 r2
  refine S.rCap hP2.top fun hn2 _ _ => ?_
  refine S.op (S.q (q_assign rfl) rfl rfl ?_)
  first | with_reducible refine S.nilK ?_ | refine S.nil ?_
  refine hK5 _ _ ?_
  refine S.seq fun K6 hK6 => ?_
  refine S.region rfl ?_
  refine S.op (S.q (q_move rfl) rfl rfl ?_)
  refine S.op (S.call Try.en12 (vs := [_]) ⟨rfl, trivial⟩ (profile_S (old W) s0 P hP) rfl ?_)
  rintro v Θ ⟨s1, r1, rfl, hd1, rfl⟩
  rw [← hD] at hd1
  refine S.op (S.q (q_move rfl) rfl rfl ?_)
  refine S.op (S.call Try.en21 (vs := [_, _]) ⟨rfl, rfl, trivial⟩ (Plan_S (prof s1 r1) (own u0 34 2 (al.flatMap akC)) s1 r1 u0 al (by rw [hd1]; exact hsm) (by omega) (RdP.prof s1 r1) hRal) rfl ?_)
  rintro v Θ ⟨ua, oa, rfl, hoa, rfl⟩
  rw [hd1, ← hAA] at hoa
  refine S.rCap (rdOwnS (u := ua) (e := 32) (os := oa)) fun hna hac _ => ?_
  have hla : oa.length = A.length := by have := congrArg List.length hoa; rwa [List.length_map] at this
  have hget : ∀ (j : Nat) (o : SR), oa[j]? = some o → (planR D al)[j]? = some o.x := fun j o h => by rw [← hAA, ← hoa, List.getElem?_map, h]; rfl
  refine S.op (S.q (q_assign rfl) rfl rfl ?_)
  first | with_reducible refine S.nilK ?_ | refine S.nil ?_
  refine hK6 _ _ ?_
  refine S.seq fun K7 hK7 => ?_
  refine S.seq fun K8 hK8 => ?_
  refine S.region rfl ?_
  refine S.op (S.q (q_move rfl) rfl rfl ?_)
  refine S.op (S.q (q_len Try.underlying45 rfl) rfl rfl ?_)
  refine S.op (S.q (q_move rfl) rfl rfl ?_)
  first | with_reducible refine S.nilK ?_ | refine S.nil ?_
  refine hK8 _ _ ?_
  refine S.block ?_
  refine S.loop (fun m ρ' Γ' => ∃ i : Nat, m + i = A.length ∧ ρ' = [(6, .slice l0.a al.length l0.c), (7, s2.v), (8, ua.v), (30, ua.v), (31, .int .i64 ua.n), (32, .int .i64 i)] ∧ Γ' = own ua 32 4 (oa.flatMap srC) :: alls oa srB :: prof s2 r2 :: old W :: Γ) (m := _) (ρ0 := _) (Γ0 := _) (⟨0, rfl, rfl, rfl⟩) (by repeat (first | exact trivial | refine ⟨rfl, ?_⟩)) Sub.ent ?_
  rintro m ρ' Γ' ⟨i, hmi, rfl, rfl⟩
  refine S.seq fun K9 hK9 => ?_
  refine S.region rfl ?_
  refine S.op (S.q (q_lt rfl rfl) rfl rfl ?_)
  first | with_reducible refine S.nilK ?_ | refine S.nil ?_
  refine hK9 _ _ ?_
  refine S.seq fun K10 hK10 => ?_
  refine S.condD rfl (fun h2 => ?_) (fun h2 => ?_)
  · obtain ⟨o, ho⟩ := getE (l := oa) (i := i) (by omega)
    obtain ⟨a, ha⟩ := getE (l := al) (i := i) (by omega)
    refine S.ownSome ua (by omega) fun ba fa hba _ _ _ => ?_
    refine S.rSome hAl (by omega) fun bl fl hbl => ?_
    refine S.rCap (rdSrB ho) fun hon _ hom => ?_
    refine S.skip ?_
    with_reducible repeat (first | refine S.then_n ?_ | refine S.then_x ?_ | refine S.then_r ?_ | refine S.inBlock_n ?_ | refine S.inBlock_r ?_ | refine S.inBlock_x rfl ?_ | refine S.noGoto_r ?_ | refine S.noGoto_n ?_ | refine S.noGoto_x ?_)
    refine hK10 _ _ ?_
    refine S.seq fun K11 hK11 => ?_
    refine S.block ?_
    refine S.seq fun K12 hK12 => ?_
    refine S.region rfl ?_
    refine S.op (S.q (q_move rfl) rfl rfl ?_)
    refine S.op (S.q (q_indexO (i) Try.el45 rfl hba rfl rfl (by omega)) rfl rfl ?_)
    refine S.op (S.q (q_loadOwS (ua) (i * 4) [_, _, _, _] Try.ag32 rfl hba (by first | rfl | exact Nat.add_assoc _ _ _ | omega) rfl (flat_seg (enc := srC) (sz := 4) srC_len ho)) rfl rfl ?_)
    refine S.op (S.alloc Try.z32 rfl ?_)
    intro b10
    refine S.op (S.q (q_assign rfl) rfl rfl ?_)
    refine S.op (S.storeS (cs' := [_, _, _, _]) Try.ag32 rfl rfl rfl rfl rfl rfl ?_)
    first | with_reducible refine S.nilK ?_ | refine S.nil ?_
    refine hK12 _ _ ?_
    refine S.seq fun K13 hK13 => ?_
    refine S.seq fun K14 hK14 => ?_
    refine S.region rfl ?_
    refine S.op (S.q (q_field Try.fo32_3 rfl) rfl rfl ?_)
    refine S.op (S.q (q_load Try.at4 rfl rfl) rfl rfl ?_)
    refine S.op (S.q (q_not rfl) rfl rfl ?_)
    first | with_reducible refine S.nilK ?_ | refine S.nil ?_
    refine hK14 _ _ ?_
    refine S.cond rfl (fun h3 => ?_) (fun h3 => ?_)
    · refine S.exit ?_
      with_reducible repeat (first | refine S.then_n ?_ | refine S.then_x ?_ | refine S.then_r ?_ | refine S.inBlock_n ?_ | refine S.inBlock_r ?_ | refine S.inBlock_x rfl ?_ | refine S.noGoto_r ?_ | refine S.noGoto_n ?_ | refine S.noGoto_x ?_)
      with_reducible refine S.inBlock_s ?_
      with_reducible repeat (first | refine S.then_n ?_ | refine S.then_x ?_ | refine S.then_r ?_ | refine S.inBlock_n ?_ | refine S.inBlock_r ?_ | refine S.inBlock_x rfl ?_ | refine S.noGoto_r ?_ | refine S.noGoto_n ?_ | refine S.noGoto_x ?_)
      refine hK11 _ _ ?_
      refine S.region rfl ?_
      refine S.op (S.q (q_add rfl rfl (inI64 (by omega) (by omega))) rfl rfl ?_)
      refine S.op (S.q (q_move rfl) rfl rfl ?_)
      first | with_reducible refine S.nilK ?_ | refine S.nil ?_
      with_reducible repeat (first | refine S.then_n ?_ | refine S.then_x ?_ | refine S.then_r ?_ | refine S.inBlock_n ?_ | refine S.inBlock_r ?_ | refine S.inBlock_x rfl ?_ | refine S.noGoto_r ?_ | refine S.noGoto_n ?_ | refine S.noGoto_x ?_)
      exact S.next (m - 1) (⟨i + 1, by omega, rfl, rfl⟩) (by omega) (by repeat (first | exact trivial | refine ⟨rfl, ?_⟩)) Sub.ent
    · have hok : o.x.ok = true := by simpa using h3
      obtain ⟨hk, ⟨r, row, hrr, hrow, hfree⟩, hoth⟩ := room_plan al D i o.x a (hget i o ho) hok ha
      have hrl : r < r2.length := by have := (List.getElem?_eq_some_iff.1 hrow).1; rw [← hd2, List.length_map] at this; exact this
      obtain ⟨rw2, hrw2⟩ := getE hrl
      have hrd : row = rw2.d := by rw [← hd2, List.getElem?_map, hrw2] at hrow; exact (Option.some.inj hrow).symm
      subst hrd
      refine S.rSome hP2.top (by omega) fun b2 f2 hb2 => ?_
      refine S.rCap (hP2.row hrw2) fun hrwn _ _ => ?_
      refine S.skip ?_
      with_reducible repeat (first | refine S.then_n ?_ | refine S.then_x ?_ | refine S.then_r ?_ | refine S.inBlock_n ?_ | refine S.inBlock_r ?_ | refine S.inBlock_x rfl ?_ | refine S.noGoto_r ?_ | refine S.noGoto_n ?_ | refine S.noGoto_x ?_)
      refine hK13 _ _ ?_
      refine S.seq fun K15 hK15 => ?_
      refine S.seq fun K16 hK16 => ?_
      refine S.draw ([old W, blk b10 32 (stC o.v o.x).toArray, prof s2 r2]) [] Try.mixed ?_
      refine S.dr_take 0 [] rfl (by kernel_rfl) rfl rfl rfl (q_field Try.fo32_2 rfl) Sub.ent ?_
      refine S.dr_take 1 [] rfl (by kernel_rfl) rfl rfl rfl (q_load Try.at25 rfl rfl) Sub.ent ?_
      refine S.dr_take 2 [] rfl (by kernel_rfl) rfl rfl rfl (q_len Try.underlying25 rfl) Sub.ent ?_
      refine S.dr_take 3 [] rfl (by kernel_rfl) rfl rfl rfl (q_move rfl) Sub.ent ?_
      refine S.dr_take 4 [] rfl (by kernel_rfl) rfl rfl rfl (q_move rfl) Sub.ent ?_
      refine S.dr_take 5 [] rfl (by kernel_rfl) rfl rfl rfl (q_indexO (i) Try.el41 rfl hbl rfl rfl (by omega)) Sub.ent ?_
      refine S.dr_take 6 [] rfl (by kernel_rfl) rfl rfl rfl (q_field Try.fo24_0 rfl) Sub.ent ?_
      refine S.dr_take 7 [] rfl (by kernel_rfl) rfl rfl rfl (q_loadR hAl (i * 2 + 0) Try.at3 rfl hbl (by omega) rfl (flat_get (enc := akC) (sz := 2) (k := 0) akC_len ha rfl)) Sub.ent ?_
      refine S.dr_take 8 [] rfl (by kernel_rfl) rfl rfl rfl (q_ne rfl rfl) Sub.ent ?_
      refine S.dr_take 9 [] rfl (by kernel_rfl) rfl rfl rfl (q_move rfl) Sub.ent ?_
      refine S.dr_takeY 10 [] rfl (by kernel_rfl) rfl rfl rfl (decide_eq_false (show ¬ ((o.v.n : Nat) : Int) ≠ a.k from fun h => h (by omega))) rfl rfl (q_field Try.fo32_1 rfl) Sub.ent ?_
      refine S.dr_takeY 11 [] rfl (by kernel_rfl) rfl rfl rfl (decide_eq_false (show ¬ ((o.v.n : Nat) : Int) ≠ a.k from fun h => h (by omega))) rfl rfl (q_load Try.at3 rfl rfl) Sub.ent ?_
      refine S.dr_takeY 12 [] rfl (by kernel_rfl) rfl rfl rfl (decide_eq_false (show ¬ ((o.v.n : Nat) : Int) ≠ a.k from fun h => h (by omega))) rfl rfl (q_lt rfl rfl) Sub.ent ?_
      refine S.dr_take 13 [] rfl (by kernel_rfl) rfl rfl rfl (q_pickF rfl (decide_eq_false (show ¬ ((o.v.n : Nat) : Int) ≠ a.k from fun h => h (by omega))) rfl) Sub.ent ?_
      refine S.dr_take 14 [] rfl (by kernel_rfl) rfl rfl rfl (q_move rfl) Sub.ent ?_
      refine S.dr_takeY 15 [] rfl (by kernel_rfl) rfl rfl rfl (decide_eq_false (show ¬ o.x.row < 0 by omega)) rfl rfl (q_field Try.fo32_1 rfl) Sub.ent ?_
      refine S.dr_takeY 16 [] rfl (by kernel_rfl) rfl rfl rfl (decide_eq_false (show ¬ o.x.row < 0 by omega)) rfl rfl (q_load Try.at3 rfl rfl) Sub.ent ?_
      refine S.dr_takeY 17 [] rfl (by kernel_rfl) rfl rfl rfl (decide_eq_false (show ¬ o.x.row < 0 by omega)) rfl rfl (q_move rfl) Sub.ent ?_
      refine S.dr_takeY 18 [] rfl (by kernel_rfl) rfl rfl rfl (decide_eq_false (show ¬ o.x.row < 0 by omega)) rfl rfl (q_len Try.underlying22 rfl) Sub.ent ?_
      refine S.dr_takeY 19 [] rfl (by kernel_rfl) rfl rfl rfl (decide_eq_false (show ¬ o.x.row < 0 by omega)) rfl rfl (q_ge rfl rfl) Sub.ent ?_
      refine S.dr_take 20 [] rfl (by kernel_rfl) rfl rfl rfl (q_pickF rfl (decide_eq_false (show ¬ o.x.row < 0 by omega)) rfl) Sub.ent ?_
      first | with_reducible refine S.dr_doneK (by kernel_rfl) ?_ | refine S.dr_done (by kernel_rfl) ?_
      refine hK16 _ _ ?_
      refine S.condD rfl (fun h4 => ?_) (fun h4 => ?_)
      · exact absurd (show ¬ ((s2.n : Nat) : Int) ≤ o.x.row by omega) (fun h => h h4)
      · refine S.skip ?_
        with_reducible repeat (first | refine S.then_n ?_ | refine S.then_x ?_ | refine S.then_r ?_ | refine S.inBlock_n ?_ | refine S.inBlock_r ?_ | refine S.inBlock_x rfl ?_ | refine S.noGoto_r ?_ | refine S.noGoto_n ?_ | refine S.noGoto_x ?_)
        refine hK15 _ _ ?_
        refine S.seq fun K17 hK17 => ?_
        refine S.region rfl ?_
        refine S.op (S.q (q_field Try.fo32_2 rfl) rfl rfl ?_)
        refine S.op (S.q (q_load Try.at25 rfl rfl) rfl rfl ?_)
        refine S.op (S.q (q_len Try.underlying25 rfl) rfl rfl ?_)
        refine S.op (S.q (q_move rfl) rfl rfl ?_)
        first | with_reducible refine S.nilK ?_ | refine S.nil ?_
        refine hK17 _ _ ?_
        refine S.block ?_
        refine S.loop (fun m2 ρ' Γ' => ∃ j : Nat, m2 + j = o.x.nodes.length ∧ ρ' = [(6, .slice l0.a al.length l0.c), (7, s2.v), (8, ua.v), (9, .int .i64 i), (10, .pointer (some ⟨b10, 0, none⟩)), (30, ua.v), (31, .int .i64 ua.n), (32, .int .i64 i), (62, o.v.v), (63, .int .i64 o.v.n), (64, .int .i64 j)] ∧ Γ' = own ua 32 4 (oa.flatMap srC) :: alls oa srB :: blk b10 32 (stC o.v o.x).toArray :: prof s2 r2 :: old W :: Γ) (m := _) (ρ0 := _) (Γ0 := _) (⟨0, rfl, rfl, rfl⟩) (by repeat (first | exact trivial | refine ⟨rfl, ?_⟩)) Sub.ent ?_
        rintro m2 ρ' Γ' ⟨j, hmj, rfl, rfl⟩
        refine S.seq fun K18 hK18 => ?_
        refine S.region rfl ?_
        refine S.op (S.q (q_lt rfl rfl) rfl rfl ?_)
        first | with_reducible refine S.nilK ?_ | refine S.nil ?_
        refine hK18 _ _ ?_
        refine S.seq fun K19 hK19 => ?_
        refine S.condD rfl (fun h5 => ?_) (fun h5 => ?_)
        · obtain ⟨n, hn⟩ := getE (l := o.x.nodes) (i := j) (by omega)
          obtain ⟨q, rfl, y, hy, hle⟩ := hfree n (List.mem_of_getElem? hn)
          have hql := (List.getElem?_eq_some_iff.1 hy).1
          refine S.rSome (rdSrB ho) (by omega) fun bo fo hbo => ?_
          refine S.rSome (hP2.row hrw2) (by omega) fun br fr hbr => ?_
          refine S.skip ?_
          with_reducible repeat (first | refine S.then_n ?_ | refine S.then_x ?_ | refine S.then_r ?_ | refine S.inBlock_n ?_ | refine S.inBlock_r ?_ | refine S.inBlock_x rfl ?_ | refine S.noGoto_r ?_ | refine S.noGoto_n ?_ | refine S.noGoto_x ?_)
          refine hK19 _ _ ?_
          refine S.seq fun K20 hK20 => ?_
          refine S.block ?_
          refine S.seq fun K21 hK21 => ?_
          refine S.region rfl ?_
          refine S.op (S.q (q_indexO (j) Try.el25 rfl hbo rfl rfl (by omega)) rfl rfl ?_)
          refine S.op (S.q (q_loadR (rdSrB ho) j Try.at3 rfl hbo (by omega) (by omega) (ints_get hn)) rfl rfl ?_)
          refine S.op (S.q (q_assign rfl) rfl rfl ?_)
          first | with_reducible refine S.nilK ?_ | refine S.nil ?_
          refine hK21 _ _ ?_
          refine S.seq fun K22 hK22 => ?_
          refine S.seq fun K23 hK23 => ?_
          refine S.draw ([blk b10 32 (stC o.v o.x).toArray, prof s2 r2]) [] Try.mixed ?_
          refine S.dr_take 0 [] rfl (by kernel_rfl) rfl rfl rfl (q_move rfl) Sub.ent ?_
          refine S.dr_take 1 [] rfl (by kernel_rfl) rfl rfl rfl (q_lt rfl rfl) Sub.ent ?_
          refine S.dr_take 2 [] rfl (by kernel_rfl) rfl rfl rfl (q_move rfl) Sub.ent ?_
          refine S.dr_takeY 3 [] rfl (by kernel_rfl) rfl rfl rfl (decide_eq_false (show ¬ ((q : Nat) : Int) < 0 by omega)) rfl rfl (q_move rfl) Sub.ent ?_
          refine S.dr_takeY 4 [] rfl (by kernel_rfl) rfl rfl rfl (decide_eq_false (show ¬ ((q : Nat) : Int) < 0 by omega)) rfl rfl (q_move rfl) Sub.ent ?_
          refine S.dr_takeY 5 [] rfl (by kernel_rfl) rfl rfl rfl (decide_eq_false (show ¬ ((q : Nat) : Int) < 0 by omega)) rfl rfl (q_field Try.fo32_1 rfl) Sub.ent ?_
          refine S.dr_takeY 6 [] rfl (by kernel_rfl) rfl rfl rfl (decide_eq_false (show ¬ ((q : Nat) : Int) < 0 by omega)) rfl rfl (q_load Try.at3 rfl rfl) Sub.ent ?_
          refine S.dr_takeY 7 [] rfl (by kernel_rfl) rfl rfl rfl (decide_eq_false (show ¬ ((q : Nat) : Int) < 0 by omega)) rfl rfl (q_indexO (r) Try.el22 rfl hb2 rfl hrr (by omega)) Sub.ent ?_
          refine S.dr_takeY 8 [] rfl (by kernel_rfl) rfl rfl rfl (decide_eq_false (show ¬ ((q : Nat) : Int) < 0 by omega)) rfl rfl (q_loadR hP2.top (r * 1) Try.at25 rfl hb2 (by omega) rfl (flat_get (enc := rwC) (sz := 1) (k := 0) rwC_len hrw2 rfl)) Sub.ent ?_
          refine S.dr_takeY 9 [] rfl (by kernel_rfl) rfl rfl rfl (decide_eq_false (show ¬ ((q : Nat) : Int) < 0 by omega)) rfl rfl (q_len Try.underlying25 rfl) Sub.ent ?_
          refine S.dr_takeY 10 [] rfl (by kernel_rfl) rfl rfl rfl (decide_eq_false (show ¬ ((q : Nat) : Int) < 0 by omega)) rfl rfl (q_ge rfl rfl) Sub.ent ?_
          refine S.dr_take 11 [] rfl (by kernel_rfl) rfl rfl rfl (q_pickF rfl (decide_eq_false (show ¬ ((q : Nat) : Int) < 0 by omega)) rfl) Sub.ent ?_
          refine S.dr_take 12 [] rfl (by kernel_rfl) rfl rfl rfl (q_move rfl) Sub.ent ?_
          refine S.dr_takeY 13 [] rfl (by kernel_rfl) rfl rfl rfl (decide_eq_false (show ¬ ((rw2.v.n : Nat) : Int) ≤ ((q : Nat) : Int) by omega)) rfl rfl (q_move rfl) Sub.ent ?_
          refine S.dr_takeY 14 [] rfl (by kernel_rfl) rfl rfl rfl (decide_eq_false (show ¬ ((rw2.v.n : Nat) : Int) ≤ ((q : Nat) : Int) by omega)) rfl rfl (q_field Try.fo32_1 rfl) Sub.ent ?_
          refine S.dr_takeY 15 [] rfl (by kernel_rfl) rfl rfl rfl (decide_eq_false (show ¬ ((rw2.v.n : Nat) : Int) ≤ ((q : Nat) : Int) by omega)) rfl rfl (q_load Try.at3 rfl rfl) Sub.ent ?_
          refine S.dr_takeY 16 [] rfl (by kernel_rfl) rfl rfl rfl (decide_eq_false (show ¬ ((rw2.v.n : Nat) : Int) ≤ ((q : Nat) : Int) by omega)) rfl rfl (q_indexO (r) Try.el22 rfl hb2 rfl hrr (by omega)) Sub.ent ?_
          refine S.dr_takeY 17 [] rfl (by kernel_rfl) rfl rfl rfl (decide_eq_false (show ¬ ((rw2.v.n : Nat) : Int) ≤ ((q : Nat) : Int) by omega)) rfl rfl (q_loadR hP2.top (r * 1) Try.at25 rfl hb2 (by omega) rfl (flat_get (enc := rwC) (sz := 1) (k := 0) rwC_len hrw2 rfl)) Sub.ent ?_
          refine S.dr_takeY 18 [] rfl (by kernel_rfl) rfl rfl rfl (decide_eq_false (show ¬ ((rw2.v.n : Nat) : Int) ≤ ((q : Nat) : Int) by omega)) rfl rfl (q_move rfl) Sub.ent ?_
          refine S.dr_takeY 19 [] rfl (by kernel_rfl) rfl rfl rfl (decide_eq_false (show ¬ ((rw2.v.n : Nat) : Int) ≤ ((q : Nat) : Int) by omega)) rfl rfl (q_indexO (q) Try.el25 rfl hbr rfl rfl (by omega)) Sub.ent ?_
          refine S.dr_takeY 20 [] rfl (by kernel_rfl) rfl rfl rfl (decide_eq_false (show ¬ ((rw2.v.n : Nat) : Int) ≤ ((q : Nat) : Int) by omega)) rfl rfl (q_loadR (hP2.row hrw2) q Try.at3 rfl hbr (by omega) (by omega) (ints_get hy)) Sub.ent ?_
          refine S.dr_takeY 21 [] rfl (by kernel_rfl) rfl rfl rfl (decide_eq_false (show ¬ ((rw2.v.n : Nat) : Int) ≤ ((q : Nat) : Int) by omega)) rfl rfl (q_min (min y 1099511627776) rfl rfl (by omega)) Sub.ent ?_
          refine S.dr_takeY 22 [] rfl (by kernel_rfl) rfl rfl rfl (decide_eq_false (show ¬ ((rw2.v.n : Nat) : Int) ≤ ((q : Nat) : Int) by omega)) rfl rfl (q_max (inI y) rfl rfl (by rw [← inI_maxmin]; omega)) Sub.ent ?_
          refine S.dr_takeY 23 [] rfl (by kernel_rfl) rfl rfl rfl (decide_eq_false (show ¬ ((rw2.v.n : Nat) : Int) ≤ ((q : Nat) : Int) by omega)) rfl rfl (q_field Try.fo32_0 rfl) Sub.ent ?_
          refine S.dr_takeY 24 [] rfl (by kernel_rfl) rfl rfl rfl (decide_eq_false (show ¬ ((rw2.v.n : Nat) : Int) ≤ ((q : Nat) : Int) by omega)) rfl rfl (q_load Try.at3 rfl rfl) Sub.ent ?_
          refine S.dr_takeY 25 [] rfl (by kernel_rfl) rfl rfl rfl (decide_eq_false (show ¬ ((rw2.v.n : Nat) : Int) ≤ ((q : Nat) : Int) by omega)) rfl rfl (q_gt rfl rfl) Sub.ent ?_
          refine S.dr_take 26 [] rfl (by kernel_rfl) rfl rfl rfl (q_pickF rfl (decide_eq_false (show ¬ ((rw2.v.n : Nat) : Int) ≤ ((q : Nat) : Int) by omega)) rfl) Sub.ent ?_
          first | with_reducible refine S.dr_doneK (by kernel_rfl) ?_ | refine S.dr_done (by kernel_rfl) ?_
          refine hK23 _ _ ?_
          refine S.condD rfl (fun h6 => ?_) (fun h6 => ?_)
          · exact absurd (show ¬ o.x.at_ < inI y by omega) (fun h => h h6)
          · refine S.skip ?_
            with_reducible repeat (first | refine S.then_n ?_ | refine S.then_x ?_ | refine S.then_r ?_ | refine S.inBlock_n ?_ | refine S.inBlock_r ?_ | refine S.inBlock_x rfl ?_ | refine S.noGoto_r ?_ | refine S.noGoto_n ?_ | refine S.noGoto_x ?_)
            refine hK22 _ _ ?_
            refine S.seq fun K24 hK24 => ?_
            refine S.region rfl ?_
            refine S.op (S.q (q_move rfl) rfl rfl ?_)
            refine S.op (S.q (q_move rfl) rfl rfl ?_)
            refine S.op (S.q (q_sliceTo (i) Try.el45 rfl rfl rfl (by omega)) rfl rfl ?_)
            refine S.op (S.q (q_len Try.underlying45 rfl) rfl rfl ?_)
            refine S.op (S.q (q_move rfl) rfl rfl ?_)
            first | with_reducible refine S.nilK ?_ | refine S.nil ?_
            refine hK24 _ _ ?_
            refine S.block ?_
            refine S.loop (fun m3 ρ' Γ' => ∃ p : Nat, m3 + p = i ∧ ρ' = [(6, .slice l0.a al.length l0.c), (7, s2.v), (8, ua.v), (9, .int .i64 i), (10, .pointer (some ⟨b10, 0, none⟩)), (12, .int .i64 q), (30, ua.v), (31, .int .i64 ua.n), (32, .int .i64 i), (62, o.v.v), (63, .int .i64 o.v.n), (64, .int .i64 j), (97, .slice ua.a i ua.c), (98, .int .i64 i), (99, .int .i64 p)] ∧ Γ' = own ua 32 4 (oa.flatMap srC) :: alls oa srB :: blk b10 32 (stC o.v o.x).toArray :: prof s2 r2 :: old W :: Γ) (m := _) (ρ0 := _) (Γ0 := _) (⟨0, rfl, rfl, rfl⟩) (by repeat (first | exact trivial | refine ⟨rfl, ?_⟩)) Sub.ent ?_
            rintro m3 ρ' Γ' ⟨p, hmp, rfl, rfl⟩
            refine S.seq fun K25 hK25 => ?_
            refine S.region rfl ?_
            refine S.op (S.q (q_lt rfl rfl) rfl rfl ?_)
            first | with_reducible refine S.nilK ?_ | refine S.nil ?_
            refine hK25 _ _ ?_
            refine S.seq fun K26 hK26 => ?_
            refine S.condD rfl (fun h7 => ?_) (fun h7 => ?_)
            · obtain ⟨t, ht⟩ := getE (l := oa) (i := p) (by omega)
              obtain ⟨c, hc⟩ := getE (l := al) (i := p) (by omega)
              have hta := plan_at al D p t.x (hget p t ht)
              refine S.rCap (rdSrB ht) fun htn _ htm => ?_
              refine S.skip ?_
              with_reducible repeat (first | refine S.then_n ?_ | refine S.then_x ?_ | refine S.then_r ?_ | refine S.inBlock_n ?_ | refine S.inBlock_r ?_ | refine S.inBlock_x rfl ?_ | refine S.noGoto_r ?_ | refine S.noGoto_n ?_ | refine S.noGoto_x ?_)
              refine hK26 _ _ ?_
              refine S.seq fun K27 hK27 => ?_
              refine S.block ?_
              refine S.seq fun K28 hK28 => ?_
              refine S.region rfl ?_
              refine S.op (S.q (q_move rfl) rfl rfl ?_)
              refine S.op (S.q (q_indexO (p) Try.el45 rfl hba rfl rfl (by omega)) rfl rfl ?_)
              refine S.op (S.q (q_loadOwS (ua) (p * 4) [_, _, _, _] Try.ag32 rfl hba (by first | rfl | exact Nat.add_assoc _ _ _ | omega) rfl (flat_seg (enc := srC) (sz := 4) srC_len ht)) rfl rfl ?_)
              refine S.op (S.alloc Try.z32 rfl ?_)
              intro b14
              refine S.op (S.q (q_assign rfl) rfl rfl ?_)
              refine S.op (S.storeS (cs' := [_, _, _, _]) Try.ag32 rfl rfl rfl rfl rfl rfl ?_)
              first | with_reducible refine S.nilK ?_ | refine S.nil ?_
              refine hK28 _ _ ?_
              refine S.seq fun K29 hK29 => ?_
              refine S.region rfl ?_
              refine S.op (S.q (q_field Try.fo32_2 rfl) rfl rfl ?_)
              refine S.op (S.q (q_load Try.at25 rfl rfl) rfl rfl ?_)
              refine S.op (S.q (q_len Try.underlying25 rfl) rfl rfl ?_)
              refine S.op (S.q (q_move rfl) rfl rfl ?_)
              first | with_reducible refine S.nilK ?_ | refine S.nil ?_
              refine hK29 _ _ ?_
              refine S.block ?_
              refine S.loop (fun m4 ρ' Γ' => ∃ z : Nat, m4 + z = t.x.nodes.length ∧ ρ' = [(6, .slice l0.a al.length l0.c), (7, s2.v), (8, ua.v), (9, .int .i64 i), (10, .pointer (some ⟨b10, 0, none⟩)), (12, .int .i64 q), (13, .int .i64 p), (14, .pointer (some ⟨b14, 0, none⟩)), (30, ua.v), (31, .int .i64 ua.n), (32, .int .i64 i), (62, o.v.v), (63, .int .i64 o.v.n), (64, .int .i64 j), (97, .slice ua.a i ua.c), (98, .int .i64 i), (99, .int .i64 p), (105, t.v.v), (106, .int .i64 t.v.n), (107, .int .i64 z)] ∧ Γ' = own ua 32 4 (oa.flatMap srC) :: alls oa srB :: blk b14 32 (stC t.v t.x).toArray :: blk b10 32 (stC o.v o.x).toArray :: prof s2 r2 :: old W :: Γ) (m := _) (ρ0 := _) (Γ0 := _) (⟨0, rfl, rfl, rfl⟩) (by repeat (first | exact trivial | refine ⟨rfl, ?_⟩)) Sub.ent ?_
              rintro m4 ρ' Γ' ⟨z, hmz, rfl, rfl⟩
              refine S.seq fun K30 hK30 => ?_
              refine S.region rfl ?_
              refine S.op (S.q (q_lt rfl rfl) rfl rfl ?_)
              first | with_reducible refine S.nilK ?_ | refine S.nil ?_
              refine hK30 _ _ ?_
              refine S.seq fun K31 hK31 => ?_
              refine S.condD rfl (fun h8 => ?_) (fun h8 => ?_)
              · obtain ⟨w, hw⟩ := getE (l := t.x.nodes) (i := z) (by omega)
                refine S.rSome (rdSrB ht) (by omega) fun bt ft hbt => ?_
                refine S.skip ?_
                with_reducible repeat (first | refine S.then_n ?_ | refine S.then_x ?_ | refine S.then_r ?_ | refine S.inBlock_n ?_ | refine S.inBlock_r ?_ | refine S.inBlock_x rfl ?_ | refine S.noGoto_r ?_ | refine S.noGoto_n ?_ | refine S.noGoto_x ?_)
                refine hK31 _ _ ?_
                refine S.seq fun K32 hK32 => ?_
                refine S.block ?_
                refine S.seq fun K33 hK33 => ?_
                refine S.region rfl ?_
                refine S.op (S.q (q_indexO (z) Try.el25 rfl hbt rfl rfl (by omega)) rfl rfl ?_)
                refine S.op (S.q (q_loadR (rdSrB ht) z Try.at3 rfl hbt (by omega) (by omega) (ints_get hw)) rfl rfl ?_)
                refine S.op (S.q (q_assign rfl) rfl rfl ?_)
                first | with_reducible refine S.nilK ?_ | refine S.nil ?_
                refine hK33 _ _ ?_
                refine S.seq fun K34 hK34 => ?_
                refine S.draw ([old W, blk b10 32 (stC o.v o.x).toArray, blk b14 32 (stC t.v t.x).toArray]) [] Try.mixed ?_
                refine S.dr_take 0 [] rfl (by kernel_rfl) rfl rfl rfl (q_field Try.fo32_3 rfl) Sub.ent ?_
                refine S.dr_take 1 [] rfl (by kernel_rfl) rfl rfl rfl (q_load Try.at4 rfl rfl) Sub.ent ?_
                refine S.dr_take 2 [] rfl (by kernel_rfl) rfl rfl rfl (q_move rfl) Sub.ent ?_
                rcases Bool.eq_false_or_eq_true (t.x.ok) with hg23_2 | hg23_2
                · refine S.dr_takeY 3 [] rfl (by kernel_rfl) rfl rfl rfl (hg23_2) rfl rfl (q_field Try.fo32_1 rfl) Sub.ent ?_
                  refine S.dr_takeY 4 [] rfl (by kernel_rfl) rfl rfl rfl (hg23_2) rfl rfl (q_load Try.at3 rfl rfl) Sub.ent ?_
                  refine S.dr_takeY 5 [] rfl (by kernel_rfl) rfl rfl rfl (hg23_2) rfl rfl (q_field Try.fo32_1 rfl) Sub.ent ?_
                  refine S.dr_takeY 6 [] rfl (by kernel_rfl) rfl rfl rfl (hg23_2) rfl rfl (q_load Try.at3 rfl rfl) Sub.ent ?_
                  refine S.dr_takeY 7 [] rfl (by kernel_rfl) rfl rfl rfl (hg23_2) rfl rfl (q_eq rfl rfl) Sub.ent ?_
                  refine S.dr_take 8 [] rfl (by kernel_rfl) rfl rfl rfl (q_pickT rfl (hg23_2) rfl) Sub.ent ?_
                  refine S.dr_take 9 [] rfl (by kernel_rfl) rfl rfl rfl (q_move rfl) Sub.ent ?_
                  by_cases hg23_9 : t.x.row = o.x.row
                  · refine S.dr_takeY 10 [] rfl (by kernel_rfl) rfl rfl rfl (decide_eq_true hg23_9) rfl rfl (q_move rfl) Sub.ent ?_
                    refine S.dr_takeY 11 [] rfl (by kernel_rfl) rfl rfl rfl (decide_eq_true hg23_9) rfl rfl (q_move rfl) Sub.ent ?_
                    refine S.dr_takeY 12 [] rfl (by kernel_rfl) rfl rfl rfl (decide_eq_true hg23_9) rfl rfl (q_eq rfl rfl) Sub.ent ?_
                    refine S.dr_take 13 [] rfl (by kernel_rfl) rfl rfl rfl (q_pickT rfl (decide_eq_true hg23_9) rfl) Sub.ent ?_
                    refine S.dr_take 14 [] rfl (by kernel_rfl) rfl rfl rfl (q_move rfl) Sub.ent ?_
                    by_cases hg23_14 : w = (q : Int)
                    · refine S.dr_takeY 15 [] rfl (by kernel_rfl) rfl rfl rfl (decide_eq_true hg23_14) rfl rfl (q_field Try.fo32_0 rfl) Sub.ent ?_
                      refine S.dr_takeY 16 [] rfl (by kernel_rfl) rfl rfl rfl (decide_eq_true hg23_14) rfl rfl (q_load Try.at3 rfl rfl) Sub.ent ?_
                      refine S.dr_takeY 17 [] rfl (by kernel_rfl) rfl rfl rfl (decide_eq_true hg23_14) rfl rfl (q_field Try.fo32_0 rfl) Sub.ent ?_
                      refine S.dr_takeY 18 [] rfl (by kernel_rfl) rfl rfl rfl (decide_eq_true hg23_14) rfl rfl (q_load Try.at3 rfl rfl) Sub.ent ?_
                      refine S.dr_takeY 19 [] rfl (by kernel_rfl) rfl rfl rfl (decide_eq_true hg23_14) rfl rfl (q_move rfl) Sub.ent ?_
                      refine S.dr_takeY 20 [] rfl (by kernel_rfl) rfl rfl rfl (decide_eq_true hg23_14) rfl rfl (q_move rfl) Sub.ent ?_
                      refine S.dr_takeY 21 [] rfl (by kernel_rfl) rfl rfl rfl (decide_eq_true hg23_14) rfl rfl (q_indexO (p) Try.el41 rfl hbl rfl rfl (by omega)) Sub.ent ?_
                      refine S.dr_takeY 22 [] rfl (by kernel_rfl) rfl rfl rfl (decide_eq_true hg23_14) rfl rfl (q_field Try.fo24_1 rfl) Sub.ent ?_
                      refine S.dr_takeY 23 [] rfl (by kernel_rfl) rfl rfl rfl (decide_eq_true hg23_14) rfl rfl (q_loadR hAl (p * 2 + 1) Try.at3 rfl hbl (by omega) rfl (flat_get (enc := akC) (sz := 2) (k := 1) akC_len hc rfl)) Sub.ent ?_
                      refine S.dr_takeY 24 [] rfl (by kernel_rfl) rfl rfl rfl (decide_eq_true hg23_14) rfl rfl (q_min (min c.len 1099511627776) rfl rfl (by omega)) Sub.ent ?_
                      refine S.dr_takeY 25 [] rfl (by kernel_rfl) rfl rfl rfl (decide_eq_true hg23_14) rfl rfl (q_max (max 1 (min c.len 1099511627776)) rfl rfl (by omega)) Sub.ent ?_
                      refine S.dr_takeY 26 [] rfl (by kernel_rfl) rfl rfl rfl (decide_eq_true hg23_14) rfl rfl (q_add rfl rfl (inI64 (by omega) (by omega))) Sub.ent ?_
                      refine S.dr_takeY 27 [] rfl (by kernel_rfl) rfl rfl rfl (decide_eq_true hg23_14) rfl rfl (q_min (addI t.x.at_ (max c.len 1)) rfl rfl (by rw [← addI_min hta]; omega)) Sub.ent ?_
                      refine S.dr_takeY 28 [] rfl (by kernel_rfl) rfl rfl rfl (decide_eq_true hg23_14) rfl rfl (q_lt rfl rfl) Sub.ent ?_
                      refine S.dr_take 29 [] rfl (by kernel_rfl) rfl rfl rfl (q_pickT rfl (decide_eq_true hg23_14) rfl) Sub.ent ?_
                      first | with_reducible refine S.dr_doneK (by kernel_rfl) ?_ | refine S.dr_done (by kernel_rfl) ?_
                      refine hK34 _ _ ?_
                      refine S.condD rfl (fun h9 => ?_) (fun h9 => ?_)
                      · exact absurd (hoth p t.x c (by omega) (hget p t ht) hc hg23_2 hg23_9 w (List.mem_of_getElem? hw) (by rw [hg23_14]; exact List.mem_of_getElem? hn)) (by omega)
                      · refine S.skip ?_
                        with_reducible repeat (first | refine S.then_n ?_ | refine S.then_x ?_ | refine S.then_r ?_ | refine S.inBlock_n ?_ | refine S.inBlock_r ?_ | refine S.inBlock_x rfl ?_ | refine S.noGoto_r ?_ | refine S.noGoto_n ?_ | refine S.noGoto_x ?_)
                        with_reducible repeat (first | refine S.then_n ?_ | refine S.then_x ?_ | refine S.then_r ?_ | refine S.inBlock_n ?_ | refine S.inBlock_r ?_ | refine S.inBlock_x rfl ?_ | refine S.noGoto_r ?_ | refine S.noGoto_n ?_ | refine S.noGoto_x ?_)
                        refine hK32 _ _ ?_
                        refine S.region rfl ?_
                        refine S.op (S.q (q_add rfl rfl (inI64 (by omega) (by omega))) rfl rfl ?_)
                        refine S.op (S.q (q_move rfl) rfl rfl ?_)
                        first | with_reducible refine S.nilK ?_ | refine S.nil ?_
                        with_reducible repeat (first | refine S.then_n ?_ | refine S.then_x ?_ | refine S.then_r ?_ | refine S.inBlock_n ?_ | refine S.inBlock_r ?_ | refine S.inBlock_x rfl ?_ | refine S.noGoto_r ?_ | refine S.noGoto_n ?_ | refine S.noGoto_x ?_)
                        exact S.next (m4 - 1) (⟨z + 1, by omega, rfl, rfl⟩) (by omega) (by repeat (first | exact trivial | refine ⟨rfl, ?_⟩)) Sub.ent
                    · refine S.dr_takeN 15 [] rfl (by kernel_rfl) rfl rfl rfl (decide_eq_false hg23_14) rfl rfl Sub.ent ?_
                      refine S.dr_takeN 16 [] rfl (by kernel_rfl) rfl rfl rfl (decide_eq_false hg23_14) rfl rfl Sub.ent ?_
                      refine S.dr_takeN 17 [] rfl (by kernel_rfl) rfl rfl rfl (decide_eq_false hg23_14) rfl rfl Sub.ent ?_
                      refine S.dr_takeN 18 [] rfl (by kernel_rfl) rfl rfl rfl (decide_eq_false hg23_14) rfl rfl Sub.ent ?_
                      refine S.dr_takeN 19 [] rfl (by kernel_rfl) rfl rfl rfl (decide_eq_false hg23_14) rfl rfl Sub.ent ?_
                      refine S.dr_takeN 20 [] rfl (by kernel_rfl) rfl rfl rfl (decide_eq_false hg23_14) rfl rfl Sub.ent ?_
                      refine S.dr_takeN 21 [] rfl (by kernel_rfl) rfl rfl rfl (decide_eq_false hg23_14) rfl rfl Sub.ent ?_
                      refine S.dr_takeN 22 [] rfl (by kernel_rfl) rfl rfl rfl (decide_eq_false hg23_14) rfl rfl Sub.ent ?_
                      refine S.dr_takeN 23 [] rfl (by kernel_rfl) rfl rfl rfl (decide_eq_false hg23_14) rfl rfl Sub.ent ?_
                      refine S.dr_takeN 24 [] rfl (by kernel_rfl) rfl rfl rfl (decide_eq_false hg23_14) rfl rfl Sub.ent ?_
                      refine S.dr_takeN 25 [] rfl (by kernel_rfl) rfl rfl rfl (decide_eq_false hg23_14) rfl rfl Sub.ent ?_
                      refine S.dr_takeN 26 [] rfl (by kernel_rfl) rfl rfl rfl (decide_eq_false hg23_14) rfl rfl Sub.ent ?_
                      refine S.dr_takeN 27 [] rfl (by kernel_rfl) rfl rfl rfl (decide_eq_false hg23_14) rfl rfl Sub.ent ?_
                      refine S.dr_takeN 28 [] rfl (by kernel_rfl) rfl rfl rfl (decide_eq_false hg23_14) rfl rfl Sub.ent ?_
                      refine S.dr_take 29 [] rfl (by kernel_rfl) rfl rfl rfl (q_pickF rfl (decide_eq_false hg23_14) rfl) Sub.ent ?_
                      first | with_reducible refine S.dr_doneK (by kernel_rfl) ?_ | refine S.dr_done (by kernel_rfl) ?_
                      refine hK34 _ _ ?_
                      refine S.condF rfl ?_
                      refine S.skip ?_
                      with_reducible repeat (first | refine S.then_n ?_ | refine S.then_x ?_ | refine S.then_r ?_ | refine S.inBlock_n ?_ | refine S.inBlock_r ?_ | refine S.inBlock_x rfl ?_ | refine S.noGoto_r ?_ | refine S.noGoto_n ?_ | refine S.noGoto_x ?_)
                      with_reducible repeat (first | refine S.then_n ?_ | refine S.then_x ?_ | refine S.then_r ?_ | refine S.inBlock_n ?_ | refine S.inBlock_r ?_ | refine S.inBlock_x rfl ?_ | refine S.noGoto_r ?_ | refine S.noGoto_n ?_ | refine S.noGoto_x ?_)
                      refine hK32 _ _ ?_
                      refine S.region rfl ?_
                      refine S.op (S.q (q_add rfl rfl (inI64 (by omega) (by omega))) rfl rfl ?_)
                      refine S.op (S.q (q_move rfl) rfl rfl ?_)
                      first | with_reducible refine S.nilK ?_ | refine S.nil ?_
                      with_reducible repeat (first | refine S.then_n ?_ | refine S.then_x ?_ | refine S.then_r ?_ | refine S.inBlock_n ?_ | refine S.inBlock_r ?_ | refine S.inBlock_x rfl ?_ | refine S.noGoto_r ?_ | refine S.noGoto_n ?_ | refine S.noGoto_x ?_)
                      exact S.next (m4 - 1) (⟨z + 1, by omega, rfl, rfl⟩) (by omega) (by repeat (first | exact trivial | refine ⟨rfl, ?_⟩)) Sub.ent
                  · refine S.dr_takeN 10 [] rfl (by kernel_rfl) rfl rfl rfl (decide_eq_false hg23_9) rfl rfl Sub.ent ?_
                    refine S.dr_takeN 11 [] rfl (by kernel_rfl) rfl rfl rfl (decide_eq_false hg23_9) rfl rfl Sub.ent ?_
                    refine S.dr_takeN 12 [] rfl (by kernel_rfl) rfl rfl rfl (decide_eq_false hg23_9) rfl rfl Sub.ent ?_
                    refine S.dr_take 13 [] rfl (by kernel_rfl) rfl rfl rfl (q_pickF rfl (decide_eq_false hg23_9) rfl) Sub.ent ?_
                    refine S.dr_take 14 [] rfl (by kernel_rfl) rfl rfl rfl (q_move rfl) Sub.ent ?_
                    refine S.dr_takeN 15 [] rfl (by kernel_rfl) rfl rfl rfl (rfl) rfl rfl Sub.ent ?_
                    refine S.dr_takeN 16 [] rfl (by kernel_rfl) rfl rfl rfl (rfl) rfl rfl Sub.ent ?_
                    refine S.dr_takeN 17 [] rfl (by kernel_rfl) rfl rfl rfl (rfl) rfl rfl Sub.ent ?_
                    refine S.dr_takeN 18 [] rfl (by kernel_rfl) rfl rfl rfl (rfl) rfl rfl Sub.ent ?_
                    refine S.dr_takeN 19 [] rfl (by kernel_rfl) rfl rfl rfl (rfl) rfl rfl Sub.ent ?_
                    refine S.dr_takeN 20 [] rfl (by kernel_rfl) rfl rfl rfl (rfl) rfl rfl Sub.ent ?_
                    refine S.dr_takeN 21 [] rfl (by kernel_rfl) rfl rfl rfl (rfl) rfl rfl Sub.ent ?_
                    refine S.dr_takeN 22 [] rfl (by kernel_rfl) rfl rfl rfl (rfl) rfl rfl Sub.ent ?_
                    refine S.dr_takeN 23 [] rfl (by kernel_rfl) rfl rfl rfl (rfl) rfl rfl Sub.ent ?_
                    refine S.dr_takeN 24 [] rfl (by kernel_rfl) rfl rfl rfl (rfl) rfl rfl Sub.ent ?_
                    refine S.dr_takeN 25 [] rfl (by kernel_rfl) rfl rfl rfl (rfl) rfl rfl Sub.ent ?_
                    refine S.dr_takeN 26 [] rfl (by kernel_rfl) rfl rfl rfl (rfl) rfl rfl Sub.ent ?_
                    refine S.dr_takeN 27 [] rfl (by kernel_rfl) rfl rfl rfl (rfl) rfl rfl Sub.ent ?_
                    refine S.dr_takeN 28 [] rfl (by kernel_rfl) rfl rfl rfl (rfl) rfl rfl Sub.ent ?_
                    refine S.dr_take 29 [] rfl (by kernel_rfl) rfl rfl rfl (q_pickF rfl (rfl) rfl) Sub.ent ?_
                    first | with_reducible refine S.dr_doneK (by kernel_rfl) ?_ | refine S.dr_done (by kernel_rfl) ?_
                    refine hK34 _ _ ?_
                    refine S.condF rfl ?_
                    refine S.skip ?_
                    with_reducible repeat (first | refine S.then_n ?_ | refine S.then_x ?_ | refine S.then_r ?_ | refine S.inBlock_n ?_ | refine S.inBlock_r ?_ | refine S.inBlock_x rfl ?_ | refine S.noGoto_r ?_ | refine S.noGoto_n ?_ | refine S.noGoto_x ?_)
                    with_reducible repeat (first | refine S.then_n ?_ | refine S.then_x ?_ | refine S.then_r ?_ | refine S.inBlock_n ?_ | refine S.inBlock_r ?_ | refine S.inBlock_x rfl ?_ | refine S.noGoto_r ?_ | refine S.noGoto_n ?_ | refine S.noGoto_x ?_)
                    refine hK32 _ _ ?_
                    refine S.region rfl ?_
                    refine S.op (S.q (q_add rfl rfl (inI64 (by omega) (by omega))) rfl rfl ?_)
                    refine S.op (S.q (q_move rfl) rfl rfl ?_)
                    first | with_reducible refine S.nilK ?_ | refine S.nil ?_
                    with_reducible repeat (first | refine S.then_n ?_ | refine S.then_x ?_ | refine S.then_r ?_ | refine S.inBlock_n ?_ | refine S.inBlock_r ?_ | refine S.inBlock_x rfl ?_ | refine S.noGoto_r ?_ | refine S.noGoto_n ?_ | refine S.noGoto_x ?_)
                    exact S.next (m4 - 1) (⟨z + 1, by omega, rfl, rfl⟩) (by omega) (by repeat (first | exact trivial | refine ⟨rfl, ?_⟩)) Sub.ent
                · refine S.dr_takeN 3 [] rfl (by kernel_rfl) rfl rfl rfl (hg23_2) rfl rfl Sub.ent ?_
                  refine S.dr_takeN 4 [] rfl (by kernel_rfl) rfl rfl rfl (hg23_2) rfl rfl Sub.ent ?_
                  refine S.dr_takeN 5 [] rfl (by kernel_rfl) rfl rfl rfl (hg23_2) rfl rfl Sub.ent ?_
                  refine S.dr_takeN 6 [] rfl (by kernel_rfl) rfl rfl rfl (hg23_2) rfl rfl Sub.ent ?_
                  refine S.dr_takeN 7 [] rfl (by kernel_rfl) rfl rfl rfl (hg23_2) rfl rfl Sub.ent ?_
                  refine S.dr_take 8 [] rfl (by kernel_rfl) rfl rfl rfl (q_pickF rfl (hg23_2) rfl) Sub.ent ?_
                  refine S.dr_take 9 [] rfl (by kernel_rfl) rfl rfl rfl (q_move rfl) Sub.ent ?_
                  refine S.dr_takeN 10 [] rfl (by kernel_rfl) rfl rfl rfl (rfl) rfl rfl Sub.ent ?_
                  refine S.dr_takeN 11 [] rfl (by kernel_rfl) rfl rfl rfl (rfl) rfl rfl Sub.ent ?_
                  refine S.dr_takeN 12 [] rfl (by kernel_rfl) rfl rfl rfl (rfl) rfl rfl Sub.ent ?_
                  refine S.dr_take 13 [] rfl (by kernel_rfl) rfl rfl rfl (q_pickF rfl (rfl) rfl) Sub.ent ?_
                  refine S.dr_take 14 [] rfl (by kernel_rfl) rfl rfl rfl (q_move rfl) Sub.ent ?_
                  refine S.dr_takeN 15 [] rfl (by kernel_rfl) rfl rfl rfl (rfl) rfl rfl Sub.ent ?_
                  refine S.dr_takeN 16 [] rfl (by kernel_rfl) rfl rfl rfl (rfl) rfl rfl Sub.ent ?_
                  refine S.dr_takeN 17 [] rfl (by kernel_rfl) rfl rfl rfl (rfl) rfl rfl Sub.ent ?_
                  refine S.dr_takeN 18 [] rfl (by kernel_rfl) rfl rfl rfl (rfl) rfl rfl Sub.ent ?_
                  refine S.dr_takeN 19 [] rfl (by kernel_rfl) rfl rfl rfl (rfl) rfl rfl Sub.ent ?_
                  refine S.dr_takeN 20 [] rfl (by kernel_rfl) rfl rfl rfl (rfl) rfl rfl Sub.ent ?_
                  refine S.dr_takeN 21 [] rfl (by kernel_rfl) rfl rfl rfl (rfl) rfl rfl Sub.ent ?_
                  refine S.dr_takeN 22 [] rfl (by kernel_rfl) rfl rfl rfl (rfl) rfl rfl Sub.ent ?_
                  refine S.dr_takeN 23 [] rfl (by kernel_rfl) rfl rfl rfl (rfl) rfl rfl Sub.ent ?_
                  refine S.dr_takeN 24 [] rfl (by kernel_rfl) rfl rfl rfl (rfl) rfl rfl Sub.ent ?_
                  refine S.dr_takeN 25 [] rfl (by kernel_rfl) rfl rfl rfl (rfl) rfl rfl Sub.ent ?_
                  refine S.dr_takeN 26 [] rfl (by kernel_rfl) rfl rfl rfl (rfl) rfl rfl Sub.ent ?_
                  refine S.dr_takeN 27 [] rfl (by kernel_rfl) rfl rfl rfl (rfl) rfl rfl Sub.ent ?_
                  refine S.dr_takeN 28 [] rfl (by kernel_rfl) rfl rfl rfl (rfl) rfl rfl Sub.ent ?_
                  refine S.dr_take 29 [] rfl (by kernel_rfl) rfl rfl rfl (q_pickF rfl (rfl) rfl) Sub.ent ?_
                  first | with_reducible refine S.dr_doneK (by kernel_rfl) ?_ | refine S.dr_done (by kernel_rfl) ?_
                  refine hK34 _ _ ?_
                  refine S.condF rfl ?_
                  refine S.skip ?_
                  with_reducible repeat (first | refine S.then_n ?_ | refine S.then_x ?_ | refine S.then_r ?_ | refine S.inBlock_n ?_ | refine S.inBlock_r ?_ | refine S.inBlock_x rfl ?_ | refine S.noGoto_r ?_ | refine S.noGoto_n ?_ | refine S.noGoto_x ?_)
                  with_reducible repeat (first | refine S.then_n ?_ | refine S.then_x ?_ | refine S.then_r ?_ | refine S.inBlock_n ?_ | refine S.inBlock_r ?_ | refine S.inBlock_x rfl ?_ | refine S.noGoto_r ?_ | refine S.noGoto_n ?_ | refine S.noGoto_x ?_)
                  refine hK32 _ _ ?_
                  refine S.region rfl ?_
                  refine S.op (S.q (q_add rfl rfl (inI64 (by omega) (by omega))) rfl rfl ?_)
                  refine S.op (S.q (q_move rfl) rfl rfl ?_)
                  first | with_reducible refine S.nilK ?_ | refine S.nil ?_
                  with_reducible repeat (first | refine S.then_n ?_ | refine S.then_x ?_ | refine S.then_r ?_ | refine S.inBlock_n ?_ | refine S.inBlock_r ?_ | refine S.inBlock_x rfl ?_ | refine S.noGoto_r ?_ | refine S.noGoto_n ?_ | refine S.noGoto_x ?_)
                  exact S.next (m4 - 1) (⟨z + 1, by omega, rfl, rfl⟩) (by omega) (by repeat (first | exact trivial | refine ⟨rfl, ?_⟩)) Sub.ent
              · refine S.exit ?_
                with_reducible repeat (first | refine S.then_n ?_ | refine S.then_x ?_ | refine S.then_r ?_ | refine S.inBlock_n ?_ | refine S.inBlock_r ?_ | refine S.inBlock_x rfl ?_ | refine S.noGoto_r ?_ | refine S.noGoto_n ?_ | refine S.noGoto_x ?_)
                with_reducible refine S.inBlock_s ?_
                with_reducible repeat (first | refine S.then_n ?_ | refine S.then_x ?_ | refine S.then_r ?_ | refine S.inBlock_n ?_ | refine S.inBlock_r ?_ | refine S.inBlock_x rfl ?_ | refine S.noGoto_r ?_ | refine S.noGoto_n ?_ | refine S.noGoto_x ?_)
                with_reducible repeat (first | refine S.then_n ?_ | refine S.then_x ?_ | refine S.then_r ?_ | refine S.inBlock_n ?_ | refine S.inBlock_r ?_ | refine S.inBlock_x rfl ?_ | refine S.noGoto_r ?_ | refine S.noGoto_n ?_ | refine S.noGoto_x ?_)
                refine hK27 _ _ ?_
                refine S.region rfl ?_
                refine S.op (S.q (q_add rfl rfl (inI64 (by omega) (by omega))) rfl rfl ?_)
                refine S.op (S.q (q_move rfl) rfl rfl ?_)
                first | with_reducible refine S.nilK ?_ | refine S.nil ?_
                with_reducible repeat (first | refine S.then_n ?_ | refine S.then_x ?_ | refine S.then_r ?_ | refine S.inBlock_n ?_ | refine S.inBlock_r ?_ | refine S.inBlock_x rfl ?_ | refine S.noGoto_r ?_ | refine S.noGoto_n ?_ | refine S.noGoto_x ?_)
                exact S.next (m3 - 1) (⟨p + 1, by omega, rfl, rfl⟩) (by omega) (by repeat (first | exact trivial | refine ⟨rfl, ?_⟩)) Sub.ent
            · refine S.exit ?_
              with_reducible repeat (first | refine S.then_n ?_ | refine S.then_x ?_ | refine S.then_r ?_ | refine S.inBlock_n ?_ | refine S.inBlock_r ?_ | refine S.inBlock_x rfl ?_ | refine S.noGoto_r ?_ | refine S.noGoto_n ?_ | refine S.noGoto_x ?_)
              with_reducible refine S.inBlock_s ?_
              with_reducible repeat (first | refine S.then_n ?_ | refine S.then_x ?_ | refine S.then_r ?_ | refine S.inBlock_n ?_ | refine S.inBlock_r ?_ | refine S.inBlock_x rfl ?_ | refine S.noGoto_r ?_ | refine S.noGoto_n ?_ | refine S.noGoto_x ?_)
              with_reducible repeat (first | refine S.then_n ?_ | refine S.then_x ?_ | refine S.then_r ?_ | refine S.inBlock_n ?_ | refine S.inBlock_r ?_ | refine S.inBlock_x rfl ?_ | refine S.noGoto_r ?_ | refine S.noGoto_n ?_ | refine S.noGoto_x ?_)
              refine hK20 _ _ ?_
              refine S.region rfl ?_
              refine S.op (S.q (q_add rfl rfl (inI64 (by omega) (by omega))) rfl rfl ?_)
              refine S.op (S.q (q_move rfl) rfl rfl ?_)
              first | with_reducible refine S.nilK ?_ | refine S.nil ?_
              with_reducible repeat (first | refine S.then_n ?_ | refine S.then_x ?_ | refine S.then_r ?_ | refine S.inBlock_n ?_ | refine S.inBlock_r ?_ | refine S.inBlock_x rfl ?_ | refine S.noGoto_r ?_ | refine S.noGoto_n ?_ | refine S.noGoto_x ?_)
              exact S.next (m2 - 1) (⟨j + 1, by omega, rfl, rfl⟩) (by omega) (by repeat (first | exact trivial | refine ⟨rfl, ?_⟩)) Sub.ent
        · refine S.exit ?_
          with_reducible repeat (first | refine S.then_n ?_ | refine S.then_x ?_ | refine S.then_r ?_ | refine S.inBlock_n ?_ | refine S.inBlock_r ?_ | refine S.inBlock_x rfl ?_ | refine S.noGoto_r ?_ | refine S.noGoto_n ?_ | refine S.noGoto_x ?_)
          with_reducible refine S.inBlock_s ?_
          with_reducible repeat (first | refine S.then_n ?_ | refine S.then_x ?_ | refine S.then_r ?_ | refine S.inBlock_n ?_ | refine S.inBlock_r ?_ | refine S.inBlock_x rfl ?_ | refine S.noGoto_r ?_ | refine S.noGoto_n ?_ | refine S.noGoto_x ?_)
          with_reducible repeat (first | refine S.then_n ?_ | refine S.then_x ?_ | refine S.then_r ?_ | refine S.inBlock_n ?_ | refine S.inBlock_r ?_ | refine S.inBlock_x rfl ?_ | refine S.noGoto_r ?_ | refine S.noGoto_n ?_ | refine S.noGoto_x ?_)
          refine hK11 _ _ ?_
          refine S.region rfl ?_
          refine S.op (S.q (q_add rfl rfl (inI64 (by omega) (by omega))) rfl rfl ?_)
          refine S.op (S.q (q_move rfl) rfl rfl ?_)
          first | with_reducible refine S.nilK ?_ | refine S.nil ?_
          with_reducible repeat (first | refine S.then_n ?_ | refine S.then_x ?_ | refine S.then_r ?_ | refine S.inBlock_n ?_ | refine S.inBlock_r ?_ | refine S.inBlock_x rfl ?_ | refine S.noGoto_r ?_ | refine S.noGoto_n ?_ | refine S.noGoto_x ?_)
          exact S.next (m - 1) (⟨i + 1, by omega, rfl, rfl⟩) (by omega) (by repeat (first | exact trivial | refine ⟨rfl, ?_⟩)) Sub.ent
  · refine S.exit ?_
    with_reducible repeat (first | refine S.then_n ?_ | refine S.then_x ?_ | refine S.then_r ?_ | refine S.inBlock_n ?_ | refine S.inBlock_r ?_ | refine S.inBlock_x rfl ?_ | refine S.noGoto_r ?_ | refine S.noGoto_n ?_ | refine S.noGoto_x ?_)
    with_reducible refine S.inBlock_s ?_
    with_reducible repeat (first | refine S.then_n ?_ | refine S.then_x ?_ | refine S.then_r ?_ | refine S.inBlock_n ?_ | refine S.inBlock_r ?_ | refine S.inBlock_x rfl ?_ | refine S.noGoto_r ?_ | refine S.noGoto_n ?_ | refine S.noGoto_x ?_)
    refine hK7 _ _ ?_
    refine S.seq fun K35 hK35 => ?_
    refine S.region rfl ?_
    refine S.op (S.q (q_assign rfl) rfl rfl ?_)
    first | with_reducible refine S.nilK ?_ | refine S.nil ?_
    refine hK35 _ _ ?_
    refine S.ret ?_
    with_reducible repeat (first | refine S.then_n ?_ | refine S.then_x ?_ | refine S.then_r ?_ | refine S.inBlock_n ?_ | refine S.inBlock_r ?_ | refine S.inBlock_x rfl ?_ | refine S.noGoto_r ?_ | refine S.noGoto_n ?_ | refine S.noGoto_x ?_)
    exact S.fin (rs := [_]) (vs := [_]) Try.results5 (⟨rfl, trivial⟩)  (⟨rfl, rfl⟩) Sub.ent
open Go.ChangeShapes Go.WideShapes Go.ChangeAt
theorem PlanRoom_law {H : Type} (enc : TypeId × Value → H) : LawWalk enc 5 Try.f5 := by
  intro W base args ds before hval hA _ _
  rw [Try.params5] at hA hval
  obtain ⟨v0, vs0, d0, ds0, p0, q0, hargs, rfl, rfl, h0, r0⟩ := trodAll_cons hA
  obtain ⟨v1, vs1, d1, ds1, p1, q1, rfl, rfl, rfl, h1, r1⟩ := trodAll_cons r0
  obtain ⟨rfl, rfl, rfl⟩ := trodAll_nil r1
  obtain rfl : args = #[v0, v1] := by cases args; simp_all
  obtain ⟨s0, P, e0, hP⟩ := rd_prof (arg_slice 4 Try.underlying22 (by kernel_rfl) (hval 0 22 v0 rfl rfl) h0)
  simp only [List.cons.injEq, and_true] at e0
  subst e0
  obtain ⟨l0, al0, e1, hAl⟩ := rd_asks (arg_slice 4 Try.underlying41 (by kernel_rfl) (hval 1 41 v1 rfl rfl) h1)
  simp only [List.cons.injEq, and_true] at e1
  subst e1
  exact law_run (PlanRoom_S s0 P l0 al0 W hP hAl)
set_option maxRecDepth 100000 in
theorem PlanRoom_lifted (os : Os) (started : os.Started) (H : Type) (enc : TypeId × Value → H) :
    ReturnsInHanded {} Try.checked os 5 .any (Rows.planRoomSpec.pre6 enc Try.prog Try.f5 Rows.planRoomRow.domain false) (Rows.planRoomSpec.post enc Try.prog Try.f5 false true false false) :=
  lift_true started Try.func5 (by kernel_rfl)
    (ChangeSpec.witness6 (enc := enc) (C := Try.checked) false ⟨#[], #[.slice none 0 0, .slice none 0 0], []⟩ 8 (by kernel_rfl) (by kernel_rfl) (by kernel_rfl) (by kernel_rfl))
    rfl rfl (by kernel_rfl) (fun ds h => by match ds, h with | [a0, a1], _ => rfl) (PlanRoom_law enc)
theorem PlanRoom_over : Rows.planRoomRow.holds Try.pinned (OpenSpec.ofChange Rows.planRoomSpec) :=
  OpenClaim.holds_of_wide 5 Try.f5 rfl rfl rfl rfl rfl rfl rfl ⟨rfl, rfl, rfl, rfl, rfl⟩ rfl rfl rfl rfl rfl (by kernel_rfl) Try.func5 (by kernel_rfl)
    (of_decide_eq_true (by kernel_rfl)) (by unfold Func.isWrapper; rw [if_neg (of_decide_eq_false (by kernel_rfl))]; exact ⟨rfl, rfl⟩)
    (fun os started H enc _ => PlanRoom_lifted os started H enc)
theorem PlanRoom_holds : Rows.PlanRoomSaid := PlanRoom_over
#print axioms PlanRoom_holds
end Go.Proofs.Ytknpddiffellgaa
