/- PlanFair: NOBODY WAITS LONGER FOR WHO CAME LATER: of any profile and any asks: none of those who may start now, started now where the plan has it, makes any ask ahead of it start later than it did. -/
import Derived.Test.YtknpddiffellgaaPlanK
import Derived.Test.YtknpddiffellgaaPlanM
import Derived.Test.YtknpddiffellgaaLift
namespace Go.Proofs.Ytknpddiffellgaa
open Go.RowKit
set_option maxRecDepth 20000
set_option linter.unusedVariables false
theorem rdSrB {os : List SR} {i : Nat} {o : SR} (h : os[i]? = some o) : RdS (alls os srB) o.v o.x.nodes.length 1 (ints o.x.nodes) := RdS.alls h rdOwnI
theorem now_mem {xs : List St} {z : Int} : ∀ {n : Nat}, z ∈ nowT xs n → ∃ i : Nat, i < n ∧ z = i ∧ ∃ x, xs[i]? = some x ∧ x.ok = true ∧ x.at_ = 0
  | 0, h => by cases h
  | n + 1, h => by
    rw [nowT, List.mem_append] at h
    rcases h with h | h
    · obtain ⟨i, h1, h2⟩ := now_mem h
      exact ⟨i, by omega, h2⟩
    · cases hx : xs[n]? with
      | none => rw [hx] at h; cases h
      | some x =>
        rw [hx] at h
        simp only at h
        split at h
        · rename_i hc
          rw [Bool.and_eq_true, decide_eq_true_eq] at hc
          exact ⟨n, by omega, List.mem_singleton.1 h, x, hx, hc.1, hc.2⟩
        · cases h
theorem del_same (xs : List St) : delR xs xs = false := del_false fun i x y h1 h2 => by
  rw [h1] at h2
  cases h2
  omega
set_option maxHeartbeats 2000000 in
theorem PlanFair_S (s0 : SV) (P : List RW) (l0 : SV) (al0 : List Ak) (W : World) (hP : RdP (old W) s0 P) (hA : RdS (old W) l0 al0.length 2 (al0.flatMap akC)) : LawS 9 [s0.v, l0.v] W := by
  refine Spec.of_body Try.func9 rfl Try.ntmps9 rfl ?_
  intro w0 Γ
  show S _ w0 [(0, s0.v), (1, l0.v)] (old W :: Γ) _
  obtain ⟨D, hD⟩ : ∃ D, D = fewR (dat P) := ⟨_, rfl⟩
  have hsm : Sml D := by rw [hD]; exact few_sml _
  obtain ⟨al, hal⟩ : ∃ al, al = al0.take 20 := ⟨_, rfl⟩
  have hall : al.length ≤ 20 := by rw [hal, List.length_take]; omega
  obtain ⟨A, hAA⟩ : ∃ A, A = planR D al := ⟨_, rfl⟩
  have hAl2 : A.length = al.length := by rw [hAA, planR_length]
  refine S.seq fun K1 hK1 => ?_
  refine S.region rfl ?_
  refine S.op (S.q (q_assign rfl) rfl rfl ?_)
  first | with_reducible refine S.nilK ?_ | refine S.nil ?_
  refine hK1 _ _ ?_
  refine S.seq fun K2 hK2 => ?_
  refine S.seq fun K3 hK3 => ?_
  refine S.region rfl ?_
  refine S.op (S.callP Try.en11 (vs := []) trivial (fun w hs => awake_P w) rfl ?_)
  refine S.op (S.q (q_not rfl) rfl rfl ?_)
  first | with_reducible refine S.nilK ?_ | refine S.nil ?_
  refine hK3 _ _ ?_
  refine S.condF rfl ?_
  refine S.skip ?_
  with_reducible repeat (first | refine S.then_n ?_ | refine S.then_x ?_ | refine S.then_r ?_ | refine S.inBlock_n ?_ | refine S.inBlock_r ?_ | refine S.inBlock_x rfl ?_ | refine S.noGoto_r ?_ | refine S.noGoto_n ?_ | refine S.noGoto_x ?_)
  refine hK2 _ _ ?_
  refine S.seq fun K4 hK4 => ?_
  refine S.region rfl ?_
  refine S.op (S.q (q_move rfl) rfl rfl ?_)
  refine S.op (S.call Try.en20 (vs := [_]) ⟨rfl, trivial⟩ (asks_S (old W) l0 al0 hA) rfl ?_)
  rintro v Θ ⟨u0, rfl, rfl⟩
  rw [← hal]
  refine S.ownLen u0 fun hul huc _ => ?_
  rw [flat_length akC_len] at hul
  have hRal : RdS (own u0 34 2 (al.flatMap akC)) u0 al.length 2 (al.flatMap akC) := by rw [show al.length = u0.n by omega]; exact RdS.own
  refine S.op (S.q (q_move rfl) rfl rfl ?_)
  refine S.op (S.q (q_extract rfl rfl) rfl rfl ?_)
  refine S.op (S.q (q_extract rfl rfl) rfl rfl ?_)
  refine S.op (S.q (q_assign rfl) rfl rfl ?_)
  refine S.op (S.q (q_assign rfl) rfl rfl ?_)
  first | with_reducible refine S.nilK ?_ | refine S.nil ?_
  refine hK4 _ _ ?_
  refine S.seq fun K5 hK5 => ?_
  refine S.region rfl ?_
  refine S.op (S.q (q_move rfl) rfl rfl ?_)
  refine S.op (S.call Try.en12 (vs := [_]) ⟨rfl, trivial⟩ (profile_S (old W) s0 P hP) rfl ?_)
  rintro v Θ ⟨s1, r1, rfl, hd1, rfl⟩
  rw [← hD] at hd1
  refine S.op (S.q (q_move rfl) rfl rfl ?_)
  refine S.op (S.call Try.en21 (vs := [_, _]) ⟨rfl, rfl, trivial⟩ (Plan_S (prof s1 r1) (own u0 34 2 (al.flatMap akC)) s1 r1 u0 al (by rw [hd1]; exact hsm) (by omega) (RdP.prof s1 r1) hRal) rfl ?_)
  rintro v Θ ⟨ua, oa, rfl, hoa, rfl⟩
  rw [hd1, ← hAA] at hoa
  refine S.op (S.q (q_assign rfl) rfl rfl ?_)
  first | with_reducible refine S.nilK ?_ | refine S.nil ?_
  refine hK5 _ _ ?_
  refine S.seq fun K6 hK6 => ?_
  refine S.seq fun K7 hK7 => ?_
  refine S.region rfl ?_
  refine S.op (S.q (q_move rfl) rfl rfl ?_)
  refine S.op (S.call Try.en12 (vs := [_]) ⟨rfl, trivial⟩ (profile_S (old W) s0 P hP) rfl ?_)
  rintro v Θ ⟨s2, r2, rfl, hd2, rfl⟩
  rw [← hD] at hd2
  refine S.op (S.q (q_move rfl) rfl rfl ?_)
  refine S.op (S.call Try.en23 (vs := [_, _]) ⟨rfl, rfl, trivial⟩ (Now_S (prof s2 r2) (own u0 34 2 (al.flatMap akC)) s2 r2 u0 al (by rw [hd2]; exact hsm) (by omega) (RdP.prof s2 r2) hRal) rfl ?_)
  rintro v Θ ⟨un, rfl, rfl⟩
  rw [show nowR (dat r2) al = nowT A al.length by rw [hd2]; unfold nowR; rw [← hAA]]
  refine S.rCap (rdOwnS (u := ua) (e := 32) (os := oa)) fun hna _ _ => ?_
  have hla : oa.length = A.length := by have := congrArg List.length hoa; rwa [List.length_map] at this
  obtain ⟨N, hN⟩ : ∃ N, N = nowT A al.length := ⟨_, rfl⟩
  rw [← hN]
  have hNl : N.length ≤ al.length := by rw [hN]; exact nowT_len A al.length
  refine S.ownIf un fun bn fn hbn hnl _ _ => ?_
  rw [List.length_map, Nat.mul_one] at hnl
  refine S.op (S.q (q_len Try.underlying25 rfl) rfl rfl ?_)
  refine S.op (S.q (q_move rfl) rfl rfl ?_)
  first | with_reducible refine S.nilK ?_ | refine S.nil ?_
  refine hK7 _ _ ?_
  refine S.block ?_
  refine S.loop (fun m ρ' Γ' => ∃ k : Nat, m + k = N.length ∧ ρ' = [(0, s0.v), (5, u0.v), (7, ua.v), (24, un.v), (25, .int .i64 un.n), (26, .int .i64 k)] ∧ Γ' = own un 3 1 (ints N) :: own ua 32 4 (oa.flatMap srC) :: alls oa srB :: own u0 34 2 (al.flatMap akC) :: old W :: Γ) (m := _) (ρ0 := _) (Γ0 := _) (⟨0, rfl, rfl, rfl⟩) (by repeat (first | exact trivial | refine ⟨rfl, ?_⟩)) Sub.ent ?_
  rintro m ρ' Γ' ⟨k, hmk, rfl, rfl⟩
  refine S.seq fun K8 hK8 => ?_
  refine S.region rfl ?_
  refine S.op (S.q (q_lt rfl rfl) rfl rfl ?_)
  first | with_reducible refine S.nilK ?_ | refine S.nil ?_
  refine hK8 _ _ ?_
  refine S.seq fun K9 hK9 => ?_
  refine S.condD rfl (fun h2 => ?_) (fun h2 => ?_)
  · obtain ⟨z, hz⟩ := getE (l := N) (i := k) (by omega)
    obtain ⟨i, hi, rfl, x0, hx0, hok, hat⟩ := now_mem (show z ∈ nowT A al.length by rw [← hN]; exact List.mem_of_getElem? hz)
    obtain ⟨o, ho⟩ := getE (l := oa) (i := i) (by omega)
    obtain ⟨a, ha⟩ := getE (l := al) (i := i) (by omega)
    have hox : o.x = x0 := by
      have h1 : (oa.map SR.x)[i]? = some o.x := by rw [List.getElem?_map, ho]; rfl
      rw [hoa, hx0] at h1
      exact (Option.some.inj h1).symm
    subst hox
    have hfair := (fair_plan al D i o.x a.len (by rw [← hAA]; exact hx0) hok hat).2
    have hRi : RdS (own u0 34 2 (al.flatMap akC)) ⟨u0.a, i, u0.c⟩ (al.take i).length 2 ((al.take i).flatMap akC) := rdTakeA hRal (by omega)
    have htl : (al.take i).length = i := by rw [List.length_take]; omega
    refine S.ownSome ua (by omega) fun ba fa hba _ _ _ => ?_
    refine S.ownSome u0 (by omega) fun b0 f0 hb0 _ _ _ => ?_
    refine S.skip ?_
    with_reducible repeat (first | refine S.then_n ?_ | refine S.then_x ?_ | refine S.then_r ?_ | refine S.inBlock_n ?_ | refine S.inBlock_r ?_ | refine S.inBlock_x rfl ?_ | refine S.noGoto_r ?_ | refine S.noGoto_n ?_ | refine S.noGoto_x ?_)
    refine hK9 _ _ ?_
    refine S.seq fun K10 hK10 => ?_
    refine S.block ?_
    refine S.seq fun K11 hK11 => ?_
    refine S.region rfl ?_
    refine S.op (S.q (q_indexO (k) Try.el25 rfl (hbn (by omega)) rfl rfl (by omega)) rfl rfl ?_)
    refine S.op (S.q (q_loadOw (un) (k * 1) Try.at3 rfl (hbn (by omega)) (by first | rfl | exact Nat.add_assoc _ _ _ | omega) (by rw [Nat.mul_one]; exact ints_get hz)) rfl rfl ?_)
    refine S.op (S.q (q_assign rfl) rfl rfl ?_)
    first | with_reducible refine S.nilK ?_ | refine S.nil ?_
    refine hK11 _ _ ?_
    refine S.seq fun K12 hK12 => ?_
    refine S.draw ([old W, own ua 32 4 (oa.flatMap srC), alls oa srB, own u0 34 2 (al.flatMap akC)]) [] Try.mixed ?_
    refine S.dr_take 0 [] rfl (by kernel_rfl) rfl rfl rfl (q_move rfl) Sub.ent ?_
    refine S.dr_take 2 [] rfl (by kernel_rfl) rfl rfl rfl (q_move rfl) Sub.ent ?_
    refine S.dr_take 3 [] rfl (by kernel_rfl) rfl rfl rfl (q_move rfl) Sub.ent ?_
    refine S.dr_take 4 [] rfl (by kernel_rfl) rfl rfl rfl (q_sliceTo (i) Try.el42 rfl rfl rfl (by omega)) Sub.ent ?_
    refine S.dr_take 5 [] rfl (by kernel_rfl) rfl rfl rfl (q_move rfl) Sub.ent ?_
    refine S.dr_take 6 [] rfl (by kernel_rfl) rfl rfl rfl (q_move rfl) Sub.ent ?_
    refine S.dr_take 7 [] rfl (by kernel_rfl) rfl rfl rfl (q_indexO (i) Try.el45 rfl hba rfl rfl (by omega)) Sub.ent ?_
    refine S.dr_take 8 [] rfl (by kernel_rfl) rfl rfl rfl (q_loadOwS (ua) (i * 4) [_, _, _, _] Try.ag32 rfl hba (by first | rfl | exact Nat.add_assoc _ _ _ | omega) rfl (flat_seg (enc := srC) (sz := 4) srC_len ho)) Sub.ent ?_
    refine S.dr_take 9 [] rfl (by kernel_rfl) rfl rfl rfl (q_move rfl) Sub.ent ?_
    refine S.dr_take 10 [] rfl (by kernel_rfl) rfl rfl rfl (q_move rfl) Sub.ent ?_
    refine S.dr_take 11 [] rfl (by kernel_rfl) rfl rfl rfl (q_indexO (i) Try.el42 rfl hb0 rfl rfl (by omega)) Sub.ent ?_
    refine S.dr_take 12 [] rfl (by kernel_rfl) rfl rfl rfl (q_field Try.fo34_1 rfl) Sub.ent ?_
    refine S.dr_take 13 [] rfl (by kernel_rfl) rfl rfl rfl (q_loadOw (u0) (i * 2 + 1) Try.at3 rfl hb0 (by first | rfl | exact Nat.add_assoc _ _ _ | omega) (flat_get (enc := akC) (sz := 2) (k := 1) akC_len ha rfl)) Sub.ent ?_
    refine S.dr_1 (i := 1) (by kernel_rfl) rfl rfl ?_
    refine  (S.call Try.en12 (vs := [_]) ⟨rfl, trivial⟩ (profile_S (old W) s0 P hP) rfl ?_)
    rintro v Θ ⟨s3, r3, rfl, hd3, rfl⟩
    rw [← hD] at hd3
    refine S.dr_k rfl Sub.ent ?_
    refine S.dr_1 (i := 14) (by kernel_rfl) rfl rfl ?_
    refine  (S.call Try.en24 (vs := [_, _, _, _]) ⟨rfl, rfl, rfl, rfl, trivial⟩ (Delays_S (prof s3 r3) (own u0 34 2 (al.flatMap akC)) (alls oa srB) s3 r3 ⟨u0.a, i, u0.c⟩ (al.take i) o.v o.x a.len (by rw [hd3]; exact hsm) (by omega) (RdP.prof s3 r3) hRi (rdSrB ho)) rfl ?_)
    rintro v Θ ⟨rfl, rfl⟩
    rw [hd3, hfair, del_same]
    refine S.dr_k rfl Sub.ent ?_
    first | with_reducible refine S.dr_doneK (by kernel_rfl) ?_ | refine S.dr_done (by kernel_rfl) ?_
    refine hK12 _ _ ?_
    refine S.condF rfl ?_
    refine S.skip ?_
    with_reducible repeat (first | refine S.then_n ?_ | refine S.then_x ?_ | refine S.then_r ?_ | refine S.inBlock_n ?_ | refine S.inBlock_r ?_ | refine S.inBlock_x rfl ?_ | refine S.noGoto_r ?_ | refine S.noGoto_n ?_ | refine S.noGoto_x ?_)
    with_reducible repeat (first | refine S.then_n ?_ | refine S.then_x ?_ | refine S.then_r ?_ | refine S.inBlock_n ?_ | refine S.inBlock_r ?_ | refine S.inBlock_x rfl ?_ | refine S.noGoto_r ?_ | refine S.noGoto_n ?_ | refine S.noGoto_x ?_)
    refine hK10 _ _ ?_
    refine S.region rfl ?_
    refine S.op (S.q (q_add rfl rfl (inI64 (by omega) (by omega))) rfl rfl ?_)
    refine S.op (S.q (q_move rfl) rfl rfl ?_)
    first | with_reducible refine S.nilK ?_ | refine S.nil ?_
    with_reducible repeat (first | refine S.then_n ?_ | refine S.then_x ?_ | refine S.then_r ?_ | refine S.inBlock_n ?_ | refine S.inBlock_r ?_ | refine S.inBlock_x rfl ?_ | refine S.noGoto_r ?_ | refine S.noGoto_n ?_ | refine S.noGoto_x ?_)
    exact S.next (m - 1) (⟨k + 1, by omega, rfl, rfl⟩) (by omega) (by repeat (first | exact trivial | refine ⟨rfl, ?_⟩)) Sub.ent
  · refine S.exit ?_
    with_reducible repeat (first | refine S.then_n ?_ | refine S.then_x ?_ | refine S.then_r ?_ | refine S.inBlock_n ?_ | refine S.inBlock_r ?_ | refine S.inBlock_x rfl ?_ | refine S.noGoto_r ?_ | refine S.noGoto_n ?_ | refine S.noGoto_x ?_)
    with_reducible refine S.inBlock_s ?_
    with_reducible repeat (first | refine S.then_n ?_ | refine S.then_x ?_ | refine S.then_r ?_ | refine S.inBlock_n ?_ | refine S.inBlock_r ?_ | refine S.inBlock_x rfl ?_ | refine S.noGoto_r ?_ | refine S.noGoto_n ?_ | refine S.noGoto_x ?_)
    refine hK6 _ _ ?_
    refine S.seq fun K13 hK13 => ?_
    refine S.region rfl ?_
    refine S.op (S.q (q_assign rfl) rfl rfl ?_)
    first | with_reducible refine S.nilK ?_ | refine S.nil ?_
    refine hK13 _ _ ?_
    refine S.ret ?_
    with_reducible repeat (first | refine S.then_n ?_ | refine S.then_x ?_ | refine S.then_r ?_ | refine S.inBlock_n ?_ | refine S.inBlock_r ?_ | refine S.inBlock_x rfl ?_ | refine S.noGoto_r ?_ | refine S.noGoto_n ?_ | refine S.noGoto_x ?_)
    exact S.fin (rs := [_]) (vs := [_]) Try.results9 (⟨rfl, trivial⟩)  (⟨rfl, rfl⟩) Sub.ent
open Go.ChangeShapes Go.WideShapes Go.ChangeAt
theorem PlanFair_law {H : Type} (enc : TypeId × Value → H) : LawWalk enc 9 Try.f9 := by
  intro W base args ds before hval hA _ _
  rw [Try.params9] at hA hval
  obtain ⟨v0, vs0, d0, ds0, p0, q0, hargs, rfl, rfl, h0, r0⟩ := trodAll_cons hA
  obtain ⟨v1, vs1, d1, ds1, p1, q1, rfl, rfl, rfl, h1, r1⟩ := trodAll_cons r0
  obtain ⟨rfl, rfl, rfl⟩ := trodAll_nil r1
  obtain rfl : args = #[v0, v1] := by cases args; simp_all
  obtain ⟨s0, P, e0, hP⟩ := rd_prof (arg_slice 4 Try.underlying22 (by kernel_rfl) (hval 0 22 v0 rfl rfl) h0)
  simp only [List.cons.injEq, and_true] at e0
  subst e0
  obtain ⟨l0, al0, e1, hAl⟩ := rd_asks (arg_slice 4 Try.underlying41 (by kernel_rfl) (hval 1 41 v1 rfl rfl) h1)
  simp only [List.cons.injEq, and_true] at e1
  subst e1
  exact law_run (PlanFair_S s0 P l0 al0 W hP hAl)
set_option maxRecDepth 100000 in
theorem PlanFair_lifted (os : Os) (started : os.Started) (H : Type) (enc : TypeId × Value → H) :
    ReturnsInHanded {} Try.checked os 9 .any (Rows.planFairSpec.pre6 enc Try.prog Try.f9 Rows.planFairRow.domain false) (Rows.planFairSpec.post enc Try.prog Try.f9 false true false false) :=
  lift_true started Try.func9 (by kernel_rfl)
    (ChangeSpec.witness6 (enc := enc) (C := Try.checked) false ⟨#[], #[.slice none 0 0, .slice none 0 0], []⟩ 8 (by kernel_rfl) (by kernel_rfl) (by kernel_rfl) (by kernel_rfl))
    rfl rfl (by kernel_rfl) (fun ds h => by match ds, h with | [a0, a1], _ => rfl) (PlanFair_law enc)
theorem PlanFair_over : Rows.planFairRow.holds Try.pinned (OpenSpec.ofChange Rows.planFairSpec) :=
  OpenClaim.holds_of_wide 9 Try.f9 rfl rfl rfl rfl rfl rfl rfl ⟨rfl, rfl, rfl, rfl, rfl⟩ rfl rfl rfl rfl rfl (by kernel_rfl) Try.func9 (by kernel_rfl)
    (of_decide_eq_true (by kernel_rfl)) (by unfold Func.isWrapper; rw [if_neg (of_decide_eq_false (by kernel_rfl))]; exact ⟨rfl, rfl⟩)
    (fun os started H enc _ => PlanFair_lifted os started H enc)
theorem PlanFair_holds : Rows.PlanFairSaid := PlanFair_over
#print axioms PlanFair_holds
end Go.Proofs.Ytknpddiffellgaa
