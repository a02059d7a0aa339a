/- PlanFew: a shorter queue is planned as the longer one's beginning. -/
import Derived.Test.YtknpddiffellgaaPlanK
import Derived.Test.YtknpddiffellgaaLift
namespace Go.Proofs.Ytknpddiffellgaa
open Go.RowKit
set_option maxRecDepth 20000
set_option linter.unusedVariables false
theorem planR_take : ∀ (n : Nat) (l : List Ak) (D : List (List Int)), planR D (l.take n) = (planR D l).take n
  | 0, _, _ => by simp [planR]
  | n + 1, [], _ => rfl
  | n + 1, a :: l, D => by
    rw [List.take_succ_cons, planR, planR, List.take_succ_cons, planR_take n l]
theorem rdSrB {os : List SR} {i : Nat} {o : SR} (h : os[i]? = some o) : RdS (alls os srB) o.v o.x.nodes.length 1 (ints o.x.nodes) := RdS.alls h rdOwnI
set_option maxHeartbeats 2000000 in
theorem PlanFew_S (s0 : SV) (P : List RW) (l0 : SV) (al0 : List Ak) (q : Int) (W : World) (hq : 0 ≤ q ∧ q ≤ 255) (hP : RdP (old W) s0 P) (hA : RdS (old W) l0 al0.length 2 (al0.flatMap akC)) : LawS 8 [s0.v, l0.v, .int .u8 q] W := by
  refine Spec.of_body Try.func8 rfl Try.ntmps8 rfl ?_
  intro w0 Γ
  show S _ w0 [(0, s0.v), (1, l0.v), (2, .int .u8 q)] (old W :: Γ) _
  obtain ⟨D, hD⟩ : ∃ D, D = fewR (dat P) := ⟨_, rfl⟩
  have hsm : Sml D := by rw [hD]; exact few_sml _
  obtain ⟨al, hal⟩ : ∃ al, al = al0.take 20 := ⟨_, rfl⟩
  have hall : al.length ≤ 20 := by rw [hal, List.length_take]; omega
  refine S.seq fun K1 hK1 => ?_
  refine S.region rfl ?_
  refine S.op (S.q (q_assign rfl) rfl rfl ?_)
  first | with_reducible refine S.nilK ?_ | refine S.nil ?_
  refine hK1 _ _ ?_
  refine S.seq fun K2 hK2 => ?_
  refine S.seq fun K3 hK3 => ?_
  refine S.region rfl ?_
  refine S.op (S.callP Try.en11 (vs := []) trivial (fun w hs => awake_P w) rfl ?_)
  refine S.op (S.q (q_not rfl) rfl rfl ?_)
  first | with_reducible refine S.nilK ?_ | refine S.nil ?_
  refine hK3 _ _ ?_
  refine S.condF rfl ?_
  refine S.skip ?_
  with_reducible repeat (first | refine S.then_n ?_ | refine S.then_x ?_ | refine S.then_r ?_ | refine S.inBlock_n ?_ | refine S.inBlock_r ?_ | refine S.inBlock_x rfl ?_ | refine S.noGoto_r ?_ | refine S.noGoto_n ?_ | refine S.noGoto_x ?_)
  refine hK2 _ _ ?_
  refine S.seq fun K4 hK4 => ?_
  refine S.region rfl ?_
  refine S.op (S.q (q_move rfl) rfl rfl ?_)
  refine S.op (S.call Try.en20 (vs := [_]) ⟨rfl, trivial⟩ (asks_S (old W) l0 al0 hA) rfl ?_)
  rintro v Θ ⟨u0, rfl, rfl⟩
  rw [← hal]
  refine S.ownLen u0 fun hul huc _ => ?_
  rw [flat_length akC_len] at hul
  obtain ⟨n, hn⟩ : ∃ n : Nat, q % ((u0.n : Int) + 1) = n := ⟨(q % ((u0.n : Int) + 1)).toNat, by rw [Int.toNat_of_nonneg (Int.emod_nonneg _ (by omega))]⟩
  have hnlt : n ≤ al.length := by have := Int.emod_lt_of_pos q (show (0 : Int) < (u0.n : Int) + 1 by omega); omega
  have hR0 : RdS (own u0 34 2 (al.flatMap akC)) u0 u0.n 2 (al.flatMap akC) := RdS.own
  have hRal : RdS (own u0 34 2 (al.flatMap akC)) u0 al.length 2 (al.flatMap akC) := by rw [show al.length = u0.n by omega]; exact hR0
  have hRn : RdS (own u0 34 2 (al.flatMap akC)) ⟨u0.a, n, u0.c⟩ (al.take n).length 2 ((al.take n).flatMap akC) := rdTakeA hRal hnlt
  have htl : (al.take n).length = n := by rw [List.length_take]; omega
  refine S.op (S.q (q_move rfl) rfl rfl ?_)
  refine S.op (S.q (q_extract rfl rfl) rfl rfl ?_)
  refine S.op (S.q (q_extract rfl rfl) rfl rfl ?_)
  refine S.op (S.q (q_assign rfl) rfl rfl ?_)
  refine S.op (S.q (q_assign rfl) rfl rfl ?_)
  first | with_reducible refine S.nilK ?_ | refine S.nil ?_
  refine hK4 _ _ ?_
  refine S.seq fun K5 hK5 => ?_
  refine S.region rfl ?_
  refine S.op (S.q (q_move rfl) rfl rfl ?_)
  refine S.op (S.q (q_conv Try.it3 (by rw [Try.underlying5]; rfl) rfl (inI64 (by omega) (by omega))) rfl rfl ?_)
  refine S.op (S.q (q_move rfl) rfl rfl ?_)
  refine S.op (S.q (q_len Try.underlying42 rfl) rfl rfl ?_)
  refine S.op (S.q (q_add rfl rfl (inI64 (by omega) (by omega))) rfl rfl ?_)
  refine S.op (S.q (q_rem rfl rfl (⟨by omega, by omega⟩)) rfl rfl ?_)
  rw [hn]
  refine S.op (S.q (q_assign rfl) rfl rfl ?_)
  first | with_reducible refine S.nilK ?_ | refine S.nil ?_
  refine hK5 _ _ ?_
  refine S.seq fun K6 hK6 => ?_
  refine S.draw ([old W, own u0 34 2 (al.flatMap akC)]) [] Try.mixed ?_
  refine S.dr_take 0 [] rfl (by kernel_rfl) rfl rfl rfl (q_move rfl) Sub.ent ?_
  refine S.dr_take 2 [] rfl (by kernel_rfl) rfl rfl rfl (q_move rfl) Sub.ent ?_
  refine S.dr_take 4 [] rfl (by kernel_rfl) rfl rfl rfl (q_move rfl) Sub.ent ?_
  refine S.dr_take 6 [] rfl (by kernel_rfl) rfl rfl rfl (q_move rfl) Sub.ent ?_
  refine S.dr_take 7 [] rfl (by kernel_rfl) rfl rfl rfl (q_move rfl) Sub.ent ?_
  refine S.dr_take 8 [] rfl (by kernel_rfl) rfl rfl rfl (q_sliceTo (n) Try.el42 rfl rfl rfl (by omega)) Sub.ent ?_
  refine S.dr_1 (i := 1) (by kernel_rfl) rfl rfl ?_
  refine  (S.call Try.en12 (vs := [_]) ⟨rfl, trivial⟩ (profile_S (old W) s0 P hP) rfl ?_)
  rintro v Θ ⟨s1, r1, rfl, hd1, rfl⟩
  rw [← hD] at hd1
  refine S.dr_k rfl Sub.ent ?_
  refine S.dr_1 (i := 3) (by kernel_rfl) rfl rfl ?_
  refine  (S.call Try.en21 (vs := [_, _]) ⟨rfl, rfl, trivial⟩ (Plan_S (prof s1 r1) (own u0 34 2 (al.flatMap akC)) s1 r1 u0 al (by rw [hd1]; exact hsm) (by omega) (RdP.prof s1 r1) hRal) rfl ?_)
  rintro v Θ ⟨ua, oa, rfl, hoa, rfl⟩
  rw [hd1] at hoa
  refine S.dr_k rfl Sub.ent ?_
  refine S.dr_1 (i := 5) (by kernel_rfl) rfl rfl ?_
  refine  (S.call Try.en12 (vs := [_]) ⟨rfl, trivial⟩ (profile_S (old W) s0 P hP) rfl ?_)
  rintro v Θ ⟨s2, r2, rfl, hd2, rfl⟩
  rw [← hD] at hd2
  refine S.dr_k rfl Sub.ent ?_
  refine S.dr_1 (i := 9) (by kernel_rfl) rfl rfl ?_
  refine  (S.call Try.en21 (vs := [_, _]) ⟨rfl, rfl, trivial⟩ (Plan_S (prof s2 r2) (own u0 34 2 (al.flatMap akC)) s2 r2 ⟨u0.a, n, u0.c⟩ (al.take n) (by rw [hd2]; exact hsm) (by omega) (RdP.prof s2 r2) hRn) rfl ?_)
  rintro v Θ ⟨ub, ob, rfl, hob, rfl⟩
  rw [hd2, planR_take, ← hoa] at hob
  refine S.dr_k rfl Sub.ent ?_
  refine S.dr_take 10 [] rfl (by kernel_rfl) rfl rfl rfl (q_assign rfl) Sub.ent ?_
  refine S.dr_take 11 [] rfl (by kernel_rfl) rfl rfl rfl (q_assign rfl) Sub.ent ?_
  first | with_reducible refine S.dr_doneK (by kernel_rfl) ?_ | refine S.dr_done (by kernel_rfl) ?_
  refine hK6 _ _ ?_
  refine S.seq fun K7 hK7 => ?_
  refine S.seq fun K8 hK8 => ?_
  refine S.region rfl ?_
  refine S.rCap (rdOwnS (u := ua) (e := 32) (os := oa)) fun hna _ _ => ?_
  refine S.rCap (rdOwnS (u := ub) (e := 32) (os := ob)) fun hnb _ _ => ?_
  have hla : oa.length = al.length := by have := congrArg List.length hoa; rwa [List.length_map, planR_length] at this
  have hlb : ob.length = n := by have := congrArg List.length hob; rw [List.length_map, List.length_take, List.length_map] at this; omega
  refine S.op (S.q (q_move rfl) rfl rfl ?_)
  refine S.op (S.q (q_len Try.underlying45 rfl) rfl rfl ?_)
  refine S.op (S.q (q_move rfl) rfl rfl ?_)
  refine S.op (S.q (q_ne rfl rfl) rfl rfl ?_)
  first | with_reducible refine S.nilK ?_ | refine S.nil ?_
  refine hK8 _ _ ?_
  refine S.condD rfl (fun h2 => ?_) (fun h2 => ?_)
  · exact absurd (show ((ub.n : Nat) : Int) = n by omega) h2
  · refine S.skip ?_
    with_reducible repeat (first | refine S.then_n ?_ | refine S.then_x ?_ | refine S.then_r ?_ | refine S.inBlock_n ?_ | refine S.inBlock_r ?_ | refine S.inBlock_x rfl ?_ | refine S.noGoto_r ?_ | refine S.noGoto_n ?_ | refine S.noGoto_x ?_)
    refine hK7 _ _ ?_
    refine S.seq fun K9 hK9 => ?_
    refine S.seq fun K10 hK10 => ?_
    refine S.region rfl ?_
    refine S.op (S.q (q_move rfl) rfl rfl ?_)
    refine S.op (S.q (q_len Try.underlying45 rfl) rfl rfl ?_)
    refine S.op (S.q (q_move rfl) rfl rfl ?_)
    first | with_reducible refine S.nilK ?_ | refine S.nil ?_
    refine hK10 _ _ ?_
    refine S.block ?_
    refine S.loop (fun m ρ' Γ' => ∃ i : Nat, m + i = n ∧ ρ' = [(10, ua.v), (11, ub.v), (41, .int .i64 ub.n), (42, .int .i64 i)] ∧ Γ' = own ua 32 4 (oa.flatMap srC) :: own ub 32 4 (ob.flatMap srC) :: alls oa srB :: alls ob srB :: old W :: Γ) (m := _) (ρ0 := _) (Γ0 := _) (⟨0, rfl, rfl, rfl⟩) (by repeat (first | exact trivial | refine ⟨rfl, ?_⟩)) Sub.ent ?_
    rintro m ρ' Γ' ⟨i, hmi, rfl, rfl⟩
    refine S.seq fun K11 hK11 => ?_
    refine S.region rfl ?_
    refine S.op (S.q (q_lt rfl rfl) rfl rfl ?_)
    first | with_reducible refine S.nilK ?_ | refine S.nil ?_
    refine hK11 _ _ ?_
    refine S.seq fun K12 hK12 => ?_
    refine S.condD rfl (fun h3 => ?_) (fun h3 => ?_)
    · obtain ⟨x, hx⟩ := getE (l := oa) (i := i) (by omega)
      obtain ⟨y, hy⟩ := getE (l := ob) (i := i) (by omega)
      have hxy : y.x = x.x := by
        have h1 : (ob.map SR.x)[i]? = some y.x := by rw [List.getElem?_map, hy]; rfl
        rw [hob, List.getElem?_take_of_lt (by omega), List.getElem?_map, hx] at h1
        exact (Option.some.inj h1).symm
      refine S.ownSome ua (by omega) fun ba fa hba _ _ _ => ?_
      refine S.ownSome ub (by omega) fun bb fb hbb _ _ _ => ?_
      refine S.skip ?_
      with_reducible repeat (first | refine S.then_n ?_ | refine S.then_x ?_ | refine S.then_r ?_ | refine S.inBlock_n ?_ | refine S.inBlock_r ?_ | refine S.inBlock_x rfl ?_ | refine S.noGoto_r ?_ | refine S.noGoto_n ?_ | refine S.noGoto_x ?_)
      refine hK12 _ _ ?_
      refine S.seq fun K13 hK13 => ?_
      refine S.block ?_
      refine S.seq fun K14 hK14 => ?_
      refine S.region rfl ?_
      refine S.op (S.q (q_move rfl) rfl rfl ?_)
      refine S.op (S.q (q_assign rfl) rfl rfl ?_)
      first | with_reducible refine S.nilK ?_ | refine S.nil ?_
      refine hK14 _ _ ?_
      refine S.seq fun K15 hK15 => ?_
      refine S.draw ([own ua 32 4 (oa.flatMap srC), own ub 32 4 (ob.flatMap srC), alls oa srB, alls ob srB]) [] Try.mixed ?_
      refine S.dr_take 0 [] rfl (by kernel_rfl) rfl rfl rfl (q_move rfl) Sub.ent ?_
      refine S.dr_take 1 [] rfl (by kernel_rfl) rfl rfl rfl (q_move rfl) Sub.ent ?_
      refine S.dr_take 2 [] rfl (by kernel_rfl) rfl rfl rfl (q_indexO (i) Try.el45 rfl hba rfl rfl (by omega)) Sub.ent ?_
      refine S.dr_take 3 [] rfl (by kernel_rfl) rfl rfl rfl (q_loadOwS (ua) (i * 4) [_, _, _, _] Try.ag32 rfl hba (by first | rfl | exact Nat.add_assoc _ _ _ | omega) rfl (flat_seg (enc := srC) (sz := 4) srC_len hx)) Sub.ent ?_
      refine S.dr_take 4 [] rfl (by kernel_rfl) rfl rfl rfl (q_move rfl) Sub.ent ?_
      refine S.dr_take 5 [] rfl (by kernel_rfl) rfl rfl rfl (q_move rfl) Sub.ent ?_
      refine S.dr_take 6 [] rfl (by kernel_rfl) rfl rfl rfl (q_indexO (i) Try.el45 rfl hbb rfl rfl (by omega)) Sub.ent ?_
      refine S.dr_take 7 [] rfl (by kernel_rfl) rfl rfl rfl (q_loadOwS (ub) (i * 4) [_, _, _, _] Try.ag32 rfl hbb (by first | rfl | exact Nat.add_assoc _ _ _ | omega) rfl (flat_seg (enc := srC) (sz := 4) srC_len hy)) Sub.ent ?_
      refine S.dr_1 (i := 8) (by kernel_rfl) rfl rfl ?_
      refine  (S.call Try.en16 (vs := [_, _]) ⟨rfl, rfl, trivial⟩ (Same_S (alls oa srB) (alls ob srB) x.v y.v x.x y.x (rdSrB hx) (rdSrB hy)) rfl ?_)
      rintro v Θ ⟨rfl, rfl⟩
      rw [decide_eq_true hxy.symm]
      refine S.dr_k rfl Sub.ent ?_
      refine S.dr_take 9 [] rfl (by kernel_rfl) rfl rfl rfl (q_not rfl) Sub.ent ?_
      first | with_reducible refine S.dr_doneK (by kernel_rfl) ?_ | refine S.dr_done (by kernel_rfl) ?_
      refine hK15 _ _ ?_
      refine S.condF rfl ?_
      refine S.skip ?_
      with_reducible repeat (first | refine S.then_n ?_ | refine S.then_x ?_ | refine S.then_r ?_ | refine S.inBlock_n ?_ | refine S.inBlock_r ?_ | refine S.inBlock_x rfl ?_ | refine S.noGoto_r ?_ | refine S.noGoto_n ?_ | refine S.noGoto_x ?_)
      with_reducible repeat (first | refine S.then_n ?_ | refine S.then_x ?_ | refine S.then_r ?_ | refine S.inBlock_n ?_ | refine S.inBlock_r ?_ | refine S.inBlock_x rfl ?_ | refine S.noGoto_r ?_ | refine S.noGoto_n ?_ | refine S.noGoto_x ?_)
      refine hK13 _ _ ?_
      refine S.region rfl ?_
      refine S.op (S.q (q_add rfl rfl (inI64 (by omega) (by omega))) rfl rfl ?_)
      refine S.op (S.q (q_move rfl) rfl rfl ?_)
      first | with_reducible refine S.nilK ?_ | refine S.nil ?_
      with_reducible repeat (first | refine S.then_n ?_ | refine S.then_x ?_ | refine S.then_r ?_ | refine S.inBlock_n ?_ | refine S.inBlock_r ?_ | refine S.inBlock_x rfl ?_ | refine S.noGoto_r ?_ | refine S.noGoto_n ?_ | refine S.noGoto_x ?_)
      exact S.next (m - 1) (⟨i + 1, by omega, rfl, rfl⟩) (by omega) (by repeat (first | exact trivial | refine ⟨rfl, ?_⟩)) Sub.ent
    · refine S.exit ?_
      with_reducible repeat (first | refine S.then_n ?_ | refine S.then_x ?_ | refine S.then_r ?_ | refine S.inBlock_n ?_ | refine S.inBlock_r ?_ | refine S.inBlock_x rfl ?_ | refine S.noGoto_r ?_ | refine S.noGoto_n ?_ | refine S.noGoto_x ?_)
      with_reducible refine S.inBlock_s ?_
      with_reducible repeat (first | refine S.then_n ?_ | refine S.then_x ?_ | refine S.then_r ?_ | refine S.inBlock_n ?_ | refine S.inBlock_r ?_ | refine S.inBlock_x rfl ?_ | refine S.noGoto_r ?_ | refine S.noGoto_n ?_ | refine S.noGoto_x ?_)
      refine hK9 _ _ ?_
      refine S.seq fun K16 hK16 => ?_
      refine S.region rfl ?_
      refine S.op (S.q (q_assign rfl) rfl rfl ?_)
      first | with_reducible refine S.nilK ?_ | refine S.nil ?_
      refine hK16 _ _ ?_
      refine S.ret ?_
      with_reducible repeat (first | refine S.then_n ?_ | refine S.then_x ?_ | refine S.then_r ?_ | refine S.inBlock_n ?_ | refine S.inBlock_r ?_ | refine S.inBlock_x rfl ?_ | refine S.noGoto_r ?_ | refine S.noGoto_n ?_ | refine S.noGoto_x ?_)
      exact S.fin (rs := [_]) (vs := [_]) Try.results8 (⟨rfl, trivial⟩)  (⟨rfl, rfl⟩) Sub.ent
open Go.ChangeShapes Go.WideShapes Go.ChangeAt
theorem PlanFew_law {H : Type} (enc : TypeId × Value → H) : LawWalk enc 8 Try.f8 := by
  intro W base args ds before hval hA _ _
  rw [Try.params8] at hA hval
  obtain ⟨v0, vs0, d0, ds0, p0, q0, hargs, rfl, rfl, h0, r0⟩ := trodAll_cons hA
  obtain ⟨v1, vs1, d1, ds1, p1, q1, rfl, rfl, rfl, h1, r1⟩ := trodAll_cons r0
  obtain ⟨v2, vs2, d2, ds2, p2, q2, rfl, rfl, rfl, h2, r2⟩ := trodAll_cons r1
  obtain ⟨rfl, rfl, rfl⟩ := trodAll_nil r2
  obtain rfl : args = #[v0, v1, v2] := by cases args; simp_all
  obtain ⟨s0, P, e0, hP⟩ := rd_prof (arg_slice 4 Try.underlying22 (by kernel_rfl) (hval 0 22 v0 rfl rfl) h0)
  simp only [List.cons.injEq, and_true] at e0
  subst e0
  obtain ⟨l0, al0, e1, hAl⟩ := rd_asks (arg_slice 4 Try.underlying41 (by kernel_rfl) (hval 1 41 v1 rfl rfl) h1)
  simp only [List.cons.injEq, and_true] at e1
  subst e1
  obtain ⟨q, rfl, hq⟩ := arg_int Try.underlying5 (hval 2 5 v2 rfl rfl) h2
  exact law_run (PlanFew_S s0 P l0 al0 q W (u8_rng hq) hP hAl)
set_option maxRecDepth 100000 in
theorem PlanFew_lifted (os : Os) (started : os.Started) (H : Type) (enc : TypeId × Value → H) :
    ReturnsInHanded {} Try.checked os 8 .any (Rows.planFewSpec.pre6 enc Try.prog Try.f8 Rows.planFewRow.domain false) (Rows.planFewSpec.post enc Try.prog Try.f8 false true false false) :=
  lift_true started Try.func8 (by kernel_rfl)
    (ChangeSpec.witness6 (enc := enc) (C := Try.checked) false ⟨#[], #[.slice none 0 0, .slice none 0 0, .int .u8 0], []⟩ 8 (by kernel_rfl) (by kernel_rfl) (by kernel_rfl) (by kernel_rfl))
    rfl rfl (by kernel_rfl) (fun ds h => by match ds, h with | [a0, a1, a2], _ => rfl) (PlanFew_law enc)
theorem PlanFew_over : Rows.planFewRow.holds Try.pinned (OpenSpec.ofChange Rows.planFewSpec) :=
  OpenClaim.holds_of_wide 8 Try.f8 rfl rfl rfl rfl rfl rfl rfl ⟨rfl, rfl, rfl, rfl, rfl⟩ rfl rfl rfl rfl rfl (by kernel_rfl) Try.func8 (by kernel_rfl)
    (of_decide_eq_true (by kernel_rfl)) (by unfold Func.isWrapper; rw [if_neg (of_decide_eq_false (by kernel_rfl))]; exact ⟨rfl, rfl⟩)
    (fun os started H enc _ => PlanFew_lifted os started H enc)
theorem PlanFew_holds : Rows.PlanFewSaid := PlanFew_over
#print axioms PlanFew_holds
end Go.Proofs.Ytknpddiffellgaa
