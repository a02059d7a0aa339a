/- PlanFirst: of any profile and any ask it is told where it starts, and what the profile is then; the profile that was handed in stays. -/
import Derived.Test.YtknpddiffellgaaPlanK
import Derived.Test.YtknpddiffellgaaLift
namespace Go.Proofs.Ytknpddiffellgaa
open Go.RowKit
set_option maxRecDepth 20000
set_option linter.unusedVariables false
set_option maxHeartbeats 2000000 in
theorem PlanFirst_S (s0 : SV) (P : List RW) (a : Ak) (ux : SV) (x : St) (W : World) (hP : RdP (old W) s0 P) (hx : RdS (old W) ux x.nodes.length 1 (ints x.nodes)) : LawS 3 [s0.v, .agg (akC a).toArray, .agg (stC ux x).toArray] W := by
  refine Spec.of_body Try.func3 rfl Try.ntmps3 rfl ?_
  intro w0 Γ
  show S _ w0 [(0, s0.v), (1, .agg (akC a).toArray), (2, .agg (stC ux x).toArray)] (old W :: Γ) _
  obtain ⟨D, hD⟩ : ∃ D, D = fewR (dat P) := ⟨_, rfl⟩
  have hsm : Sml D := by rw [hD]; exact few_sml _
  obtain ⟨F, hF⟩ : ∃ F, F = firstR D a.k := ⟨_, rfl⟩
  refine S.rCap hx fun hxn hxc _ => ?_
  have hT := rdTakeI hx (k := min x.nodes.length 20) (by omega)
  rw [take_min20] at hT
  have hQ : RdS (old W) ⟨ux.a, min x.nodes.length 20, ux.c⟩ (x.nodes.take 20).length 1 (ints (x.nodes.take 20)) := by
    rw [show (x.nodes.take 20).length = min x.nodes.length 20 by rw [List.length_take]; omega]
    exact hT
  refine S.seq fun K1 hK1 => ?_
  refine S.region rfl ?_
  refine S.op (S.box (cs := [_, _]) rfl rfl rfl ?_)
  intro b4
  refine S.op (S.box (cs := [_, _, _, _]) rfl rfl rfl ?_)
  intro b5
  refine S.op (S.q (q_assign rfl) rfl rfl ?_)
  first | with_reducible refine S.nilK ?_ | refine S.nil ?_
  refine hK1 _ _ ?_
  refine S.seq fun K2 hK2 => ?_
  refine S.seq fun K3 hK3 => ?_
  refine S.region rfl ?_
  refine S.op (S.callP Try.en11 (vs := []) trivial (fun w hs => awake_P w) rfl ?_)
  refine S.op (S.q (q_not rfl) rfl rfl ?_)
  first | with_reducible refine S.nilK ?_ | refine S.nil ?_
  refine hK3 _ _ ?_
  refine S.condF rfl ?_
  refine S.skip ?_
  with_reducible repeat (first | refine S.then_n ?_ | refine S.then_x ?_ | refine S.then_r ?_ | refine S.inBlock_n ?_ | refine S.inBlock_r ?_ | refine S.inBlock_x rfl ?_ | refine S.noGoto_r ?_ | refine S.noGoto_n ?_ | refine S.noGoto_x ?_)
  refine hK2 _ _ ?_
  refine S.seq fun K4 hK4 => ?_
  refine S.region rfl ?_
  refine S.op (S.q (q_move rfl) rfl rfl ?_)
  refine S.op (S.call Try.en12 (vs := [_]) ⟨rfl, trivial⟩ (profile_S (old W) s0 P hP) rfl ?_)
  rintro v Θ ⟨s1, r1, rfl, hd1, rfl⟩
  rw [← hD] at hd1
  have hm1 : Sml (dat r1) := by rw [hd1]; exact hsm
  refine S.op (S.q (q_move rfl) rfl rfl ?_)
  refine S.op (S.call Try.en13 (vs := [_]) ⟨rfl, trivial⟩ (Few_S (old W) s0 P hP) rfl ?_)
  rintro v Θ ⟨s2, r2, rfl, hd2, rfl⟩
  rw [← hD] at hd2
  have hm2 : Sml (dat r2) := by rw [hd2]; exact hsm
  refine S.op (S.q (q_assign rfl) rfl rfl ?_)
  refine S.op (S.q (q_assign rfl) rfl rfl ?_)
  first | with_reducible refine S.nilK ?_ | refine S.nil ?_
  refine hK4 _ _ ?_
  refine S.seq fun K5 hK5 => ?_
  refine S.cut (fun ρ' Γ' => ∃ (c9 c10 : Nat) (u1 u2 : SV), ρ' = [(4, .pointer (some ⟨b4, 0, none⟩)), (5, .pointer (some ⟨b5, 0, none⟩)), (7, s1.v), (8, s2.v), (9, .pointer (some ⟨c9, 0, none⟩)), (10, .pointer (some ⟨c10, 0, none⟩))] ∧ Γ' = blk c9 32 (stC u1 F).toArray :: blk c10 27 (stC u2 F).toArray :: own u1 3 1 (ints F.nodes) :: own u2 3 1 (ints F.nodes) :: prof s1 r1 :: prof s2 r2 :: blk b4 24 (akC a).toArray :: blk b5 27 (stC ux x).toArray :: old W :: Γ) ?_ ?_
  · refine S.draw ([prof s1 r1, prof s2 r2, blk b4 24 (akC a).toArray]) [] Try.mixed ?_
    refine S.dr_take 0 [] rfl (by kernel_rfl) rfl rfl rfl (q_move rfl) Sub.ent ?_
    refine S.dr_take 1 [] rfl (by kernel_rfl) rfl rfl rfl (q_loadS [_, _] Try.ag24 rfl rfl ⟨rfl, rfl, trivial⟩) Sub.ent ?_
    refine S.dr_take 3 [] rfl (by kernel_rfl) rfl rfl rfl (q_move rfl) Sub.ent ?_
    refine S.dr_take 4 [] rfl (by kernel_rfl) rfl rfl rfl (q_loadS [_, _] Try.ag24 rfl rfl ⟨rfl, rfl, trivial⟩) Sub.ent ?_
    refine S.dr_3 (i := 2) (j := 6) (l := 7) (by kernel_rfl) rfl rfl rfl rfl rfl rfl ?_ ?_ ?_
    · refine  (S.call Try.en14 (vs := [_, _]) ⟨rfl, rfl, trivial⟩ (First_S (prof s1 r1) s1 r1 a.k a.len hm1.len hm1.each (RdP.prof s1 r1)) rfl ?_)
      rintro v Θ ⟨u1, rfl, rfl⟩
      rw [hd1, ← hF]
      refine S.dr_k rfl Sub.ent ?_
      refine S.dr_3 (i := 5) (j := 6) (l := 7) (by kernel_rfl) rfl rfl rfl rfl rfl rfl ?_ ?_ ?_
      · refine  (S.call Try.en15 (vs := [_, _]) ⟨rfl, rfl, trivial⟩ (rFirst_S (prof s2 r2) s2 r2 a.k a.len hm2.len hm2.each (RdP.prof s2 r2)) rfl ?_)
        rintro v Θ ⟨u2, rfl, rfl⟩
        rw [hd2, ← hF]
        refine S.dr_k rfl Sub.ent ?_
        refine S.dr_2 (i := 6) (j := 7) (by kernel_rfl) rfl rfl rfl rfl ?_ ?_
        · refine  (S.alloc Try.z32 rfl ?_)
          intro b9
          refine S.dr_k rfl Sub.ent ?_
          refine S.dr_1 (i := 7) (by kernel_rfl) rfl rfl ?_
          refine  (S.alloc Try.z27 rfl ?_)
          intro b10
          refine S.dr_k rfl Sub.ent ?_
          refine S.dr_1 (i := 8) (by kernel_rfl) rfl rfl ?_
          refine  (S.storeS (cs' := [_, _, _, _]) Try.ag32 rfl rfl rfl rfl rfl rfl ?_)
          refine S.dr_k rfl Sub.ent ?_
          refine S.dr_1 (i := 9) (by kernel_rfl) rfl rfl ?_
          refine  (S.storeS (cs' := [_, _, _, _]) Try.ag27 rfl rfl rfl rfl rfl rfl ?_)
          refine S.dr_k rfl Sub.ent ?_
          first | with_reducible refine S.dr_doneK (by kernel_rfl) ?_ | refine S.dr_done (by kernel_rfl) ?_
          with_reducible repeat (first | refine S.then_n ?_ | refine S.then_x ?_ | refine S.then_r ?_ | refine S.inBlock_n ?_ | refine S.inBlock_r ?_ | refine S.inBlock_x rfl ?_ | refine S.noGoto_r ?_ | refine S.noGoto_n ?_ | refine S.noGoto_x ?_)
          exact S.meet ⟨b9, b10, u1, u2, rfl, rfl⟩ ⟨rfl, rfl, rfl, rfl, rfl, rfl, trivial⟩ Sub.ent
        · refine  (S.alloc Try.z27 rfl ?_)
          intro b10
          refine S.dr_k rfl Sub.ent ?_
          refine S.dr_1 (i := 6) (by kernel_rfl) rfl rfl ?_
          refine  (S.alloc Try.z32 rfl ?_)
          intro b9
          refine S.dr_k rfl Sub.ent ?_
          refine S.dr_1 (i := 8) (by kernel_rfl) rfl rfl ?_
          refine  (S.storeS (cs' := [_, _, _, _]) Try.ag32 rfl rfl rfl rfl rfl rfl ?_)
          refine S.dr_k rfl Sub.ent ?_
          refine S.dr_1 (i := 9) (by kernel_rfl) rfl rfl ?_
          refine  (S.storeS (cs' := [_, _, _, _]) Try.ag27 rfl rfl rfl rfl rfl rfl ?_)
          refine S.dr_k rfl Sub.ent ?_
          first | with_reducible refine S.dr_doneK (by kernel_rfl) ?_ | refine S.dr_done (by kernel_rfl) ?_
          with_reducible repeat (first | refine S.then_n ?_ | refine S.then_x ?_ | refine S.then_r ?_ | refine S.inBlock_n ?_ | refine S.inBlock_r ?_ | refine S.inBlock_x rfl ?_ | refine S.noGoto_r ?_ | refine S.noGoto_n ?_ | refine S.noGoto_x ?_)
          exact S.meet ⟨b9, b10, u1, u2, rfl, rfl⟩ ⟨rfl, rfl, rfl, rfl, rfl, rfl, trivial⟩ Sub.ent
      · refine  (S.alloc Try.z32 rfl ?_)
        intro b9
        refine S.dr_k rfl Sub.ent ?_
        refine S.dr_2 (i := 5) (j := 7) (by kernel_rfl) rfl rfl rfl rfl ?_ ?_
        · refine  (S.call Try.en15 (vs := [_, _]) ⟨rfl, rfl, trivial⟩ (rFirst_S (prof s2 r2) s2 r2 a.k a.len hm2.len hm2.each (RdP.prof s2 r2)) rfl ?_)
          rintro v Θ ⟨u2, rfl, rfl⟩
          rw [hd2, ← hF]
          refine S.dr_k rfl Sub.ent ?_
          refine S.dr_1 (i := 7) (by kernel_rfl) rfl rfl ?_
          refine  (S.alloc Try.z27 rfl ?_)
          intro b10
          refine S.dr_k rfl Sub.ent ?_
          refine S.dr_1 (i := 8) (by kernel_rfl) rfl rfl ?_
          refine  (S.storeS (cs' := [_, _, _, _]) Try.ag32 rfl rfl rfl rfl rfl rfl ?_)
          refine S.dr_k rfl Sub.ent ?_
          refine S.dr_1 (i := 9) (by kernel_rfl) rfl rfl ?_
          refine  (S.storeS (cs' := [_, _, _, _]) Try.ag27 rfl rfl rfl rfl rfl rfl ?_)
          refine S.dr_k rfl Sub.ent ?_
          first | with_reducible refine S.dr_doneK (by kernel_rfl) ?_ | refine S.dr_done (by kernel_rfl) ?_
          with_reducible repeat (first | refine S.then_n ?_ | refine S.then_x ?_ | refine S.then_r ?_ | refine S.inBlock_n ?_ | refine S.inBlock_r ?_ | refine S.inBlock_x rfl ?_ | refine S.noGoto_r ?_ | refine S.noGoto_n ?_ | refine S.noGoto_x ?_)
          exact S.meet ⟨b9, b10, u1, u2, rfl, rfl⟩ ⟨rfl, rfl, rfl, rfl, rfl, rfl, trivial⟩ Sub.ent
        · refine  (S.alloc Try.z27 rfl ?_)
          intro b10
          refine S.dr_k rfl Sub.ent ?_
          refine S.dr_1 (i := 5) (by kernel_rfl) rfl rfl ?_
          refine  (S.call Try.en15 (vs := [_, _]) ⟨rfl, rfl, trivial⟩ (rFirst_S (prof s2 r2) s2 r2 a.k a.len hm2.len hm2.each (RdP.prof s2 r2)) rfl ?_)
          rintro v Θ ⟨u2, rfl, rfl⟩
          rw [hd2, ← hF]
          refine S.dr_k rfl Sub.ent ?_
          refine S.dr_1 (i := 8) (by kernel_rfl) rfl rfl ?_
          refine  (S.storeS (cs' := [_, _, _, _]) Try.ag32 rfl rfl rfl rfl rfl rfl ?_)
          refine S.dr_k rfl Sub.ent ?_
          refine S.dr_1 (i := 9) (by kernel_rfl) rfl rfl ?_
          refine  (S.storeS (cs' := [_, _, _, _]) Try.ag27 rfl rfl rfl rfl rfl rfl ?_)
          refine S.dr_k rfl Sub.ent ?_
          first | with_reducible refine S.dr_doneK (by kernel_rfl) ?_ | refine S.dr_done (by kernel_rfl) ?_
          with_reducible repeat (first | refine S.then_n ?_ | refine S.then_x ?_ | refine S.then_r ?_ | refine S.inBlock_n ?_ | refine S.inBlock_r ?_ | refine S.inBlock_x rfl ?_ | refine S.noGoto_r ?_ | refine S.noGoto_n ?_ | refine S.noGoto_x ?_)
          exact S.meet ⟨b9, b10, u1, u2, rfl, rfl⟩ ⟨rfl, rfl, rfl, rfl, rfl, rfl, trivial⟩ Sub.ent
      · refine  (S.alloc Try.z27 rfl ?_)
        intro b10
        refine S.dr_k rfl Sub.ent ?_
        refine S.dr_2 (i := 5) (j := 6) (by kernel_rfl) rfl rfl rfl rfl ?_ ?_
        · refine  (S.call Try.en15 (vs := [_, _]) ⟨rfl, rfl, trivial⟩ (rFirst_S (prof s2 r2) s2 r2 a.k a.len hm2.len hm2.each (RdP.prof s2 r2)) rfl ?_)
          rintro v Θ ⟨u2, rfl, rfl⟩
          rw [hd2, ← hF]
          refine S.dr_k rfl Sub.ent ?_
          refine S.dr_1 (i := 6) (by kernel_rfl) rfl rfl ?_
          refine  (S.alloc Try.z32 rfl ?_)
          intro b9
          refine S.dr_k rfl Sub.ent ?_
          refine S.dr_1 (i := 8) (by kernel_rfl) rfl rfl ?_
          refine  (S.storeS (cs' := [_, _, _, _]) Try.ag32 rfl rfl rfl rfl rfl rfl ?_)
          refine S.dr_k rfl Sub.ent ?_
          refine S.dr_1 (i := 9) (by kernel_rfl) rfl rfl ?_
          refine  (S.storeS (cs' := [_, _, _, _]) Try.ag27 rfl rfl rfl rfl rfl rfl ?_)
          refine S.dr_k rfl Sub.ent ?_
          first | with_reducible refine S.dr_doneK (by kernel_rfl) ?_ | refine S.dr_done (by kernel_rfl) ?_
          with_reducible repeat (first | refine S.then_n ?_ | refine S.then_x ?_ | refine S.then_r ?_ | refine S.inBlock_n ?_ | refine S.inBlock_r ?_ | refine S.inBlock_x rfl ?_ | refine S.noGoto_r ?_ | refine S.noGoto_n ?_ | refine S.noGoto_x ?_)
          exact S.meet ⟨b9, b10, u1, u2, rfl, rfl⟩ ⟨rfl, rfl, rfl, rfl, rfl, rfl, trivial⟩ Sub.ent
        · refine  (S.alloc Try.z32 rfl ?_)
          intro b9
          refine S.dr_k rfl Sub.ent ?_
          refine S.dr_1 (i := 5) (by kernel_rfl) rfl rfl ?_
          refine  (S.call Try.en15 (vs := [_, _]) ⟨rfl, rfl, trivial⟩ (rFirst_S (prof s2 r2) s2 r2 a.k a.len hm2.len hm2.each (RdP.prof s2 r2)) rfl ?_)
          rintro v Θ ⟨u2, rfl, rfl⟩
          rw [hd2, ← hF]
          refine S.dr_k rfl Sub.ent ?_
          refine S.dr_1 (i := 8) (by kernel_rfl) rfl rfl ?_
          refine  (S.storeS (cs' := [_, _, _, _]) Try.ag32 rfl rfl rfl rfl rfl rfl ?_)
          refine S.dr_k rfl Sub.ent ?_
          refine S.dr_1 (i := 9) (by kernel_rfl) rfl rfl ?_
          refine  (S.storeS (cs' := [_, _, _, _]) Try.ag27 rfl rfl rfl rfl rfl rfl ?_)
          refine S.dr_k rfl Sub.ent ?_
          first | with_reducible refine S.dr_doneK (by kernel_rfl) ?_ | refine S.dr_done (by kernel_rfl) ?_
          with_reducible repeat (first | refine S.then_n ?_ | refine S.then_x ?_ | refine S.then_r ?_ | refine S.inBlock_n ?_ | refine S.inBlock_r ?_ | refine S.inBlock_x rfl ?_ | refine S.noGoto_r ?_ | refine S.noGoto_n ?_ | refine S.noGoto_x ?_)
          exact S.meet ⟨b9, b10, u1, u2, rfl, rfl⟩ ⟨rfl, rfl, rfl, rfl, rfl, rfl, trivial⟩ Sub.ent
    · refine  (S.alloc Try.z32 rfl ?_)
      intro b9
      refine S.dr_k rfl Sub.ent ?_
      refine S.dr_2 (i := 2) (j := 7) (by kernel_rfl) rfl rfl rfl rfl ?_ ?_
      · refine  (S.call Try.en14 (vs := [_, _]) ⟨rfl, rfl, trivial⟩ (First_S (prof s1 r1) s1 r1 a.k a.len hm1.len hm1.each (RdP.prof s1 r1)) rfl ?_)
        rintro v Θ ⟨u1, rfl, rfl⟩
        rw [hd1, ← hF]
        refine S.dr_k rfl Sub.ent ?_
        refine S.dr_2 (i := 5) (j := 7) (by kernel_rfl) rfl rfl rfl rfl ?_ ?_
        · refine  (S.call Try.en15 (vs := [_, _]) ⟨rfl, rfl, trivial⟩ (rFirst_S (prof s2 r2) s2 r2 a.k a.len hm2.len hm2.each (RdP.prof s2 r2)) rfl ?_)
          rintro v Θ ⟨u2, rfl, rfl⟩
          rw [hd2, ← hF]
          refine S.dr_k rfl Sub.ent ?_
          refine S.dr_1 (i := 7) (by kernel_rfl) rfl rfl ?_
          refine  (S.alloc Try.z27 rfl ?_)
          intro b10
          refine S.dr_k rfl Sub.ent ?_
          refine S.dr_1 (i := 8) (by kernel_rfl) rfl rfl ?_
          refine  (S.storeS (cs' := [_, _, _, _]) Try.ag32 rfl rfl rfl rfl rfl rfl ?_)
          refine S.dr_k rfl Sub.ent ?_
          refine S.dr_1 (i := 9) (by kernel_rfl) rfl rfl ?_
          refine  (S.storeS (cs' := [_, _, _, _]) Try.ag27 rfl rfl rfl rfl rfl rfl ?_)
          refine S.dr_k rfl Sub.ent ?_
          first | with_reducible refine S.dr_doneK (by kernel_rfl) ?_ | refine S.dr_done (by kernel_rfl) ?_
          with_reducible repeat (first | refine S.then_n ?_ | refine S.then_x ?_ | refine S.then_r ?_ | refine S.inBlock_n ?_ | refine S.inBlock_r ?_ | refine S.inBlock_x rfl ?_ | refine S.noGoto_r ?_ | refine S.noGoto_n ?_ | refine S.noGoto_x ?_)
          exact S.meet ⟨b9, b10, u1, u2, rfl, rfl⟩ ⟨rfl, rfl, rfl, rfl, rfl, rfl, trivial⟩ Sub.ent
        · refine  (S.alloc Try.z27 rfl ?_)
          intro b10
          refine S.dr_k rfl Sub.ent ?_
          refine S.dr_1 (i := 5) (by kernel_rfl) rfl rfl ?_
          refine  (S.call Try.en15 (vs := [_, _]) ⟨rfl, rfl, trivial⟩ (rFirst_S (prof s2 r2) s2 r2 a.k a.len hm2.len hm2.each (RdP.prof s2 r2)) rfl ?_)
          rintro v Θ ⟨u2, rfl, rfl⟩
          rw [hd2, ← hF]
          refine S.dr_k rfl Sub.ent ?_
          refine S.dr_1 (i := 8) (by kernel_rfl) rfl rfl ?_
          refine  (S.storeS (cs' := [_, _, _, _]) Try.ag32 rfl rfl rfl rfl rfl rfl ?_)
          refine S.dr_k rfl Sub.ent ?_
          refine S.dr_1 (i := 9) (by kernel_rfl) rfl rfl ?_
          refine  (S.storeS (cs' := [_, _, _, _]) Try.ag27 rfl rfl rfl rfl rfl rfl ?_)
          refine S.dr_k rfl Sub.ent ?_
          first | with_reducible refine S.dr_doneK (by kernel_rfl) ?_ | refine S.dr_done (by kernel_rfl) ?_
          with_reducible repeat (first | refine S.then_n ?_ | refine S.then_x ?_ | refine S.then_r ?_ | refine S.inBlock_n ?_ | refine S.inBlock_r ?_ | refine S.inBlock_x rfl ?_ | refine S.noGoto_r ?_ | refine S.noGoto_n ?_ | refine S.noGoto_x ?_)
          exact S.meet ⟨b9, b10, u1, u2, rfl, rfl⟩ ⟨rfl, rfl, rfl, rfl, rfl, rfl, trivial⟩ Sub.ent
      · refine  (S.alloc Try.z27 rfl ?_)
        intro b10
        refine S.dr_k rfl Sub.ent ?_
        refine S.dr_1 (i := 2) (by kernel_rfl) rfl rfl ?_
        refine  (S.call Try.en14 (vs := [_, _]) ⟨rfl, rfl, trivial⟩ (First_S (prof s1 r1) s1 r1 a.k a.len hm1.len hm1.each (RdP.prof s1 r1)) rfl ?_)
        rintro v Θ ⟨u1, rfl, rfl⟩
        rw [hd1, ← hF]
        refine S.dr_k rfl Sub.ent ?_
        refine S.dr_1 (i := 5) (by kernel_rfl) rfl rfl ?_
        refine  (S.call Try.en15 (vs := [_, _]) ⟨rfl, rfl, trivial⟩ (rFirst_S (prof s2 r2) s2 r2 a.k a.len hm2.len hm2.each (RdP.prof s2 r2)) rfl ?_)
        rintro v Θ ⟨u2, rfl, rfl⟩
        rw [hd2, ← hF]
        refine S.dr_k rfl Sub.ent ?_
        refine S.dr_1 (i := 8) (by kernel_rfl) rfl rfl ?_
        refine  (S.storeS (cs' := [_, _, _, _]) Try.ag32 rfl rfl rfl rfl rfl rfl ?_)
        refine S.dr_k rfl Sub.ent ?_
        refine S.dr_1 (i := 9) (by kernel_rfl) rfl rfl ?_
        refine  (S.storeS (cs' := [_, _, _, _]) Try.ag27 rfl rfl rfl rfl rfl rfl ?_)
        refine S.dr_k rfl Sub.ent ?_
        first | with_reducible refine S.dr_doneK (by kernel_rfl) ?_ | refine S.dr_done (by kernel_rfl) ?_
        with_reducible repeat (first | refine S.then_n ?_ | refine S.then_x ?_ | refine S.then_r ?_ | refine S.inBlock_n ?_ | refine S.inBlock_r ?_ | refine S.inBlock_x rfl ?_ | refine S.noGoto_r ?_ | refine S.noGoto_n ?_ | refine S.noGoto_x ?_)
        exact S.meet ⟨b9, b10, u1, u2, rfl, rfl⟩ ⟨rfl, rfl, rfl, rfl, rfl, rfl, trivial⟩ Sub.ent
    · refine  (S.alloc Try.z27 rfl ?_)
      intro b10
      refine S.dr_k rfl Sub.ent ?_
      refine S.dr_2 (i := 2) (j := 6) (by kernel_rfl) rfl rfl rfl rfl ?_ ?_
      · refine  (S.call Try.en14 (vs := [_, _]) ⟨rfl, rfl, trivial⟩ (First_S (prof s1 r1) s1 r1 a.k a.len hm1.len hm1.each (RdP.prof s1 r1)) rfl ?_)
        rintro v Θ ⟨u1, rfl, rfl⟩
        rw [hd1, ← hF]
        refine S.dr_k rfl Sub.ent ?_
        refine S.dr_2 (i := 5) (j := 6) (by kernel_rfl) rfl rfl rfl rfl ?_ ?_
        · refine  (S.call Try.en15 (vs := [_, _]) ⟨rfl, rfl, trivial⟩ (rFirst_S (prof s2 r2) s2 r2 a.k a.len hm2.len hm2.each (RdP.prof s2 r2)) rfl ?_)
          rintro v Θ ⟨u2, rfl, rfl⟩
          rw [hd2, ← hF]
          refine S.dr_k rfl Sub.ent ?_
          refine S.dr_1 (i := 6) (by kernel_rfl) rfl rfl ?_
          refine  (S.alloc Try.z32 rfl ?_)
          intro b9
          refine S.dr_k rfl Sub.ent ?_
          refine S.dr_1 (i := 8) (by kernel_rfl) rfl rfl ?_
          refine  (S.storeS (cs' := [_, _, _, _]) Try.ag32 rfl rfl rfl rfl rfl rfl ?_)
          refine S.dr_k rfl Sub.ent ?_
          refine S.dr_1 (i := 9) (by kernel_rfl) rfl rfl ?_
          refine  (S.storeS (cs' := [_, _, _, _]) Try.ag27 rfl rfl rfl rfl rfl rfl ?_)
          refine S.dr_k rfl Sub.ent ?_
          first | with_reducible refine S.dr_doneK (by kernel_rfl) ?_ | refine S.dr_done (by kernel_rfl) ?_
          with_reducible repeat (first | refine S.then_n ?_ | refine S.then_x ?_ | refine S.then_r ?_ | refine S.inBlock_n ?_ | refine S.inBlock_r ?_ | refine S.inBlock_x rfl ?_ | refine S.noGoto_r ?_ | refine S.noGoto_n ?_ | refine S.noGoto_x ?_)
          exact S.meet ⟨b9, b10, u1, u2, rfl, rfl⟩ ⟨rfl, rfl, rfl, rfl, rfl, rfl, trivial⟩ Sub.ent
        · refine  (S.alloc Try.z32 rfl ?_)
          intro b9
          refine S.dr_k rfl Sub.ent ?_
          refine S.dr_1 (i := 5) (by kernel_rfl) rfl rfl ?_
          refine  (S.call Try.en15 (vs := [_, _]) ⟨rfl, rfl, trivial⟩ (rFirst_S (prof s2 r2) s2 r2 a.k a.len hm2.len hm2.each (RdP.prof s2 r2)) rfl ?_)
          rintro v Θ ⟨u2, rfl, rfl⟩
          rw [hd2, ← hF]
          refine S.dr_k rfl Sub.ent ?_
          refine S.dr_1 (i := 8) (by kernel_rfl) rfl rfl ?_
          refine  (S.storeS (cs' := [_, _, _, _]) Try.ag32 rfl rfl rfl rfl rfl rfl ?_)
          refine S.dr_k rfl Sub.ent ?_
          refine S.dr_1 (i := 9) (by kernel_rfl) rfl rfl ?_
          refine  (S.storeS (cs' := [_, _, _, _]) Try.ag27 rfl rfl rfl rfl rfl rfl ?_)
          refine S.dr_k rfl Sub.ent ?_
          first | with_reducible refine S.dr_doneK (by kernel_rfl) ?_ | refine S.dr_done (by kernel_rfl) ?_
          with_reducible repeat (first | refine S.then_n ?_ | refine S.then_x ?_ | refine S.then_r ?_ | refine S.inBlock_n ?_ | refine S.inBlock_r ?_ | refine S.inBlock_x rfl ?_ | refine S.noGoto_r ?_ | refine S.noGoto_n ?_ | refine S.noGoto_x ?_)
          exact S.meet ⟨b9, b10, u1, u2, rfl, rfl⟩ ⟨rfl, rfl, rfl, rfl, rfl, rfl, trivial⟩ Sub.ent
      · refine  (S.alloc Try.z32 rfl ?_)
        intro b9
        refine S.dr_k rfl Sub.ent ?_
        refine S.dr_1 (i := 2) (by kernel_rfl) rfl rfl ?_
        refine  (S.call Try.en14 (vs := [_, _]) ⟨rfl, rfl, trivial⟩ (First_S (prof s1 r1) s1 r1 a.k a.len hm1.len hm1.each (RdP.prof s1 r1)) rfl ?_)
        rintro v Θ ⟨u1, rfl, rfl⟩
        rw [hd1, ← hF]
        refine S.dr_k rfl Sub.ent ?_
        refine S.dr_1 (i := 5) (by kernel_rfl) rfl rfl ?_
        refine  (S.call Try.en15 (vs := [_, _]) ⟨rfl, rfl, trivial⟩ (rFirst_S (prof s2 r2) s2 r2 a.k a.len hm2.len hm2.each (RdP.prof s2 r2)) rfl ?_)
        rintro v Θ ⟨u2, rfl, rfl⟩
        rw [hd2, ← hF]
        refine S.dr_k rfl Sub.ent ?_
        refine S.dr_1 (i := 8) (by kernel_rfl) rfl rfl ?_
        refine  (S.storeS (cs' := [_, _, _, _]) Try.ag32 rfl rfl rfl rfl rfl rfl ?_)
        refine S.dr_k rfl Sub.ent ?_
        refine S.dr_1 (i := 9) (by kernel_rfl) rfl rfl ?_
        refine  (S.storeS (cs' := [_, _, _, _]) Try.ag27 rfl rfl rfl rfl rfl rfl ?_)
        refine S.dr_k rfl Sub.ent ?_
        first | with_reducible refine S.dr_doneK (by kernel_rfl) ?_ | refine S.dr_done (by kernel_rfl) ?_
        with_reducible repeat (first | refine S.then_n ?_ | refine S.then_x ?_ | refine S.then_r ?_ | refine S.inBlock_n ?_ | refine S.inBlock_r ?_ | refine S.inBlock_x rfl ?_ | refine S.noGoto_r ?_ | refine S.noGoto_n ?_ | refine S.noGoto_x ?_)
        exact S.meet ⟨b9, b10, u1, u2, rfl, rfl⟩ ⟨rfl, rfl, rfl, rfl, rfl, rfl, trivial⟩ Sub.ent
  · rintro ρ' Γ' ⟨b9, b10, u1, u2, rfl, rfl⟩
    refine hK5 _ _ ?_
    refine S.seq fun K6 hK6 => ?_
    refine S.seq fun K7 hK7 => ?_
    refine S.draw ([prof s1 r1, prof s2 r2, blk b4 24 (akC a).toArray, blk b9 32 (stC u1 F).toArray, blk b10 27 (stC u2 F).toArray, own u1 3 1 (ints F.nodes), own u2 3 1 (ints F.nodes)]) [] Try.mixed ?_
    refine S.dr_take 0 [] rfl (by kernel_rfl) rfl rfl rfl (q_loadS [_, _, _, _] Try.ag32 rfl rfl ⟨rfl, rfl, rfl, rfl, trivial⟩) Sub.ent ?_
    refine S.dr_take 1 [] rfl (by kernel_rfl) rfl rfl rfl (q_loadS [_, _, _, _] Try.ag27 rfl rfl ⟨rfl, rfl, rfl, rfl, trivial⟩) Sub.ent ?_
    refine S.dr_1 (i := 2) (by kernel_rfl) rfl rfl ?_
    refine  (S.call Try.en16 (vs := [_, _]) ⟨rfl, rfl, trivial⟩ (Same_S (own u1 3 1 (ints F.nodes)) (own u2 3 1 (ints F.nodes)) u1 u2 F F rdOwnI rdOwnI) rfl ?_)
    rintro v Θ ⟨rfl, rfl⟩
    rw [decide_eq_true (show F = F from rfl)]
    refine S.dr_k rfl Sub.ent ?_
    refine S.dr_take 3 [] rfl (by kernel_rfl) rfl rfl rfl (q_not rfl) Sub.ent ?_
    refine S.dr_take 4 [] rfl (by kernel_rfl) rfl rfl rfl (q_move rfl) Sub.ent ?_
    refine S.dr_takeY 5 [] rfl (by kernel_rfl) rfl rfl rfl (rfl) rfl rfl (q_move rfl) Sub.ent ?_
    refine S.dr_takeY 6 [] rfl (by kernel_rfl) rfl rfl rfl (rfl) rfl rfl (q_loadS [_, _, _, _] Try.ag32 rfl rfl ⟨rfl, rfl, rfl, rfl, trivial⟩) Sub.ent ?_
    refine S.dr_takeY 7 [] rfl (by kernel_rfl) rfl rfl rfl (rfl) rfl rfl (q_field Try.fo24_1 rfl) Sub.ent ?_
    refine S.dr_takeY 8 [] rfl (by kernel_rfl) rfl rfl rfl (rfl) rfl rfl (q_load Try.at3 rfl rfl) Sub.ent ?_
    refine S.dr_takeY 10 [] rfl (by kernel_rfl) rfl rfl rfl (rfl) rfl rfl (q_move rfl) Sub.ent ?_
    refine S.dr_takeY 11 [] rfl (by kernel_rfl) rfl rfl rfl (rfl) rfl rfl (q_loadS [_, _, _, _] Try.ag27 rfl rfl ⟨rfl, rfl, rfl, rfl, trivial⟩) Sub.ent ?_
    refine S.dr_takeY 12 [] rfl (by kernel_rfl) rfl rfl rfl (rfl) rfl rfl (q_field Try.fo24_1 rfl) Sub.ent ?_
    refine S.dr_takeY 13 [] rfl (by kernel_rfl) rfl rfl rfl (rfl) rfl rfl (q_load Try.at3 rfl rfl) Sub.ent ?_
    refine S.dr_1Y (i := 9) (by kernel_rfl) rfl rfl rfl rfl (rfl) ?_
    refine  (S.call Try.en18 (vs := [_, _, _]) ⟨rfl, rfl, rfl, trivial⟩ (Reserve_S (prof s1 r1) (own u1 3 1 (ints F.nodes)) s1 r1 u1 F a.len hm1.len hm1.each (RdP.prof s1 r1) rdOwnI) rfl ?_)
    rintro v Θ ⟨s3, r3, rfl, hd3, rfl⟩
    rw [hd1] at hd3
    refine S.dr_k rfl Sub.ent ?_
    refine S.dr_1Y (i := 14) (by kernel_rfl) rfl rfl rfl rfl (rfl) ?_
    refine  (S.call Try.en19 (vs := [_, _, _]) ⟨rfl, rfl, rfl, trivial⟩ (rReserve_S (prof s2 r2) (own u2 3 1 (ints F.nodes)) s2 r2 u2 F a.len hm2.len hm2.each (RdP.prof s2 r2) rdOwnI) rfl ?_)
    rintro v Θ ⟨s4, r4, rfl, hd4, rfl⟩
    rw [hd2] at hd4
    refine S.dr_k rfl Sub.ent ?_
    refine S.dr_1Y (i := 15) (by kernel_rfl) rfl rfl rfl rfl (rfl) ?_
    refine  (S.call Try.en17 (vs := [_, _]) ⟨rfl, rfl, trivial⟩ (same_S (prof s3 r3) (prof s4 r4) s3 s4 r3 r4 (RdP.prof s3 r3) (RdP.prof s4 r4) (by rw [hd3]; exact hsm.res _ _) (by rw [hd4]; exact hsm.res _ _)) rfl ?_)
    rintro v Θ ⟨rfl, rfl⟩
    rw [decide_eq_true (hd3.trans hd4.symm)]
    refine S.dr_k rfl Sub.ent ?_
    refine S.dr_takeY 16 [] rfl (by kernel_rfl) rfl rfl rfl (rfl) rfl rfl (q_not rfl) Sub.ent ?_
    refine S.dr_take 17 [] rfl (by kernel_rfl) rfl rfl rfl (q_pickF rfl (rfl) rfl) Sub.ent ?_
    first | with_reducible refine S.dr_doneK (by kernel_rfl) ?_ | refine S.dr_done (by kernel_rfl) ?_
    refine hK7 _ _ ?_
    refine S.condF rfl ?_
    refine S.skip ?_
    with_reducible repeat (first | refine S.then_n ?_ | refine S.then_x ?_ | refine S.then_r ?_ | refine S.inBlock_n ?_ | refine S.inBlock_r ?_ | refine S.inBlock_x rfl ?_ | refine S.noGoto_r ?_ | refine S.noGoto_n ?_ | refine S.noGoto_x ?_)
    refine hK6 _ _ ?_
    refine S.seq fun K8 hK8 => ?_
    refine S.region rfl ?_
    refine S.op (S.q (q_field Try.fo27_2 rfl) rfl rfl ?_)
    refine S.op (S.q (q_load Try.at25 rfl rfl) rfl rfl ?_)
    refine S.op (S.q (q_field Try.fo27_2 rfl) rfl rfl ?_)
    refine S.op (S.q (q_load Try.at25 rfl rfl) rfl rfl ?_)
    refine S.op (S.q (q_len Try.underlying25 rfl) rfl rfl ?_)
    refine S.op (S.q (q_min (((min x.nodes.length 20 : Nat) : Int)) rfl rfl (by omega)) rfl rfl ?_)
    refine S.op (S.q (q_sliceTo (min x.nodes.length 20) Try.el25 rfl rfl rfl (by omega)) rfl rfl ?_)
    refine S.op (S.q (q_field Try.fo27_2 rfl) rfl rfl ?_)
    refine S.op (S.store (cs' := [_, _, _, _]) Try.at25 rfl rfl rfl rfl rfl ?_)
    first | with_reducible refine S.nilK ?_ | refine S.nil ?_
    refine hK8 _ _ ?_
    refine S.seq fun K9 hK9 => ?_
    refine S.draw ([prof s1 r1, prof s2 r2, old W, blk b4 24 (akC a).toArray, blk b5 27 (stC ⟨ux.a, min x.nodes.length 20, ux.c⟩ ⟨x.at_, x.row, x.nodes.take 20, x.ok⟩).toArray]) [] Try.mixed ?_
    refine S.dr_take 0 [] rfl (by kernel_rfl) rfl rfl rfl (q_move rfl) Sub.ent ?_
    refine S.dr_take 1 [] rfl (by kernel_rfl) rfl rfl rfl (q_loadS [_, _, _, _] Try.ag27 rfl rfl ⟨rfl, rfl, rfl, rfl, trivial⟩) Sub.ent ?_
    refine S.dr_take 2 [] rfl (by kernel_rfl) rfl rfl rfl (q_field Try.fo24_1 rfl) Sub.ent ?_
    refine S.dr_take 3 [] rfl (by kernel_rfl) rfl rfl rfl (q_load Try.at3 rfl rfl) Sub.ent ?_
    refine S.dr_take 5 [] rfl (by kernel_rfl) rfl rfl rfl (q_move rfl) Sub.ent ?_
    refine S.dr_take 6 [] rfl (by kernel_rfl) rfl rfl rfl (q_loadS [_, _, _, _] Try.ag27 rfl rfl ⟨rfl, rfl, rfl, rfl, trivial⟩) Sub.ent ?_
    refine S.dr_take 7 [] rfl (by kernel_rfl) rfl rfl rfl (q_field Try.fo24_1 rfl) Sub.ent ?_
    refine S.dr_take 8 [] rfl (by kernel_rfl) rfl rfl rfl (q_load Try.at3 rfl rfl) Sub.ent ?_
    refine S.dr_1 (i := 4) (by kernel_rfl) rfl rfl ?_
    refine  (S.call Try.en18 (vs := [_, _, _]) ⟨rfl, rfl, rfl, trivial⟩ (Reserve_S (prof s1 r1) (old W) s1 r1 ⟨ux.a, min x.nodes.length 20, ux.c⟩ ⟨x.at_, x.row, x.nodes.take 20, x.ok⟩ a.len hm1.len hm1.each (RdP.prof s1 r1) hQ) rfl ?_)
    rintro v Θ ⟨s5, r5, rfl, hd5, rfl⟩
    rw [hd1] at hd5
    refine S.dr_k rfl Sub.ent ?_
    refine S.dr_1 (i := 9) (by kernel_rfl) rfl rfl ?_
    refine  (S.call Try.en19 (vs := [_, _, _]) ⟨rfl, rfl, rfl, trivial⟩ (rReserve_S (prof s2 r2) (old W) s2 r2 ⟨ux.a, min x.nodes.length 20, ux.c⟩ ⟨x.at_, x.row, x.nodes.take 20, x.ok⟩ a.len hm2.len hm2.each (RdP.prof s2 r2) hQ) rfl ?_)
    rintro v Θ ⟨s6, r6, rfl, hd6, rfl⟩
    rw [hd2] at hd6
    refine S.dr_k rfl Sub.ent ?_
    refine S.dr_1 (i := 10) (by kernel_rfl) rfl rfl ?_
    refine  (S.call Try.en17 (vs := [_, _]) ⟨rfl, rfl, trivial⟩ (same_S (prof s5 r5) (prof s6 r6) s5 s6 r5 r6 (RdP.prof s5 r5) (RdP.prof s6 r6) (by rw [hd5]; exact hsm.res _ _) (by rw [hd6]; exact hsm.res _ _)) rfl ?_)
    rintro v Θ ⟨rfl, rfl⟩
    rw [decide_eq_true (hd5.trans hd6.symm)]
    refine S.dr_k rfl Sub.ent ?_
    refine S.dr_take 11 [] rfl (by kernel_rfl) rfl rfl rfl (q_move rfl) Sub.ent ?_
    refine S.dr_takeY 12 [] rfl (by kernel_rfl) rfl rfl rfl (rfl) rfl rfl (q_move rfl) Sub.ent ?_
    refine S.dr_takeY 13 [] rfl (by kernel_rfl) rfl rfl rfl (rfl) rfl rfl (q_move rfl) Sub.ent ?_
    refine S.dr_1Y (i := 14) (by kernel_rfl) rfl rfl rfl rfl (rfl) ?_
    refine  (S.call Try.en17 (vs := [_, _]) ⟨rfl, rfl, trivial⟩ (same_S (prof s1 r1) (prof s2 r2) s1 s2 r1 r2 (RdP.prof s1 r1) (RdP.prof s2 r2) hm1 hm2) rfl ?_)
    rintro v Θ ⟨rfl, rfl⟩
    rw [decide_eq_true (hd1.trans hd2.symm)]
    refine S.dr_k rfl Sub.ent ?_
    refine S.dr_take 15 [] rfl (by kernel_rfl) rfl rfl rfl (q_pickT rfl (rfl) rfl) Sub.ent ?_
    refine S.dr_take 16 [] rfl (by kernel_rfl) rfl rfl rfl (q_assign rfl) Sub.ent ?_
    first | with_reducible refine S.dr_doneK (by kernel_rfl) ?_ | refine S.dr_done (by kernel_rfl) ?_
    refine hK9 _ _ ?_
    refine S.ret ?_
    with_reducible repeat (first | refine S.then_n ?_ | refine S.then_x ?_ | refine S.then_r ?_ | refine S.inBlock_n ?_ | refine S.inBlock_r ?_ | refine S.inBlock_x rfl ?_ | refine S.noGoto_r ?_ | refine S.noGoto_n ?_ | refine S.noGoto_x ?_)
    exact S.fin (rs := [_]) (vs := [_]) Try.results3 (⟨rfl, trivial⟩)  (⟨rfl, rfl⟩) Sub.ent
open Go.ChangeShapes Go.WideShapes Go.ChangeAt
theorem PlanFirst_law {H : Type} (enc : TypeId × Value → H) : LawWalk enc 3 Try.f3 := by
  intro W base args ds before hval hA _ _
  rw [Try.params3] at hA hval
  obtain ⟨v0, vs0, d0, ds0, p0, q0, hargs, rfl, rfl, h0, r0⟩ := trodAll_cons hA
  obtain ⟨v1, vs1, d1, ds1, p1, q1, rfl, rfl, rfl, h1, r1⟩ := trodAll_cons r0
  obtain ⟨v2, vs2, d2, ds2, p2, q2, rfl, rfl, rfl, h2, r2⟩ := trodAll_cons r1
  obtain ⟨rfl, rfl, rfl⟩ := trodAll_nil r2
  obtain rfl : args = #[v0, v1, v2] := by cases args; simp_all
  obtain ⟨s0, P, e0, hP⟩ := rd_prof (arg_slice 4 Try.underlying22 (by kernel_rfl) (hval 0 22 v0 rfl rfl) h0)
  simp only [List.cons.injEq, and_true] at e0
  subst e0
  obtain ⟨cs1, rfl, hcs1⟩ := arg_struct 4 Try.underlying24 (by kernel_rfl) (hval 1 24 v1 rfl rfl) h1
  obtain ⟨a, rfl, _⟩ := rd_ask hcs1
  obtain ⟨cs2, rfl, hcs2⟩ := arg_struct 5 Try.underlying27 (by kernel_rfl) (hval 2 27 v2 rfl rfl) h2
  obtain ⟨ux, x, rfl, hx⟩ := rd_start hcs2
  exact law_run (PlanFirst_S s0 P a ux x W hP hx)
set_option maxRecDepth 100000 in
theorem PlanFirst_lifted (os : Os) (started : os.Started) (H : Type) (enc : TypeId × Value → H) :
    ReturnsInHanded {} Try.checked os 3 .any (Rows.planFirstSpec.pre6 enc Try.prog Try.f3 Rows.planFirstRow.domain false) (Rows.planFirstSpec.post enc Try.prog Try.f3 false true false false) :=
  lift_true started Try.func3 (by kernel_rfl)
    (ChangeSpec.witness6 (enc := enc) (C := Try.checked) false ⟨#[], #[.slice none 0 0, .agg #[.int .i64 0, .int .i64 0], .agg #[.int .i64 0, .int .i64 0, .slice none 0 0, .bool false]], []⟩ 8 (by kernel_rfl) (by kernel_rfl) (by kernel_rfl) (by kernel_rfl))
    rfl rfl (by kernel_rfl) (fun ds h => by match ds, h with | [a0, a1, a2], _ => rfl) (PlanFirst_law enc)
theorem PlanFirst_over : Rows.planFirstRow.holds Try.pinned (OpenSpec.ofChange Rows.planFirstSpec) :=
  OpenClaim.holds_of_wide 3 Try.f3 rfl rfl rfl rfl rfl rfl rfl ⟨rfl, rfl, rfl, rfl, rfl⟩ rfl rfl rfl rfl rfl (by kernel_rfl) Try.func3 (by kernel_rfl)
    (of_decide_eq_true (by kernel_rfl)) (by unfold Func.isWrapper; rw [if_neg (of_decide_eq_false (by kernel_rfl))]; exact ⟨rfl, rfl⟩)
    (fun os started H enc _ => PlanFirst_lifted os started H enc)
theorem PlanFirst_holds : Rows.PlanFirstSaid := PlanFirst_over
#print axioms PlanFirst_holds
end Go.Proofs.Ytknpddiffellgaa
