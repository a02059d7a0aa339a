/- PlanLater: reserving anything lets nobody start sooner. -/
import Derived.Test.YtknpddiffellgaaPlanK
import Derived.Test.YtknpddiffellgaaPlanL
import Derived.Test.YtknpddiffellgaaLift
namespace Go.Proofs.Ytknpddiffellgaa
open Go.RowKit
set_option maxRecDepth 20000
set_option linter.unusedVariables false
set_option maxHeartbeats 2000000 in
theorem PlanLater_S (s0 : SV) (P : List RW) (x a : Ak) (W : World) (hP : RdP (old W) s0 P) : LawS 7 [s0.v, .agg (akC x).toArray, .agg (akC a).toArray] W := by
  refine Spec.of_body Try.func7 rfl Try.ntmps7 rfl ?_
  intro w0 Γ
  show S _ w0 [(0, s0.v), (1, .agg (akC x).toArray), (2, .agg (akC a).toArray)] (old W :: Γ) _
  obtain ⟨D, hD⟩ : ∃ D, D = fewR (dat P) := ⟨_, rfl⟩
  have hsm : Sml D := by rw [hD]; exact few_sml _
  obtain ⟨X, hX⟩ : ∃ X, X = firstR D x.k := ⟨_, rfl⟩
  obtain ⟨B, hB⟩ : ∃ B, B = firstR D a.k := ⟨_, rfl⟩
  obtain ⟨C, hC⟩ : ∃ C, C = firstR (resR D X x.len) a.k := ⟨_, rfl⟩
  obtain ⟨hok, hat⟩ : B.ok = C.ok ∧ B.at_ ≤ C.at_ := by
    have h := (res_le D x.k x.len).first a.k
    rw [← hX, ← hB, ← hC] at h
    exact h
  refine S.seq fun K1 hK1 => ?_
  refine S.region rfl ?_
  refine S.op (S.box (cs := [_, _]) rfl rfl rfl ?_)
  intro b4
  refine S.op (S.box (cs := [_, _]) rfl rfl rfl ?_)
  intro b5
  refine S.op (S.q (q_assign rfl) rfl rfl ?_)
  first | with_reducible refine S.nilK ?_ | refine S.nil ?_
  refine hK1 _ _ ?_
  refine S.seq fun K2 hK2 => ?_
  refine S.seq fun K3 hK3 => ?_
  refine S.region rfl ?_
  refine S.op (S.callP Try.en11 (vs := []) trivial (fun w hs => awake_P w) rfl ?_)
  refine S.op (S.q (q_not rfl) rfl rfl ?_)
  first | with_reducible refine S.nilK ?_ | refine S.nil ?_
  refine hK3 _ _ ?_
  refine S.condF rfl ?_
  refine S.skip ?_
  with_reducible repeat (first | refine S.then_n ?_ | refine S.then_x ?_ | refine S.then_r ?_ | refine S.inBlock_n ?_ | refine S.inBlock_r ?_ | refine S.inBlock_x rfl ?_ | refine S.noGoto_r ?_ | refine S.noGoto_n ?_ | refine S.noGoto_x ?_)
  refine hK2 _ _ ?_
  refine S.seq fun K4 hK4 => ?_
  refine S.cut (fun ρ' Γ' => ∃ (c7 : Nat) (u1 : SV), ρ' = [(0, s0.v), (4, .pointer (some ⟨b4, 0, none⟩)), (5, .pointer (some ⟨b5, 0, none⟩)), (7, .pointer (some ⟨c7, 0, none⟩))] ∧ Γ' = blk c7 32 (stC u1 X).toArray :: own u1 3 1 (ints X.nodes) :: blk b4 24 (akC x).toArray :: blk b5 24 (akC a).toArray :: old W :: Γ) ?_ ?_
  · refine S.draw ([old W, blk b4 24 (akC x).toArray]) [] Try.mixed ?_
    refine S.dr_take 0 [] rfl (by kernel_rfl) rfl rfl rfl (q_move rfl) Sub.ent ?_
    refine S.dr_take 2 [] rfl (by kernel_rfl) rfl rfl rfl (q_loadS [_, _] Try.ag24 rfl rfl ⟨rfl, rfl, trivial⟩) Sub.ent ?_
    refine S.dr_2 (i := 1) (j := 4) (by kernel_rfl) rfl rfl rfl rfl ?_ ?_
    · refine  (S.call Try.en12 (vs := [_]) ⟨rfl, trivial⟩ (profile_S (old W) s0 P hP) rfl ?_)
      rintro v Θ ⟨s1, r1, rfl, hd1, rfl⟩
      rw [← hD] at hd1
      refine S.dr_k rfl Sub.ent ?_
      refine S.dr_2 (i := 3) (j := 4) (by kernel_rfl) rfl rfl rfl rfl ?_ ?_
      · refine  (S.call Try.en14 (vs := [_, _]) ⟨rfl, rfl, trivial⟩ (First_S (prof s1 r1) s1 r1 x.k x.len (Sml.len (by rw [hd1]; exact hsm)) (Sml.each (by rw [hd1]; exact hsm)) (RdP.prof s1 r1)) rfl ?_)
        rintro v Θ ⟨u1, rfl, rfl⟩
        rw [hd1, ← hX]
        refine S.dr_k rfl Sub.ent ?_
        refine S.dr_1 (i := 4) (by kernel_rfl) rfl rfl ?_
        refine  (S.alloc Try.z32 rfl ?_)
        intro b7
        refine S.dr_k rfl Sub.ent ?_
        refine S.dr_1 (i := 5) (by kernel_rfl) rfl rfl ?_
        refine  (S.storeS (cs' := [_, _, _, _]) Try.ag32 rfl rfl rfl rfl rfl rfl ?_)
        refine S.dr_k rfl Sub.ent ?_
        first | with_reducible refine S.dr_doneK (by kernel_rfl) ?_ | refine S.dr_done (by kernel_rfl) ?_
        with_reducible repeat (first | refine S.then_n ?_ | refine S.then_x ?_ | refine S.then_r ?_ | refine S.inBlock_n ?_ | refine S.inBlock_r ?_ | refine S.inBlock_x rfl ?_ | refine S.noGoto_r ?_ | refine S.noGoto_n ?_ | refine S.noGoto_x ?_)
        exact S.meet ⟨b7, u1, rfl, rfl⟩ ⟨rfl, rfl, rfl, rfl, trivial⟩ Sub.ent
      · refine  (S.alloc Try.z32 rfl ?_)
        intro b7
        refine S.dr_k rfl Sub.ent ?_
        refine S.dr_1 (i := 3) (by kernel_rfl) rfl rfl ?_
        refine  (S.call Try.en14 (vs := [_, _]) ⟨rfl, rfl, trivial⟩ (First_S (prof s1 r1) s1 r1 x.k x.len (Sml.len (by rw [hd1]; exact hsm)) (Sml.each (by rw [hd1]; exact hsm)) (RdP.prof s1 r1)) rfl ?_)
        rintro v Θ ⟨u1, rfl, rfl⟩
        rw [hd1, ← hX]
        refine S.dr_k rfl Sub.ent ?_
        refine S.dr_1 (i := 5) (by kernel_rfl) rfl rfl ?_
        refine  (S.storeS (cs' := [_, _, _, _]) Try.ag32 rfl rfl rfl rfl rfl rfl ?_)
        refine S.dr_k rfl Sub.ent ?_
        first | with_reducible refine S.dr_doneK (by kernel_rfl) ?_ | refine S.dr_done (by kernel_rfl) ?_
        with_reducible repeat (first | refine S.then_n ?_ | refine S.then_x ?_ | refine S.then_r ?_ | refine S.inBlock_n ?_ | refine S.inBlock_r ?_ | refine S.inBlock_x rfl ?_ | refine S.noGoto_r ?_ | refine S.noGoto_n ?_ | refine S.noGoto_x ?_)
        exact S.meet ⟨b7, u1, rfl, rfl⟩ ⟨rfl, rfl, rfl, rfl, trivial⟩ Sub.ent
    · refine  (S.alloc Try.z32 rfl ?_)
      intro b7
      refine S.dr_k rfl Sub.ent ?_
      refine S.dr_1 (i := 1) (by kernel_rfl) rfl rfl ?_
      refine  (S.call Try.en12 (vs := [_]) ⟨rfl, trivial⟩ (profile_S (old W) s0 P hP) rfl ?_)
      rintro v Θ ⟨s1, r1, rfl, hd1, rfl⟩
      rw [← hD] at hd1
      refine S.dr_k rfl Sub.ent ?_
      refine S.dr_1 (i := 3) (by kernel_rfl) rfl rfl ?_
      refine  (S.call Try.en14 (vs := [_, _]) ⟨rfl, rfl, trivial⟩ (First_S (prof s1 r1) s1 r1 x.k x.len (Sml.len (by rw [hd1]; exact hsm)) (Sml.each (by rw [hd1]; exact hsm)) (RdP.prof s1 r1)) rfl ?_)
      rintro v Θ ⟨u1, rfl, rfl⟩
      rw [hd1, ← hX]
      refine S.dr_k rfl Sub.ent ?_
      refine S.dr_1 (i := 5) (by kernel_rfl) rfl rfl ?_
      refine  (S.storeS (cs' := [_, _, _, _]) Try.ag32 rfl rfl rfl rfl rfl rfl ?_)
      refine S.dr_k rfl Sub.ent ?_
      first | with_reducible refine S.dr_doneK (by kernel_rfl) ?_ | refine S.dr_done (by kernel_rfl) ?_
      with_reducible repeat (first | refine S.then_n ?_ | refine S.then_x ?_ | refine S.then_r ?_ | refine S.inBlock_n ?_ | refine S.inBlock_r ?_ | refine S.inBlock_x rfl ?_ | refine S.noGoto_r ?_ | refine S.noGoto_n ?_ | refine S.noGoto_x ?_)
      exact S.meet ⟨b7, u1, rfl, rfl⟩ ⟨rfl, rfl, rfl, rfl, trivial⟩ Sub.ent
  · rintro ρ' Γ' ⟨b7, u1, rfl, rfl⟩
    refine hK4 _ _ ?_
    refine S.seq fun K5 hK5 => ?_
    refine S.cut (fun ρ' Γ' => ∃ (c8 : Nat) (u2 : SV), ρ' = [(0, s0.v), (4, .pointer (some ⟨b4, 0, none⟩)), (5, .pointer (some ⟨b5, 0, none⟩)), (7, .pointer (some ⟨b7, 0, none⟩)), (8, .pointer (some ⟨c8, 0, none⟩))] ∧ Γ' = blk c8 32 (stC u2 B).toArray :: blk b7 32 (stC u1 X).toArray :: own u1 3 1 (ints X.nodes) :: blk b4 24 (akC x).toArray :: blk b5 24 (akC a).toArray :: old W :: Γ) ?_ ?_
    · refine S.draw ([old W, blk b5 24 (akC a).toArray]) [] Try.mixed ?_
      refine S.dr_take 0 [] rfl (by kernel_rfl) rfl rfl rfl (q_move rfl) Sub.ent ?_
      refine S.dr_take 2 [] rfl (by kernel_rfl) rfl rfl rfl (q_loadS [_, _] Try.ag24 rfl rfl ⟨rfl, rfl, trivial⟩) Sub.ent ?_
      refine S.dr_2 (i := 1) (j := 4) (by kernel_rfl) rfl rfl rfl rfl ?_ ?_
      · refine  (S.call Try.en12 (vs := [_]) ⟨rfl, trivial⟩ (profile_S (old W) s0 P hP) rfl ?_)
        rintro v Θ ⟨s2, r2, rfl, hd2, rfl⟩
        rw [← hD] at hd2
        refine S.dr_k rfl Sub.ent ?_
        refine S.dr_2 (i := 3) (j := 4) (by kernel_rfl) rfl rfl rfl rfl ?_ ?_
        · refine  (S.call Try.en14 (vs := [_, _]) ⟨rfl, rfl, trivial⟩ (First_S (prof s2 r2) s2 r2 a.k a.len (Sml.len (by rw [hd2]; exact hsm)) (Sml.each (by rw [hd2]; exact hsm)) (RdP.prof s2 r2)) rfl ?_)
          rintro v Θ ⟨u2, rfl, rfl⟩
          rw [hd2, ← hB]
          refine S.dr_k rfl Sub.ent ?_
          refine S.dr_1 (i := 4) (by kernel_rfl) rfl rfl ?_
          refine  (S.alloc Try.z32 rfl ?_)
          intro b8
          refine S.dr_k rfl Sub.ent ?_
          refine S.dr_1 (i := 5) (by kernel_rfl) rfl rfl ?_
          refine  (S.storeS (cs' := [_, _, _, _]) Try.ag32 rfl rfl rfl rfl rfl rfl ?_)
          refine S.dr_k rfl Sub.ent ?_
          first | with_reducible refine S.dr_doneK (by kernel_rfl) ?_ | refine S.dr_done (by kernel_rfl) ?_
          with_reducible repeat (first | refine S.then_n ?_ | refine S.then_x ?_ | refine S.then_r ?_ | refine S.inBlock_n ?_ | refine S.inBlock_r ?_ | refine S.inBlock_x rfl ?_ | refine S.noGoto_r ?_ | refine S.noGoto_n ?_ | refine S.noGoto_x ?_)
          exact S.meet ⟨b8, u2, rfl, rfl⟩ ⟨rfl, rfl, rfl, rfl, rfl, trivial⟩ Sub.ent
        · refine  (S.alloc Try.z32 rfl ?_)
          intro b8
          refine S.dr_k rfl Sub.ent ?_
          refine S.dr_1 (i := 3) (by kernel_rfl) rfl rfl ?_
          refine  (S.call Try.en14 (vs := [_, _]) ⟨rfl, rfl, trivial⟩ (First_S (prof s2 r2) s2 r2 a.k a.len (Sml.len (by rw [hd2]; exact hsm)) (Sml.each (by rw [hd2]; exact hsm)) (RdP.prof s2 r2)) rfl ?_)
          rintro v Θ ⟨u2, rfl, rfl⟩
          rw [hd2, ← hB]
          refine S.dr_k rfl Sub.ent ?_
          refine S.dr_1 (i := 5) (by kernel_rfl) rfl rfl ?_
          refine  (S.storeS (cs' := [_, _, _, _]) Try.ag32 rfl rfl rfl rfl rfl rfl ?_)
          refine S.dr_k rfl Sub.ent ?_
          first | with_reducible refine S.dr_doneK (by kernel_rfl) ?_ | refine S.dr_done (by kernel_rfl) ?_
          with_reducible repeat (first | refine S.then_n ?_ | refine S.then_x ?_ | refine S.then_r ?_ | refine S.inBlock_n ?_ | refine S.inBlock_r ?_ | refine S.inBlock_x rfl ?_ | refine S.noGoto_r ?_ | refine S.noGoto_n ?_ | refine S.noGoto_x ?_)
          exact S.meet ⟨b8, u2, rfl, rfl⟩ ⟨rfl, rfl, rfl, rfl, rfl, trivial⟩ Sub.ent
      · refine  (S.alloc Try.z32 rfl ?_)
        intro b8
        refine S.dr_k rfl Sub.ent ?_
        refine S.dr_1 (i := 1) (by kernel_rfl) rfl rfl ?_
        refine  (S.call Try.en12 (vs := [_]) ⟨rfl, trivial⟩ (profile_S (old W) s0 P hP) rfl ?_)
        rintro v Θ ⟨s2, r2, rfl, hd2, rfl⟩
        rw [← hD] at hd2
        refine S.dr_k rfl Sub.ent ?_
        refine S.dr_1 (i := 3) (by kernel_rfl) rfl rfl ?_
        refine  (S.call Try.en14 (vs := [_, _]) ⟨rfl, rfl, trivial⟩ (First_S (prof s2 r2) s2 r2 a.k a.len (Sml.len (by rw [hd2]; exact hsm)) (Sml.each (by rw [hd2]; exact hsm)) (RdP.prof s2 r2)) rfl ?_)
        rintro v Θ ⟨u2, rfl, rfl⟩
        rw [hd2, ← hB]
        refine S.dr_k rfl Sub.ent ?_
        refine S.dr_1 (i := 5) (by kernel_rfl) rfl rfl ?_
        refine  (S.storeS (cs' := [_, _, _, _]) Try.ag32 rfl rfl rfl rfl rfl rfl ?_)
        refine S.dr_k rfl Sub.ent ?_
        first | with_reducible refine S.dr_doneK (by kernel_rfl) ?_ | refine S.dr_done (by kernel_rfl) ?_
        with_reducible repeat (first | refine S.then_n ?_ | refine S.then_x ?_ | refine S.then_r ?_ | refine S.inBlock_n ?_ | refine S.inBlock_r ?_ | refine S.inBlock_x rfl ?_ | refine S.noGoto_r ?_ | refine S.noGoto_n ?_ | refine S.noGoto_x ?_)
        exact S.meet ⟨b8, u2, rfl, rfl⟩ ⟨rfl, rfl, rfl, rfl, rfl, trivial⟩ Sub.ent
    · rintro ρ' Γ' ⟨b8, u2, rfl, rfl⟩
      refine hK5 _ _ ?_
      refine S.seq fun K6 hK6 => ?_
      refine S.cut (fun ρ' Γ' => ∃ (c9 : Nat) (u3 : SV), ρ' = [(8, .pointer (some ⟨b8, 0, none⟩)), (9, .pointer (some ⟨c9, 0, none⟩))] ∧ Γ' = blk c9 32 (stC u3 C).toArray :: blk b8 32 (stC u2 B).toArray :: old W :: Γ) ?_ ?_
      · refine S.draw ([old W, blk b7 32 (stC u1 X).toArray, own u1 3 1 (ints X.nodes), blk b4 24 (akC x).toArray, blk b5 24 (akC a).toArray]) [] Try.mixed ?_
        refine S.dr_take 0 [] rfl (by kernel_rfl) rfl rfl rfl (q_move rfl) Sub.ent ?_
        refine S.dr_take 2 [] rfl (by kernel_rfl) rfl rfl rfl (q_loadS [_, _, _, _] Try.ag32 rfl rfl ⟨rfl, rfl, rfl, rfl, trivial⟩) Sub.ent ?_
        refine S.dr_take 3 [] rfl (by kernel_rfl) rfl rfl rfl (q_field Try.fo24_1 rfl) Sub.ent ?_
        refine S.dr_take 4 [] rfl (by kernel_rfl) rfl rfl rfl (q_load Try.at3 rfl rfl) Sub.ent ?_
        refine S.dr_take 6 [] rfl (by kernel_rfl) rfl rfl rfl (q_loadS [_, _] Try.ag24 rfl rfl ⟨rfl, rfl, trivial⟩) Sub.ent ?_
        refine S.dr_2 (i := 1) (j := 8) (by kernel_rfl) rfl rfl rfl rfl ?_ ?_
        · refine  (S.call Try.en12 (vs := [_]) ⟨rfl, trivial⟩ (profile_S (old W) s0 P hP) rfl ?_)
          rintro v Θ ⟨s3, r3, rfl, hd3, rfl⟩
          rw [← hD] at hd3
          refine S.dr_k rfl Sub.ent ?_
          refine S.dr_2 (i := 5) (j := 8) (by kernel_rfl) rfl rfl rfl rfl ?_ ?_
          · refine  (S.call Try.en18 (vs := [_, _, _]) ⟨rfl, rfl, rfl, trivial⟩ (Reserve_S (prof s3 r3) (own u1 3 1 (ints X.nodes)) s3 r3 u1 X x.len (Sml.len (by rw [hd3]; exact hsm)) (Sml.each (by rw [hd3]; exact hsm)) (RdP.prof s3 r3) rdOwnI) rfl ?_)
            rintro v Θ ⟨s4, r4, rfl, hd4, rfl⟩
            rw [hd3] at hd4
            refine S.dr_k rfl Sub.ent ?_
            refine S.dr_2 (i := 7) (j := 8) (by kernel_rfl) rfl rfl rfl rfl ?_ ?_
            · refine  (S.call Try.en14 (vs := [_, _]) ⟨rfl, rfl, trivial⟩ (First_S (prof s4 r4) s4 r4 a.k a.len (Sml.len (by rw [hd4]; exact hsm.res _ _)) (Sml.each (by rw [hd4]; exact hsm.res _ _)) (RdP.prof s4 r4)) rfl ?_)
              rintro v Θ ⟨u3, rfl, rfl⟩
              rw [hd4, ← hC]
              refine S.dr_k rfl Sub.ent ?_
              refine S.dr_1 (i := 8) (by kernel_rfl) rfl rfl ?_
              refine  (S.alloc Try.z32 rfl ?_)
              intro b9
              refine S.dr_k rfl Sub.ent ?_
              refine S.dr_1 (i := 9) (by kernel_rfl) rfl rfl ?_
              refine  (S.storeS (cs' := [_, _, _, _]) Try.ag32 rfl rfl rfl rfl rfl rfl ?_)
              refine S.dr_k rfl Sub.ent ?_
              first | with_reducible refine S.dr_doneK (by kernel_rfl) ?_ | refine S.dr_done (by kernel_rfl) ?_
              with_reducible repeat (first | refine S.then_n ?_ | refine S.then_x ?_ | refine S.then_r ?_ | refine S.inBlock_n ?_ | refine S.inBlock_r ?_ | refine S.inBlock_x rfl ?_ | refine S.noGoto_r ?_ | refine S.noGoto_n ?_ | refine S.noGoto_x ?_)
              exact S.meet ⟨b9, u3, rfl, rfl⟩ ⟨rfl, rfl, trivial⟩ Sub.ent
            · refine  (S.alloc Try.z32 rfl ?_)
              intro b9
              refine S.dr_k rfl Sub.ent ?_
              refine S.dr_1 (i := 7) (by kernel_rfl) rfl rfl ?_
              refine  (S.call Try.en14 (vs := [_, _]) ⟨rfl, rfl, trivial⟩ (First_S (prof s4 r4) s4 r4 a.k a.len (Sml.len (by rw [hd4]; exact hsm.res _ _)) (Sml.each (by rw [hd4]; exact hsm.res _ _)) (RdP.prof s4 r4)) rfl ?_)
              rintro v Θ ⟨u3, rfl, rfl⟩
              rw [hd4, ← hC]
              refine S.dr_k rfl Sub.ent ?_
              refine S.dr_1 (i := 9) (by kernel_rfl) rfl rfl ?_
              refine  (S.storeS (cs' := [_, _, _, _]) Try.ag32 rfl rfl rfl rfl rfl rfl ?_)
              refine S.dr_k rfl Sub.ent ?_
              first | with_reducible refine S.dr_doneK (by kernel_rfl) ?_ | refine S.dr_done (by kernel_rfl) ?_
              with_reducible repeat (first | refine S.then_n ?_ | refine S.then_x ?_ | refine S.then_r ?_ | refine S.inBlock_n ?_ | refine S.inBlock_r ?_ | refine S.inBlock_x rfl ?_ | refine S.noGoto_r ?_ | refine S.noGoto_n ?_ | refine S.noGoto_x ?_)
              exact S.meet ⟨b9, u3, rfl, rfl⟩ ⟨rfl, rfl, trivial⟩ Sub.ent
          · refine  (S.alloc Try.z32 rfl ?_)
            intro b9
            refine S.dr_k rfl Sub.ent ?_
            refine S.dr_1 (i := 5) (by kernel_rfl) rfl rfl ?_
            refine  (S.call Try.en18 (vs := [_, _, _]) ⟨rfl, rfl, rfl, trivial⟩ (Reserve_S (prof s3 r3) (own u1 3 1 (ints X.nodes)) s3 r3 u1 X x.len (Sml.len (by rw [hd3]; exact hsm)) (Sml.each (by rw [hd3]; exact hsm)) (RdP.prof s3 r3) rdOwnI) rfl ?_)
            rintro v Θ ⟨s4, r4, rfl, hd4, rfl⟩
            rw [hd3] at hd4
            refine S.dr_k rfl Sub.ent ?_
            refine S.dr_1 (i := 7) (by kernel_rfl) rfl rfl ?_
            refine  (S.call Try.en14 (vs := [_, _]) ⟨rfl, rfl, trivial⟩ (First_S (prof s4 r4) s4 r4 a.k a.len (Sml.len (by rw [hd4]; exact hsm.res _ _)) (Sml.each (by rw [hd4]; exact hsm.res _ _)) (RdP.prof s4 r4)) rfl ?_)
            rintro v Θ ⟨u3, rfl, rfl⟩
            rw [hd4, ← hC]
            refine S.dr_k rfl Sub.ent ?_
            refine S.dr_1 (i := 9) (by kernel_rfl) rfl rfl ?_
            refine  (S.storeS (cs' := [_, _, _, _]) Try.ag32 rfl rfl rfl rfl rfl rfl ?_)
            refine S.dr_k rfl Sub.ent ?_
            first | with_reducible refine S.dr_doneK (by kernel_rfl) ?_ | refine S.dr_done (by kernel_rfl) ?_
            with_reducible repeat (first | refine S.then_n ?_ | refine S.then_x ?_ | refine S.then_r ?_ | refine S.inBlock_n ?_ | refine S.inBlock_r ?_ | refine S.inBlock_x rfl ?_ | refine S.noGoto_r ?_ | refine S.noGoto_n ?_ | refine S.noGoto_x ?_)
            exact S.meet ⟨b9, u3, rfl, rfl⟩ ⟨rfl, rfl, trivial⟩ Sub.ent
        · refine  (S.alloc Try.z32 rfl ?_)
          intro b9
          refine S.dr_k rfl Sub.ent ?_
          refine S.dr_1 (i := 1) (by kernel_rfl) rfl rfl ?_
          refine  (S.call Try.en12 (vs := [_]) ⟨rfl, trivial⟩ (profile_S (old W) s0 P hP) rfl ?_)
          rintro v Θ ⟨s3, r3, rfl, hd3, rfl⟩
          rw [← hD] at hd3
          refine S.dr_k rfl Sub.ent ?_
          refine S.dr_1 (i := 5) (by kernel_rfl) rfl rfl ?_
          refine  (S.call Try.en18 (vs := [_, _, _]) ⟨rfl, rfl, rfl, trivial⟩ (Reserve_S (prof s3 r3) (own u1 3 1 (ints X.nodes)) s3 r3 u1 X x.len (Sml.len (by rw [hd3]; exact hsm)) (Sml.each (by rw [hd3]; exact hsm)) (RdP.prof s3 r3) rdOwnI) rfl ?_)
          rintro v Θ ⟨s4, r4, rfl, hd4, rfl⟩
          rw [hd3] at hd4
          refine S.dr_k rfl Sub.ent ?_
          refine S.dr_1 (i := 7) (by kernel_rfl) rfl rfl ?_
          refine  (S.call Try.en14 (vs := [_, _]) ⟨rfl, rfl, trivial⟩ (First_S (prof s4 r4) s4 r4 a.k a.len (Sml.len (by rw [hd4]; exact hsm.res _ _)) (Sml.each (by rw [hd4]; exact hsm.res _ _)) (RdP.prof s4 r4)) rfl ?_)
          rintro v Θ ⟨u3, rfl, rfl⟩
          rw [hd4, ← hC]
          refine S.dr_k rfl Sub.ent ?_
          refine S.dr_1 (i := 9) (by kernel_rfl) rfl rfl ?_
          refine  (S.storeS (cs' := [_, _, _, _]) Try.ag32 rfl rfl rfl rfl rfl rfl ?_)
          refine S.dr_k rfl Sub.ent ?_
          first | with_reducible refine S.dr_doneK (by kernel_rfl) ?_ | refine S.dr_done (by kernel_rfl) ?_
          with_reducible repeat (first | refine S.then_n ?_ | refine S.then_x ?_ | refine S.then_r ?_ | refine S.inBlock_n ?_ | refine S.inBlock_r ?_ | refine S.inBlock_x rfl ?_ | refine S.noGoto_r ?_ | refine S.noGoto_n ?_ | refine S.noGoto_x ?_)
          exact S.meet ⟨b9, u3, rfl, rfl⟩ ⟨rfl, rfl, trivial⟩ Sub.ent
      · rintro ρ' Γ' ⟨b9, u3, rfl, rfl⟩
        refine hK6 _ _ ?_
        refine S.seq fun K7 hK7 => ?_
        refine S.regionG ?_
        refine S.g_op rfl (S.q (q_field Try.fo32_3 rfl) rfl rfl ?_)
        refine S.g_op rfl (S.q (q_load Try.at4 rfl rfl) rfl rfl ?_)
        refine S.g_op rfl (S.q (q_field Try.fo32_3 rfl) rfl rfl ?_)
        refine S.g_op rfl (S.q (q_load Try.at4 rfl rfl) rfl rfl ?_)
        refine S.g_op rfl (S.q (q_eqB Try.underlying4 rfl rfl) rfl rfl ?_)
        refine S.g_op rfl (S.q (q_move rfl) rfl rfl ?_)
        refine S.g_yes rfl rfl rfl ((by rw [hok]; simp)) (S.q (q_field Try.fo32_0 rfl) rfl rfl ?_)
        refine S.g_yes rfl rfl rfl ((by rw [hok]; simp)) (S.q (q_load Try.at3 rfl rfl) rfl rfl ?_)
        refine S.g_yes rfl rfl rfl ((by rw [hok]; simp)) (S.q (q_field Try.fo32_0 rfl) rfl rfl ?_)
        refine S.g_yes rfl rfl rfl ((by rw [hok]; simp)) (S.q (q_load Try.at3 rfl rfl) rfl rfl ?_)
        refine S.g_yes rfl rfl rfl ((by rw [hok]; simp)) (S.q (q_ge rfl rfl) rfl rfl ?_)
        refine S.g_op rfl (S.q (q_pickT rfl ((by rw [hok]; simp)) rfl) rfl rfl ?_)
        refine S.g_op rfl (S.q (q_assign rfl) rfl rfl ?_)
        first | with_reducible refine S.g_nilK ?_ | refine S.g_nil ?_
        refine hK7 _ _ ?_
        refine S.ret ?_
        with_reducible repeat (first | refine S.then_n ?_ | refine S.then_x ?_ | refine S.then_r ?_ | refine S.inBlock_n ?_ | refine S.inBlock_r ?_ | refine S.inBlock_x rfl ?_ | refine S.noGoto_r ?_ | refine S.noGoto_n ?_ | refine S.noGoto_x ?_)
        exact S.fin (rs := [_]) (vs := [_]) Try.results7 (⟨rfl, trivial⟩)  (⟨by simp only [resV]; rw [decide_eq_true hat], rfl⟩) Sub.ent
open Go.ChangeShapes Go.WideShapes Go.ChangeAt
theorem PlanLater_law {H : Type} (enc : TypeId × Value → H) : LawWalk enc 7 Try.f7 := by
  intro W base args ds before hval hA _ _
  rw [Try.params7] at hA hval
  obtain ⟨v0, vs0, d0, ds0, p0, q0, hargs, rfl, rfl, h0, r0⟩ := trodAll_cons hA
  obtain ⟨v1, vs1, d1, ds1, p1, q1, rfl, rfl, rfl, h1, r1⟩ := trodAll_cons r0
  obtain ⟨v2, vs2, d2, ds2, p2, q2, rfl, rfl, rfl, h2, r2⟩ := trodAll_cons r1
  obtain ⟨rfl, rfl, rfl⟩ := trodAll_nil r2
  obtain rfl : args = #[v0, v1, v2] := by cases args; simp_all
  obtain ⟨s0, P, e0, hP⟩ := rd_prof (arg_slice 4 Try.underlying22 (by kernel_rfl) (hval 0 22 v0 rfl rfl) h0)
  simp only [List.cons.injEq, and_true] at e0
  subst e0
  obtain ⟨cs1, rfl, hcs1⟩ := arg_struct 4 Try.underlying24 (by kernel_rfl) (hval 1 24 v1 rfl rfl) h1
  obtain ⟨x, rfl, _⟩ := rd_ask hcs1
  obtain ⟨cs2, rfl, hcs2⟩ := arg_struct 4 Try.underlying24 (by kernel_rfl) (hval 2 24 v2 rfl rfl) h2
  obtain ⟨a, rfl, _⟩ := rd_ask hcs2
  exact law_run (PlanLater_S s0 P x a W hP)
set_option maxRecDepth 100000 in
theorem PlanLater_lifted (os : Os) (started : os.Started) (H : Type) (enc : TypeId × Value → H) :
    ReturnsInHanded {} Try.checked os 7 .any (Rows.planLaterSpec.pre6 enc Try.prog Try.f7 Rows.planLaterRow.domain false) (Rows.planLaterSpec.post enc Try.prog Try.f7 false true false false) :=
  lift_true started Try.func7 (by kernel_rfl)
    (ChangeSpec.witness6 (enc := enc) (C := Try.checked) false ⟨#[], #[.slice none 0 0, .agg #[.int .i64 0, .int .i64 0], .agg #[.int .i64 0, .int .i64 0]], []⟩ 8 (by kernel_rfl) (by kernel_rfl) (by kernel_rfl) (by kernel_rfl))
    rfl rfl (by kernel_rfl) (fun ds h => by match ds, h with | [a0, a1, a2], _ => rfl) (PlanLater_law enc)
theorem PlanLater_over : Rows.planLaterRow.holds Try.pinned (OpenSpec.ofChange Rows.planLaterSpec) :=
  OpenClaim.holds_of_wide 7 Try.f7 rfl rfl rfl rfl rfl rfl rfl ⟨rfl, rfl, rfl, rfl, rfl⟩ rfl rfl rfl rfl rfl (by kernel_rfl) Try.func7 (by kernel_rfl)
    (of_decide_eq_true (by kernel_rfl)) (by unfold Func.isWrapper; rw [if_neg (of_decide_eq_false (by kernel_rfl))]; exact ⟨rfl, rfl⟩)
    (fun os started H enc _ => PlanLater_lifted os started H enc)
theorem PlanLater_holds : Rows.PlanLaterSaid := PlanLater_over
#print axioms PlanLater_holds
end Go.Proofs.Ytknpddiffellgaa
