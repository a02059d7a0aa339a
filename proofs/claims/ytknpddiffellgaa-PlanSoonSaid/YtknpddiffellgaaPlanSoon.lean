/- PlanSoon: nobody could start sooner: ahead of where an ask starts no row has so many free cells. -/
import Derived.Test.YtknpddiffellgaaPlanK
import Derived.Test.YtknpddiffellgaaPlanL
import Derived.Test.YtknpddiffellgaaLift
namespace Go.Proofs.Ytknpddiffellgaa
open Go.RowKit
set_option maxRecDepth 20000
set_option linter.unusedVariables false
theorem inI_maxmin (x : Int) : max 0 (min x 1099511627776) = inI x := by unfold inI; split <;> (try split) <;> omega
set_option maxHeartbeats 2000000 in
theorem PlanSoon_S (s0 : SV) (P : List RW) (a : Ak) (q : Int) (W : World) (hq : 0 ≤ q ∧ q ≤ 255) (hP : RdP (old W) s0 P) : LawS 6 [s0.v, .agg (akC a).toArray, .int .u8 q] W := by
  refine Spec.of_body Try.func6 rfl Try.ntmps6 rfl ?_
  intro w0 Γ
  show S _ w0 [(0, s0.v), (1, .agg (akC a).toArray), (2, .int .u8 q)] (old W :: Γ) _
  obtain ⟨D, hD⟩ : ∃ D, D = fewR (dat P) := ⟨_, rfl⟩
  have hsm : Sml D := by rw [hD]; exact few_sml _
  obtain ⟨F, hF⟩ : ∃ F, F = firstR D a.k := ⟨_, rfl⟩
  have hFa := first_at (D := D) (k := a.k)
  rw [← hF] at hFa
  refine S.seq fun K1 hK1 => ?_
  refine S.region rfl ?_
  refine S.op (S.box (cs := [_, _]) rfl rfl rfl ?_)
  intro b4
  refine S.op (S.q (q_assign rfl) rfl rfl ?_)
  first | with_reducible refine S.nilK ?_ | refine S.nil ?_
  refine hK1 _ _ ?_
  refine S.seq fun K2 hK2 => ?_
  refine S.seq fun K3 hK3 => ?_
  refine S.region rfl ?_
  refine S.op (S.callP Try.en11 (vs := []) trivial (fun w hs => awake_P w) rfl ?_)
  refine S.op (S.q (q_not rfl) rfl rfl ?_)
  first | with_reducible refine S.nilK ?_ | refine S.nil ?_
  refine hK3 _ _ ?_
  refine S.condF rfl ?_
  refine S.skip ?_
  with_reducible repeat (first | refine S.then_n ?_ | refine S.then_x ?_ | refine S.then_r ?_ | refine S.inBlock_n ?_ | refine S.inBlock_r ?_ | refine S.inBlock_x rfl ?_ | refine S.noGoto_r ?_ | refine S.noGoto_n ?_ | refine S.noGoto_x ?_)
  refine hK2 _ _ ?_
  refine S.seq fun K4 hK4 => ?_
  refine S.cut (fun ρ' Γ' => ∃ (c7 : Nat) (u1 : SV), ρ' = [(0, s0.v), (2, .int .u8 q), (4, .pointer (some ⟨b4, 0, none⟩)), (7, .pointer (some ⟨c7, 0, none⟩))] ∧ Γ' = blk c7 32 (stC u1 F).toArray :: blk b4 24 (akC a).toArray :: old W :: Γ) ?_ ?_
  · refine S.draw ([old W, blk b4 24 (akC a).toArray]) [] Try.mixed ?_
    refine S.dr_take 0 [] rfl (by kernel_rfl) rfl rfl rfl (q_move rfl) Sub.ent ?_
    refine S.dr_take 2 [] rfl (by kernel_rfl) rfl rfl rfl (q_loadS [_, _] Try.ag24 rfl rfl ⟨rfl, rfl, trivial⟩) Sub.ent ?_
    refine S.dr_2 (i := 1) (j := 4) (by kernel_rfl) rfl rfl rfl rfl ?_ ?_
    · refine  (S.call Try.en12 (vs := [_]) ⟨rfl, trivial⟩ (profile_S (old W) s0 P hP) rfl ?_)
      rintro v Θ ⟨s1, r1, rfl, hd1, rfl⟩
      rw [← hD] at hd1
      refine S.dr_k rfl Sub.ent ?_
      refine S.dr_2 (i := 3) (j := 4) (by kernel_rfl) rfl rfl rfl rfl ?_ ?_
      · refine  (S.call Try.en14 (vs := [_, _]) ⟨rfl, rfl, trivial⟩ (First_S (prof s1 r1) s1 r1 a.k a.len (Sml.len (by rw [hd1]; exact hsm)) (Sml.each (by rw [hd1]; exact hsm)) (RdP.prof s1 r1)) rfl ?_)
        rintro v Θ ⟨u1, rfl, rfl⟩
        rw [hd1, ← hF]
        refine S.dr_k rfl Sub.ent ?_
        refine S.dr_1 (i := 4) (by kernel_rfl) rfl rfl ?_
        refine  (S.alloc Try.z32 rfl ?_)
        intro b7
        refine S.dr_k rfl Sub.ent ?_
        refine S.dr_1 (i := 5) (by kernel_rfl) rfl rfl ?_
        refine  (S.storeS (cs' := [_, _, _, _]) Try.ag32 rfl rfl rfl rfl rfl rfl ?_)
        refine S.dr_k rfl Sub.ent ?_
        first | with_reducible refine S.dr_doneK (by kernel_rfl) ?_ | refine S.dr_done (by kernel_rfl) ?_
        with_reducible repeat (first | refine S.then_n ?_ | refine S.then_x ?_ | refine S.then_r ?_ | refine S.inBlock_n ?_ | refine S.inBlock_r ?_ | refine S.inBlock_x rfl ?_ | refine S.noGoto_r ?_ | refine S.noGoto_n ?_ | refine S.noGoto_x ?_)
        exact S.meet ⟨b7, u1, rfl, rfl⟩ ⟨rfl, rfl, rfl, rfl, trivial⟩ Sub.ent
      · refine  (S.alloc Try.z32 rfl ?_)
        intro b7
        refine S.dr_k rfl Sub.ent ?_
        refine S.dr_1 (i := 3) (by kernel_rfl) rfl rfl ?_
        refine  (S.call Try.en14 (vs := [_, _]) ⟨rfl, rfl, trivial⟩ (First_S (prof s1 r1) s1 r1 a.k a.len (Sml.len (by rw [hd1]; exact hsm)) (Sml.each (by rw [hd1]; exact hsm)) (RdP.prof s1 r1)) rfl ?_)
        rintro v Θ ⟨u1, rfl, rfl⟩
        rw [hd1, ← hF]
        refine S.dr_k rfl Sub.ent ?_
        refine S.dr_1 (i := 5) (by kernel_rfl) rfl rfl ?_
        refine  (S.storeS (cs' := [_, _, _, _]) Try.ag32 rfl rfl rfl rfl rfl rfl ?_)
        refine S.dr_k rfl Sub.ent ?_
        first | with_reducible refine S.dr_doneK (by kernel_rfl) ?_ | refine S.dr_done (by kernel_rfl) ?_
        with_reducible repeat (first | refine S.then_n ?_ | refine S.then_x ?_ | refine S.then_r ?_ | refine S.inBlock_n ?_ | refine S.inBlock_r ?_ | refine S.inBlock_x rfl ?_ | refine S.noGoto_r ?_ | refine S.noGoto_n ?_ | refine S.noGoto_x ?_)
        exact S.meet ⟨b7, u1, rfl, rfl⟩ ⟨rfl, rfl, rfl, rfl, trivial⟩ Sub.ent
    · refine  (S.alloc Try.z32 rfl ?_)
      intro b7
      refine S.dr_k rfl Sub.ent ?_
      refine S.dr_1 (i := 1) (by kernel_rfl) rfl rfl ?_
      refine  (S.call Try.en12 (vs := [_]) ⟨rfl, trivial⟩ (profile_S (old W) s0 P hP) rfl ?_)
      rintro v Θ ⟨s1, r1, rfl, hd1, rfl⟩
      rw [← hD] at hd1
      refine S.dr_k rfl Sub.ent ?_
      refine S.dr_1 (i := 3) (by kernel_rfl) rfl rfl ?_
      refine  (S.call Try.en14 (vs := [_, _]) ⟨rfl, rfl, trivial⟩ (First_S (prof s1 r1) s1 r1 a.k a.len (Sml.len (by rw [hd1]; exact hsm)) (Sml.each (by rw [hd1]; exact hsm)) (RdP.prof s1 r1)) rfl ?_)
      rintro v Θ ⟨u1, rfl, rfl⟩
      rw [hd1, ← hF]
      refine S.dr_k rfl Sub.ent ?_
      refine S.dr_1 (i := 5) (by kernel_rfl) rfl rfl ?_
      refine  (S.storeS (cs' := [_, _, _, _]) Try.ag32 rfl rfl rfl rfl rfl rfl ?_)
      refine S.dr_k rfl Sub.ent ?_
      first | with_reducible refine S.dr_doneK (by kernel_rfl) ?_ | refine S.dr_done (by kernel_rfl) ?_
      with_reducible repeat (first | refine S.then_n ?_ | refine S.then_x ?_ | refine S.then_r ?_ | refine S.inBlock_n ?_ | refine S.inBlock_r ?_ | refine S.inBlock_x rfl ?_ | refine S.noGoto_r ?_ | refine S.noGoto_n ?_ | refine S.noGoto_x ?_)
      exact S.meet ⟨b7, u1, rfl, rfl⟩ ⟨rfl, rfl, rfl, rfl, trivial⟩ Sub.ent
  · rintro ρ' Γ' ⟨b7, u1, rfl, rfl⟩
    refine hK4 _ _ ?_
    refine S.seq fun K5 hK5 => ?_
    refine S.region rfl ?_
    refine S.op (S.q (q_field Try.fo32_0 rfl) rfl rfl ?_)
    refine S.op (S.q (q_load Try.at3 rfl rfl) rfl rfl ?_)
    refine S.op (S.q (q_sub rfl rfl (inI64 (by omega) (by omega))) rfl rfl ?_)
    refine S.op (S.q (q_move rfl) rfl rfl ?_)
    refine S.op (S.q (q_conv Try.it3 (by rw [Try.underlying5]; rfl) rfl (inI64 (by omega) (by omega))) rfl rfl ?_)
    refine S.op (S.q (q_sub rfl rfl (inI64 (by omega) (by omega))) rfl rfl ?_)
    refine S.op (S.q (q_assign rfl) rfl rfl ?_)
    first | with_reducible refine S.nilK ?_ | refine S.nil ?_
    refine hK5 _ _ ?_
    refine S.seq fun K6 hK6 => ?_
    refine S.seq fun K7 hK7 => ?_
    refine S.cut (fun ρ' Γ' => ∃ c : Bool, (c = false → F.ok = true → 0 ≤ F.at_ - 1 - q) ∧ ρ' = [(0, s0.v), (4, .pointer (some ⟨b4, 0, none⟩)), (7, .pointer (some ⟨b7, 0, none⟩)), (8, .int .i64 (F.at_ - 1 - q)), (31, .bool c)] ∧ Γ' = blk b7 32 (stC u1 F).toArray :: blk b4 24 (akC a).toArray :: old W :: Γ) ?_ ?_
    · refine S.regionG ?_
      refine S.g_op rfl (S.q (q_field Try.fo32_3 rfl) rfl rfl ?_)
      refine S.g_op rfl (S.q (q_load Try.at4 rfl rfl) rfl rfl ?_)
      refine S.g_op rfl (S.q (q_move rfl) rfl rfl ?_)
      rcases Bool.eq_false_or_eq_true (F.ok) with hg5_2 | hg5_2
      · refine S.g_yes rfl rfl rfl (hg5_2) (S.q (q_move rfl) rfl rfl ?_)
        refine S.g_yes rfl rfl rfl (hg5_2) (S.q (q_lt rfl rfl) rfl rfl ?_)
        refine S.g_op rfl (S.q (q_pickT rfl (hg5_2) rfl) rfl rfl ?_)
        first | with_reducible refine S.g_nilK ?_ | refine S.g_nil ?_
        with_reducible repeat (first | refine S.then_n ?_ | refine S.then_x ?_ | refine S.then_r ?_ | refine S.inBlock_n ?_ | refine S.inBlock_r ?_ | refine S.inBlock_x rfl ?_ | refine S.noGoto_r ?_ | refine S.noGoto_n ?_ | refine S.noGoto_x ?_)
        first
        | exact S.meet ⟨_, fun h _ => (by have := of_decide_eq_false h; omega), rfl, rfl⟩ ⟨rfl, rfl, rfl, rfl, rfl, trivial⟩ Sub.ent
        | exact S.meet ⟨_, fun _ h => (by rw [hg5_2] at h; cases h), rfl, rfl⟩ ⟨rfl, rfl, rfl, rfl, rfl, trivial⟩ Sub.ent
      · refine S.g_no rfl rfl rfl (hg5_2) rfl rfl ?_
        refine S.g_no rfl rfl rfl (hg5_2) rfl rfl ?_
        refine S.g_op rfl (S.q (q_pickF rfl (hg5_2) rfl) rfl rfl ?_)
        first | with_reducible refine S.g_nilK ?_ | refine S.g_nil ?_
        with_reducible repeat (first | refine S.then_n ?_ | refine S.then_x ?_ | refine S.then_r ?_ | refine S.inBlock_n ?_ | refine S.inBlock_r ?_ | refine S.inBlock_x rfl ?_ | refine S.noGoto_r ?_ | refine S.noGoto_n ?_ | refine S.noGoto_x ?_)
        first
        | exact S.meet ⟨_, fun h _ => (by have := of_decide_eq_false h; omega), rfl, rfl⟩ ⟨rfl, rfl, rfl, rfl, rfl, trivial⟩ Sub.ent
        | exact S.meet ⟨_, fun _ h => (by rw [hg5_2] at h; cases h), rfl, rfl⟩ ⟨rfl, rfl, rfl, rfl, rfl, trivial⟩ Sub.ent
    · rintro ρ' Γ' ⟨c, hc, rfl, rfl⟩
      refine hK7 _ _ ?_
      refine S.cond rfl (fun h2 => ?_) (fun h2 => ?_)
      · refine S.seq fun K8 hK8 => ?_
        refine S.region rfl ?_
        refine S.op (S.q (q_assign rfl) rfl rfl ?_)
        first | with_reducible refine S.nilK ?_ | refine S.nil ?_
        refine hK8 _ _ ?_
        refine S.ret ?_
        with_reducible repeat (first | refine S.then_n ?_ | refine S.then_x ?_ | refine S.then_r ?_ | refine S.inBlock_n ?_ | refine S.inBlock_r ?_ | refine S.inBlock_x rfl ?_ | refine S.noGoto_r ?_ | refine S.noGoto_n ?_ | refine S.noGoto_x ?_)
        exact S.fin (rs := [_]) (vs := [_]) Try.results6 (⟨rfl, trivial⟩)  (⟨rfl, rfl⟩) Sub.ent
      · have hge := hc h2
        refine S.skip ?_
        with_reducible repeat (first | refine S.then_n ?_ | refine S.then_x ?_ | refine S.then_r ?_ | refine S.inBlock_n ?_ | refine S.inBlock_r ?_ | refine S.inBlock_x rfl ?_ | refine S.noGoto_r ?_ | refine S.noGoto_n ?_ | refine S.noGoto_x ?_)
        refine hK6 _ _ ?_
        refine S.seq fun K9 hK9 => ?_
        refine S.seq fun K10 hK10 => ?_
        refine S.region rfl ?_
        refine S.op (S.q (q_field Try.fo32_3 rfl) rfl rfl ?_)
        refine S.op (S.q (q_load Try.at4 rfl rfl) rfl rfl ?_)
        refine S.op (S.q (q_not rfl) rfl rfl ?_)
        first | with_reducible refine S.nilK ?_ | refine S.nil ?_
        refine hK10 _ _ ?_
        refine S.cut (fun ρ' Γ' => ∃ v : Int, (F.ok = true → v < F.at_) ∧ ρ' = [(0, s0.v), (4, .pointer (some ⟨b4, 0, none⟩)), (8, .int .i64 v)] ∧ Γ' = blk b4 24 (akC a).toArray :: old W :: Γ) ?_ ?_
        · refine S.cond rfl (fun h3 => ?_) (fun h3 => ?_)
          · refine S.region rfl ?_
            refine S.op (S.q (q_assign rfl) rfl rfl ?_)
            first | with_reducible refine S.nilK ?_ | refine S.nil ?_
            with_reducible repeat (first | refine S.then_n ?_ | refine S.then_x ?_ | refine S.then_r ?_ | refine S.inBlock_n ?_ | refine S.inBlock_r ?_ | refine S.inBlock_x rfl ?_ | refine S.noGoto_r ?_ | refine S.noGoto_n ?_ | refine S.noGoto_x ?_)
            first
            | exact S.meet ⟨1099511627776, fun h => (by rw [h] at h3; cases h3), rfl, rfl⟩ ⟨rfl, rfl, rfl, trivial⟩ Sub.ent
            | exact S.meet ⟨F.at_ - 1 - q, fun h => (by omega), rfl, rfl⟩ ⟨rfl, rfl, rfl, trivial⟩ Sub.ent
          · refine S.skip ?_
            with_reducible repeat (first | refine S.then_n ?_ | refine S.then_x ?_ | refine S.then_r ?_ | refine S.inBlock_n ?_ | refine S.inBlock_r ?_ | refine S.inBlock_x rfl ?_ | refine S.noGoto_r ?_ | refine S.noGoto_n ?_ | refine S.noGoto_x ?_)
            with_reducible repeat (first | refine S.then_n ?_ | refine S.then_x ?_ | refine S.then_r ?_ | refine S.inBlock_n ?_ | refine S.inBlock_r ?_ | refine S.inBlock_x rfl ?_ | refine S.noGoto_r ?_ | refine S.noGoto_n ?_ | refine S.noGoto_x ?_)
            first
            | exact S.meet ⟨1099511627776, fun h => (by rw [h] at h3; cases h3), rfl, rfl⟩ ⟨rfl, rfl, rfl, trivial⟩ Sub.ent
            | exact S.meet ⟨F.at_ - 1 - q, fun h => (by omega), rfl, rfl⟩ ⟨rfl, rfl, rfl, trivial⟩ Sub.ent
        · rintro ρ' Γ' ⟨v, hv, rfl, rfl⟩
          refine hK9 _ _ ?_
          refine S.seq fun K11 hK11 => ?_
          refine S.seq fun K12 hK12 => ?_
          refine S.region rfl ?_
          refine S.op (S.q (q_move rfl) rfl rfl ?_)
          refine S.op (S.call Try.en13 (vs := [_]) ⟨rfl, trivial⟩ (Few_S (old W) s0 P hP) rfl ?_)
          rintro v Θ ⟨s2, r2, rfl, hd2, rfl⟩
          rw [← hD] at hd2
          have hm2 : Sml (dat r2) := by rw [hd2]; exact hsm
          refine S.rCap (RdP.prof s2 r2).top fun hn2 _ _ => ?_
          have hrl2 := hm2.len
          refine S.op (S.q (q_len Try.underlying22 rfl) rfl rfl ?_)
          refine S.op (S.q (q_move rfl) rfl rfl ?_)
          first | with_reducible refine S.nilK ?_ | refine S.nil ?_
          refine hK12 _ _ ?_
          refine S.block ?_
          refine S.loop (fun m ρ' Γ' => ∃ i : Nat, m + i = r2.length ∧ ρ' = [(4, .pointer (some ⟨b4, 0, none⟩)), (8, .int .i64 v), (36, s2.v), (37, .int .i64 s2.n), (38, .int .i64 i)] ∧ Γ' = prof s2 r2 :: blk b4 24 (akC a).toArray :: old W :: Γ) (m := _) (ρ0 := _) (Γ0 := _) (⟨0, rfl, rfl, rfl⟩) (by repeat (first | exact trivial | refine ⟨rfl, ?_⟩)) Sub.ent ?_
          rintro m ρ' Γ' ⟨i, hmi, rfl, rfl⟩
          refine S.seq fun K13 hK13 => ?_
          refine S.region rfl ?_
          refine S.op (S.q (q_lt rfl rfl) rfl rfl ?_)
          first | with_reducible refine S.nilK ?_ | refine S.nil ?_
          refine hK13 _ _ ?_
          refine S.seq fun K14 hK14 => ?_
          refine S.condD rfl (fun h4 => ?_) (fun h4 => ?_)
          · obtain ⟨r, hr⟩ := getE (l := r2) (i := i) (by omega)
            have hrd := hm2.each r (List.mem_of_getElem? hr)
            have hdr : D[i]? = some r.d := by rw [← hd2, List.getElem?_map, hr]; rfl
            have hsoon : 1 ≤ a.k → (cnt r.d v : Int) < a.k := fun h => soon h (by rw [← hF]; exact hv) hdr
            refine S.rSome (RdP.prof s2 r2).top (by omega) fun b off hb => ?_
            refine S.rCap ((RdP.prof s2 r2).row hr) fun hrn _ _ => ?_
            refine S.skip ?_
            with_reducible repeat (first | refine S.then_n ?_ | refine S.then_x ?_ | refine S.then_r ?_ | refine S.inBlock_n ?_ | refine S.inBlock_r ?_ | refine S.inBlock_x rfl ?_ | refine S.noGoto_r ?_ | refine S.noGoto_n ?_ | refine S.noGoto_x ?_)
            refine hK14 _ _ ?_
            refine S.seq fun K15 hK15 => ?_
            refine S.block ?_
            refine S.seq fun K16 hK16 => ?_
            refine S.region rfl ?_
            refine S.op (S.q (q_indexO (i) Try.el22 rfl hb rfl rfl (by omega)) rfl rfl ?_)
            refine S.op (S.q (q_loadR (RdP.prof s2 r2).top (i * 1) Try.at25 rfl hb (by omega) rfl (flat_get (enc := rwC) (sz := 1) (k := 0) rwC_len hr rfl)) rfl rfl ?_)
            refine S.op (S.q (q_assign rfl) rfl rfl ?_)
            first | with_reducible refine S.nilK ?_ | refine S.nil ?_
            refine hK16 _ _ ?_
            refine S.seq fun K17 hK17 => ?_
            refine S.region rfl ?_
            refine S.op (S.q (q_assign rfl) rfl rfl ?_)
            first | with_reducible refine S.nilK ?_ | refine S.nil ?_
            refine hK17 _ _ ?_
            refine S.seq fun K18 hK18 => ?_
            refine S.seq fun K19 hK19 => ?_
            refine S.region rfl ?_
            refine S.op (S.q (q_move rfl) rfl rfl ?_)
            refine S.op (S.q (q_len Try.underlying25 rfl) rfl rfl ?_)
            refine S.op (S.q (q_move rfl) rfl rfl ?_)
            first | with_reducible refine S.nilK ?_ | refine S.nil ?_
            refine hK19 _ _ ?_
            refine S.block ?_
            refine S.loop (fun m2 ρ' Γ' => ∃ j c : Nat, m2 + j = r.d.length ∧ c = cnt (r.d.take j) v ∧ ρ' = [(4, .pointer (some ⟨b4, 0, none⟩)), (8, .int .i64 v), (11, .int .i64 c), (36, s2.v), (37, .int .i64 s2.n), (38, .int .i64 i), (42, r.v.v), (43, .int .i64 r.v.n), (44, .int .i64 j)] ∧ Γ' = prof s2 r2 :: blk b4 24 (akC a).toArray :: old W :: Γ) (m := _) (ρ0 := _) (Γ0 := _) (⟨0, 0, rfl, rfl, rfl, rfl⟩) (by repeat (first | exact trivial | refine ⟨rfl, ?_⟩)) Sub.ent ?_
            rintro m2 ρ' Γ' ⟨j, c, hmj, hc', rfl, rfl⟩
            have hcl := cnt_le (r.d.take j) v
            rw [List.length_take] at hcl
            refine S.seq fun K20 hK20 => ?_
            refine S.region rfl ?_
            refine S.op (S.q (q_lt rfl rfl) rfl rfl ?_)
            first | with_reducible refine S.nilK ?_ | refine S.nil ?_
            refine hK20 _ _ ?_
            refine S.seq fun K21 hK21 => ?_
            refine S.condD rfl (fun h5 => ?_) (fun h5 => ?_)
            · obtain ⟨x, hx⟩ := getE (l := r.d) (i := j) (by omega)
              have hsucc := cnt_succ (v := v) hx
              refine S.rSome ((RdP.prof s2 r2).row hr) (by omega) fun b' off' hb' => ?_
              refine S.skip ?_
              with_reducible repeat (first | refine S.then_n ?_ | refine S.then_x ?_ | refine S.then_r ?_ | refine S.inBlock_n ?_ | refine S.inBlock_r ?_ | refine S.inBlock_x rfl ?_ | refine S.noGoto_r ?_ | refine S.noGoto_n ?_ | refine S.noGoto_x ?_)
              refine hK21 _ _ ?_
              refine S.seq fun K22 hK22 => ?_
              refine S.cut (fun ρ' Γ' => ∃ c2 : Nat, c2 = cnt (r.d.take (j + 1)) v ∧ ρ' = [(4, .pointer (some ⟨b4, 0, none⟩)), (8, .int .i64 v), (11, .int .i64 c2), (36, s2.v), (37, .int .i64 s2.n), (38, .int .i64 i), (42, r.v.v), (43, .int .i64 r.v.n), (44, .int .i64 j)] ∧ Γ' = prof s2 r2 :: blk b4 24 (akC a).toArray :: old W :: Γ) ?_ ?_
              · refine S.block ?_
                refine S.seq fun K23 hK23 => ?_
                refine S.region rfl ?_
                refine S.op (S.q (q_indexO (j) Try.el25 rfl hb' rfl rfl (by omega)) rfl rfl ?_)
                refine S.op (S.q (q_loadR ((RdP.prof s2 r2).row hr) j Try.at3 rfl hb' (by omega) (by omega) (ints_get hx)) rfl rfl ?_)
                refine S.op (S.q (q_assign rfl) rfl rfl ?_)
                first | with_reducible refine S.nilK ?_ | refine S.nil ?_
                refine hK23 _ _ ?_
                refine S.seq fun K24 hK24 => ?_
                refine S.region rfl ?_
                refine S.op (S.q (q_move rfl) rfl rfl ?_)
                refine S.op (S.q (q_min (min x 1099511627776) rfl rfl (by omega)) rfl rfl ?_)
                refine S.op (S.q (q_max (inI x) rfl rfl (by rw [← inI_maxmin]; omega)) rfl rfl ?_)
                refine S.op (S.q (q_move rfl) rfl rfl ?_)
                refine S.op (S.q (q_le rfl rfl) rfl rfl ?_)
                first | with_reducible refine S.nilK ?_ | refine S.nil ?_
                refine hK24 _ _ ?_
                refine S.condD rfl (fun h6 => ?_) (fun h6 => ?_)
                · refine S.region rfl ?_
                  refine S.op (S.q (q_move rfl) rfl rfl ?_)
                  refine S.op (S.q (q_add rfl rfl (inI64 (by omega) (by omega))) rfl rfl ?_)
                  refine S.op (S.q (q_assign rfl) rfl rfl ?_)
                  first | with_reducible refine S.nilK ?_ | refine S.nil ?_
                  with_reducible repeat (first | refine S.then_n ?_ | refine S.then_x ?_ | refine S.then_r ?_ | refine S.inBlock_n ?_ | refine S.inBlock_r ?_ | refine S.inBlock_x rfl ?_ | refine S.noGoto_r ?_ | refine S.noGoto_n ?_ | refine S.noGoto_x ?_)
                  with_reducible repeat (first | refine S.then_n ?_ | refine S.then_x ?_ | refine S.then_r ?_ | refine S.inBlock_n ?_ | refine S.inBlock_r ?_ | refine S.inBlock_x rfl ?_ | refine S.noGoto_r ?_ | refine S.noGoto_n ?_ | refine S.noGoto_x ?_)
                  first | exact S.meet ⟨c + 1, by rw [hsucc, if_pos (by assumption), hc'], rfl, rfl⟩ ⟨rfl, rfl, rfl, rfl, rfl, rfl, rfl, rfl, rfl, trivial⟩ Sub.ent | exact S.meet ⟨c, by rw [hsucc, if_neg (by assumption), hc', Nat.add_zero], rfl, rfl⟩ ⟨rfl, rfl, rfl, rfl, rfl, rfl, rfl, rfl, rfl, trivial⟩ Sub.ent
                · refine S.skip ?_
                  with_reducible repeat (first | refine S.then_n ?_ | refine S.then_x ?_ | refine S.then_r ?_ | refine S.inBlock_n ?_ | refine S.inBlock_r ?_ | refine S.inBlock_x rfl ?_ | refine S.noGoto_r ?_ | refine S.noGoto_n ?_ | refine S.noGoto_x ?_)
                  with_reducible repeat (first | refine S.then_n ?_ | refine S.then_x ?_ | refine S.then_r ?_ | refine S.inBlock_n ?_ | refine S.inBlock_r ?_ | refine S.inBlock_x rfl ?_ | refine S.noGoto_r ?_ | refine S.noGoto_n ?_ | refine S.noGoto_x ?_)
                  with_reducible repeat (first | refine S.then_n ?_ | refine S.then_x ?_ | refine S.then_r ?_ | refine S.inBlock_n ?_ | refine S.inBlock_r ?_ | refine S.inBlock_x rfl ?_ | refine S.noGoto_r ?_ | refine S.noGoto_n ?_ | refine S.noGoto_x ?_)
                  first | exact S.meet ⟨c + 1, by rw [hsucc, if_pos (by assumption), hc'], rfl, rfl⟩ ⟨rfl, rfl, rfl, rfl, rfl, rfl, rfl, rfl, rfl, trivial⟩ Sub.ent | exact S.meet ⟨c, by rw [hsucc, if_neg (by assumption), hc', Nat.add_zero], rfl, rfl⟩ ⟨rfl, rfl, rfl, rfl, rfl, rfl, rfl, rfl, rfl, trivial⟩ Sub.ent
              · rintro ρ' Γ' ⟨c2, hc2, rfl, rfl⟩
                refine hK22 _ _ ?_
                refine S.region rfl ?_
                refine S.op (S.q (q_add rfl rfl (inI64 (by omega) (by omega))) rfl rfl ?_)
                refine S.op (S.q (q_move rfl) rfl rfl ?_)
                first | with_reducible refine S.nilK ?_ | refine S.nil ?_
                with_reducible repeat (first | refine S.then_n ?_ | refine S.then_x ?_ | refine S.then_r ?_ | refine S.inBlock_n ?_ | refine S.inBlock_r ?_ | refine S.inBlock_x rfl ?_ | refine S.noGoto_r ?_ | refine S.noGoto_n ?_ | refine S.noGoto_x ?_)
                exact S.next (m2 - 1) (⟨j + 1, c2, by omega, hc2, rfl, rfl⟩) (by omega) (by repeat (first | exact trivial | refine ⟨rfl, ?_⟩)) Sub.ent
            · rw [List.take_of_length_le (by omega)] at hc'
              refine S.exit ?_
              with_reducible repeat (first | refine S.then_n ?_ | refine S.then_x ?_ | refine S.then_r ?_ | refine S.inBlock_n ?_ | refine S.inBlock_r ?_ | refine S.inBlock_x rfl ?_ | refine S.noGoto_r ?_ | refine S.noGoto_n ?_ | refine S.noGoto_x ?_)
              with_reducible refine S.inBlock_s ?_
              with_reducible repeat (first | refine S.then_n ?_ | refine S.then_x ?_ | refine S.then_r ?_ | refine S.inBlock_n ?_ | refine S.inBlock_r ?_ | refine S.inBlock_x rfl ?_ | refine S.noGoto_r ?_ | refine S.noGoto_n ?_ | refine S.noGoto_x ?_)
              refine hK18 _ _ ?_
              refine S.seq fun K25 hK25 => ?_
              refine S.regionG ?_
              refine S.g_op rfl (S.q (q_field Try.fo24_0 rfl) rfl rfl ?_)
              refine S.g_op rfl (S.q (q_load Try.at3 rfl rfl) rfl rfl ?_)
              refine S.g_op rfl (S.q (q_ge rfl rfl) rfl rfl ?_)
              refine S.g_op rfl (S.q (q_move rfl) rfl rfl ?_)
              by_cases hg19_3 : (1 : Int) ≤ a.k
              · refine S.g_yes rfl rfl rfl (decide_eq_true hg19_3) (S.q (q_move rfl) rfl rfl ?_)
                refine S.g_yes rfl rfl rfl (decide_eq_true hg19_3) (S.q (q_field Try.fo24_0 rfl) rfl rfl ?_)
                refine S.g_yes rfl rfl rfl (decide_eq_true hg19_3) (S.q (q_load Try.at3 rfl rfl) rfl rfl ?_)
                refine S.g_yes rfl rfl rfl (decide_eq_true hg19_3) (S.q (q_ge rfl rfl) rfl rfl ?_)
                refine S.g_op rfl (S.q (q_pickT rfl (decide_eq_true hg19_3) rfl) rfl rfl ?_)
                first | with_reducible refine S.g_nilK ?_ | refine S.g_nil ?_
                refine hK25 _ _ ?_
                refine S.condD rfl (fun h7 => ?_) (fun h7 => ?_)
                · exact absurd (hsoon (by assumption)) (by omega)
                · refine S.skip ?_
                  with_reducible repeat (first | refine S.then_n ?_ | refine S.then_x ?_ | refine S.then_r ?_ | refine S.inBlock_n ?_ | refine S.inBlock_r ?_ | refine S.inBlock_x rfl ?_ | refine S.noGoto_r ?_ | refine S.noGoto_n ?_ | refine S.noGoto_x ?_)
                  with_reducible repeat (first | refine S.then_n ?_ | refine S.then_x ?_ | refine S.then_r ?_ | refine S.inBlock_n ?_ | refine S.inBlock_r ?_ | refine S.inBlock_x rfl ?_ | refine S.noGoto_r ?_ | refine S.noGoto_n ?_ | refine S.noGoto_x ?_)
                  refine hK15 _ _ ?_
                  refine S.region rfl ?_
                  refine S.op (S.q (q_add rfl rfl (inI64 (by omega) (by omega))) rfl rfl ?_)
                  refine S.op (S.q (q_move rfl) rfl rfl ?_)
                  first | with_reducible refine S.nilK ?_ | refine S.nil ?_
                  with_reducible repeat (first | refine S.then_n ?_ | refine S.then_x ?_ | refine S.then_r ?_ | refine S.inBlock_n ?_ | refine S.inBlock_r ?_ | refine S.inBlock_x rfl ?_ | refine S.noGoto_r ?_ | refine S.noGoto_n ?_ | refine S.noGoto_x ?_)
                  exact S.next (m - 1) (⟨i + 1, by omega, rfl, rfl⟩) (by omega) (by repeat (first | exact trivial | refine ⟨rfl, ?_⟩)) Sub.ent
              · refine S.g_no rfl rfl rfl (decide_eq_false hg19_3) rfl rfl ?_
                refine S.g_no rfl rfl rfl (decide_eq_false hg19_3) rfl rfl ?_
                refine S.g_no rfl rfl rfl (decide_eq_false hg19_3) rfl rfl ?_
                refine S.g_no rfl rfl rfl (decide_eq_false hg19_3) rfl rfl ?_
                refine S.g_op rfl (S.q (q_pickF rfl (decide_eq_false hg19_3) rfl) rfl rfl ?_)
                first | with_reducible refine S.g_nilK ?_ | refine S.g_nil ?_
                refine hK25 _ _ ?_
                refine S.condF rfl ?_
                refine S.skip ?_
                with_reducible repeat (first | refine S.then_n ?_ | refine S.then_x ?_ | refine S.then_r ?_ | refine S.inBlock_n ?_ | refine S.inBlock_r ?_ | refine S.inBlock_x rfl ?_ | refine S.noGoto_r ?_ | refine S.noGoto_n ?_ | refine S.noGoto_x ?_)
                with_reducible repeat (first | refine S.then_n ?_ | refine S.then_x ?_ | refine S.then_r ?_ | refine S.inBlock_n ?_ | refine S.inBlock_r ?_ | refine S.inBlock_x rfl ?_ | refine S.noGoto_r ?_ | refine S.noGoto_n ?_ | refine S.noGoto_x ?_)
                refine hK15 _ _ ?_
                refine S.region rfl ?_
                refine S.op (S.q (q_add rfl rfl (inI64 (by omega) (by omega))) rfl rfl ?_)
                refine S.op (S.q (q_move rfl) rfl rfl ?_)
                first | with_reducible refine S.nilK ?_ | refine S.nil ?_
                with_reducible repeat (first | refine S.then_n ?_ | refine S.then_x ?_ | refine S.then_r ?_ | refine S.inBlock_n ?_ | refine S.inBlock_r ?_ | refine S.inBlock_x rfl ?_ | refine S.noGoto_r ?_ | refine S.noGoto_n ?_ | refine S.noGoto_x ?_)
                exact S.next (m - 1) (⟨i + 1, by omega, rfl, rfl⟩) (by omega) (by repeat (first | exact trivial | refine ⟨rfl, ?_⟩)) Sub.ent
          · refine S.exit ?_
            with_reducible repeat (first | refine S.then_n ?_ | refine S.then_x ?_ | refine S.then_r ?_ | refine S.inBlock_n ?_ | refine S.inBlock_r ?_ | refine S.inBlock_x rfl ?_ | refine S.noGoto_r ?_ | refine S.noGoto_n ?_ | refine S.noGoto_x ?_)
            with_reducible refine S.inBlock_s ?_
            with_reducible repeat (first | refine S.then_n ?_ | refine S.then_x ?_ | refine S.then_r ?_ | refine S.inBlock_n ?_ | refine S.inBlock_r ?_ | refine S.inBlock_x rfl ?_ | refine S.noGoto_r ?_ | refine S.noGoto_n ?_ | refine S.noGoto_x ?_)
            refine hK11 _ _ ?_
            refine S.seq fun K26 hK26 => ?_
            refine S.region rfl ?_
            refine S.op (S.q (q_assign rfl) rfl rfl ?_)
            first | with_reducible refine S.nilK ?_ | refine S.nil ?_
            refine hK26 _ _ ?_
            refine S.ret ?_
            with_reducible repeat (first | refine S.then_n ?_ | refine S.then_x ?_ | refine S.then_r ?_ | refine S.inBlock_n ?_ | refine S.inBlock_r ?_ | refine S.inBlock_x rfl ?_ | refine S.noGoto_r ?_ | refine S.noGoto_n ?_ | refine S.noGoto_x ?_)
            exact S.fin (rs := [_]) (vs := [_]) Try.results6 (⟨rfl, trivial⟩)  (⟨rfl, rfl⟩) Sub.ent
open Go.ChangeShapes Go.WideShapes Go.ChangeAt
theorem PlanSoon_law {H : Type} (enc : TypeId × Value → H) : LawWalk enc 6 Try.f6 := by
  intro W base args ds before hval hA _ _
  rw [Try.params6] at hA hval
  obtain ⟨v0, vs0, d0, ds0, p0, q0, hargs, rfl, rfl, h0, r0⟩ := trodAll_cons hA
  obtain ⟨v1, vs1, d1, ds1, p1, q1, rfl, rfl, rfl, h1, r1⟩ := trodAll_cons r0
  obtain ⟨v2, vs2, d2, ds2, p2, q2, rfl, rfl, rfl, h2, r2⟩ := trodAll_cons r1
  obtain ⟨rfl, rfl, rfl⟩ := trodAll_nil r2
  obtain rfl : args = #[v0, v1, v2] := by cases args; simp_all
  obtain ⟨s0, P, e0, hP⟩ := rd_prof (arg_slice 4 Try.underlying22 (by kernel_rfl) (hval 0 22 v0 rfl rfl) h0)
  simp only [List.cons.injEq, and_true] at e0
  subst e0
  obtain ⟨cs1, rfl, hcs1⟩ := arg_struct 4 Try.underlying24 (by kernel_rfl) (hval 1 24 v1 rfl rfl) h1
  obtain ⟨a, rfl, _⟩ := rd_ask hcs1
  obtain ⟨q, rfl, hq⟩ := arg_int Try.underlying5 (hval 2 5 v2 rfl rfl) h2
  exact law_run (PlanSoon_S s0 P a q W (u8_rng hq) hP)
set_option maxRecDepth 100000 in
theorem PlanSoon_lifted (os : Os) (started : os.Started) (H : Type) (enc : TypeId × Value → H) :
    ReturnsInHanded {} Try.checked os 6 .any (Rows.planSoonSpec.pre6 enc Try.prog Try.f6 Rows.planSoonRow.domain false) (Rows.planSoonSpec.post enc Try.prog Try.f6 false true false false) :=
  lift_true started Try.func6 (by kernel_rfl)
    (ChangeSpec.witness6 (enc := enc) (C := Try.checked) false ⟨#[], #[.slice none 0 0, .agg #[.int .i64 0, .int .i64 0], .int .u8 0], []⟩ 8 (by kernel_rfl) (by kernel_rfl) (by kernel_rfl) (by kernel_rfl))
    rfl rfl (by kernel_rfl) (fun ds h => by match ds, h with | [a0, a1, a2], _ => rfl) (PlanSoon_law enc)
theorem PlanSoon_over : Rows.planSoonRow.holds Try.pinned (OpenSpec.ofChange Rows.planSoonSpec) :=
  OpenClaim.holds_of_wide 6 Try.f6 rfl rfl rfl rfl rfl rfl rfl ⟨rfl, rfl, rfl, rfl, rfl⟩ rfl rfl rfl rfl rfl (by kernel_rfl) Try.func6 (by kernel_rfl)
    (of_decide_eq_true (by kernel_rfl)) (by unfold Func.isWrapper; rw [if_neg (of_decide_eq_false (by kernel_rfl))]; exact ⟨rfl, rfl⟩)
    (fun os started H enc _ => PlanSoon_lifted os started H enc)
theorem PlanSoon_holds : Rows.PlanSoonSaid := PlanSoon_over
#print axioms PlanSoon_holds
end Go.Proofs.Ytknpddiffellgaa
