/- The law PrioOrder: who goes first is an order, and of two that aren't the same just one goes first. -/
import Derived.Test.YthpfljiabhjodaaPrioI
namespace Go.Proofs.Ythpfljiabhjodaa
open Go.RowKit
set_option maxRecDepth 20000
theorem bf_tot' {a b : It} (h : a ≠ b) : (bf a b == bf b a) = false := by
  have h1 : bf a b = true ∨ bf b a = true := by
    simp only [bf, decide_eq_true_eq]
    obtain ⟨a1, a2, a3⟩ := a
    obtain ⟨b1, b2, b3⟩ := b
    simp only [ne_eq, It.mk.injEq] at h ⊢
    omega
  rcases h1 with h1 | h1
  · rw [h1, bf_as h1]; rfl
  · rw [h1, bf_as h1]; rfl
theorem PrioOrder_S (a b c : It) (W : World) : LawS 3 [.agg (itC a).toArray, .agg (itC b).toArray, .agg (itC c).toArray] W := by
  refine Spec.of_body Try.func3 rfl Try.ntmps3 rfl ?_
  intro w0 Γ
  show S _ w0 [(0, .agg (itC a).toArray), (1, .agg (itC b).toArray), (2, .agg (itC c).toArray)] (old W :: Γ) _
  refine S.seq fun K1 hK1 => ?_
  refine S.region rfl ?_
  refine S.op (S.box (cs := [_, _, _]) rfl rfl rfl ?_)
  intro b3
  refine S.op (S.box (cs := [_, _, _]) rfl rfl rfl ?_)
  intro b4
  refine S.op (S.box (cs := [_, _, _]) rfl rfl rfl ?_)
  intro b5
  refine S.op (S.q (q_assign rfl) rfl rfl ?_)
  first | with_reducible refine S.nilK ?_ | refine S.nil ?_
  refine hK1 _ _ ?_
  refine S.seq fun K2 hK2 => ?_
  refine S.cut (fun ρ' Γ' => ∃ c7 c8 c9 : Nat, ρ' = [(3, .pointer (some ⟨b3, 0, none⟩)), (4, .pointer (some ⟨b4, 0, none⟩)), (7, .pointer (some ⟨c7, 0, none⟩)), (8, .pointer (some ⟨c8, 0, none⟩)), (9, .pointer (some ⟨c9, 0, none⟩))] ∧ Γ' = blk b3 24 (itC a).toArray :: blk b4 24 (itC b).toArray :: blk c7 25 (itC a).toArray :: blk c8 25 (itC b).toArray :: blk c9 25 (itC c).toArray :: old W :: Γ) ?_ ?_
  · refine S.draw ([blk b3 24 (itC a).toArray, blk b4 24 (itC b).toArray, blk b5 24 (itC c).toArray]) [] Try.mixed ?_
    refine S.dr_take 0 [] rfl (by kernel_rfl) rfl rfl rfl (q_loadS [_, _, _] Try.ag24 rfl rfl ⟨rfl, rfl, rfl, trivial⟩) Sub.ent ?_
    refine S.dr_take 1 [] rfl (by kernel_rfl) rfl rfl rfl (q_loadS [_, _, _] Try.ag24 rfl rfl ⟨rfl, rfl, rfl, trivial⟩) Sub.ent ?_
    refine S.dr_take 2 [] rfl (by kernel_rfl) rfl rfl rfl (q_loadS [_, _, _] Try.ag24 rfl rfl ⟨rfl, rfl, rfl, trivial⟩) Sub.ent ?_
    refine S.dr_3 (i := 3) (j := 4) (l := 5) (by kernel_rfl) rfl rfl rfl rfl rfl rfl ?_ ?_ ?_
    · refine  (S.alloc Try.z25 rfl ?_)
      intro b7
      refine S.dr_k rfl Sub.ent ?_
      refine S.dr_2 (i := 4) (j := 5) (by kernel_rfl) rfl rfl rfl rfl ?_ ?_
      · refine  (S.alloc Try.z25 rfl ?_)
        intro b8
        refine S.dr_k rfl Sub.ent ?_
        refine S.dr_1 (i := 5) (by kernel_rfl) rfl rfl ?_
        refine  (S.alloc Try.z25 rfl ?_)
        intro b9
        refine S.dr_k rfl Sub.ent ?_
        refine S.dr_1 (i := 6) (by kernel_rfl) rfl rfl ?_
        refine  (S.storeS (cs' := [_, _, _]) Try.ag25 rfl rfl rfl rfl rfl rfl ?_)
        refine S.dr_k rfl Sub.ent ?_
        refine S.dr_1 (i := 7) (by kernel_rfl) rfl rfl ?_
        refine  (S.storeS (cs' := [_, _, _]) Try.ag25 rfl rfl rfl rfl rfl rfl ?_)
        refine S.dr_k rfl Sub.ent ?_
        refine S.dr_1 (i := 8) (by kernel_rfl) rfl rfl ?_
        refine  (S.storeS (cs' := [_, _, _]) Try.ag25 rfl rfl rfl rfl rfl rfl ?_)
        refine S.dr_k rfl Sub.ent ?_
        first | with_reducible refine S.dr_doneK (by kernel_rfl) ?_ | refine S.dr_done (by kernel_rfl) ?_
        with_reducible repeat (first | refine S.then_n ?_ | refine S.then_x ?_ | refine S.then_r ?_ | refine S.inBlock_n ?_ | refine S.inBlock_r ?_ | refine S.inBlock_x rfl ?_ | refine S.noGoto_r ?_ | refine S.noGoto_n ?_ | refine S.noGoto_x ?_)
        exact S.meet ⟨b7, b8, b9, rfl, rfl⟩ ⟨rfl, rfl, rfl, rfl, rfl, trivial⟩ Sub.ent
      · refine  (S.alloc Try.z25 rfl ?_)
        intro b9
        refine S.dr_k rfl Sub.ent ?_
        refine S.dr_1 (i := 4) (by kernel_rfl) rfl rfl ?_
        refine  (S.alloc Try.z25 rfl ?_)
        intro b8
        refine S.dr_k rfl Sub.ent ?_
        refine S.dr_1 (i := 6) (by kernel_rfl) rfl rfl ?_
        refine  (S.storeS (cs' := [_, _, _]) Try.ag25 rfl rfl rfl rfl rfl rfl ?_)
        refine S.dr_k rfl Sub.ent ?_
        refine S.dr_1 (i := 7) (by kernel_rfl) rfl rfl ?_
        refine  (S.storeS (cs' := [_, _, _]) Try.ag25 rfl rfl rfl rfl rfl rfl ?_)
        refine S.dr_k rfl Sub.ent ?_
        refine S.dr_1 (i := 8) (by kernel_rfl) rfl rfl ?_
        refine  (S.storeS (cs' := [_, _, _]) Try.ag25 rfl rfl rfl rfl rfl rfl ?_)
        refine S.dr_k rfl Sub.ent ?_
        first | with_reducible refine S.dr_doneK (by kernel_rfl) ?_ | refine S.dr_done (by kernel_rfl) ?_
        with_reducible repeat (first | refine S.then_n ?_ | refine S.then_x ?_ | refine S.then_r ?_ | refine S.inBlock_n ?_ | refine S.inBlock_r ?_ | refine S.inBlock_x rfl ?_ | refine S.noGoto_r ?_ | refine S.noGoto_n ?_ | refine S.noGoto_x ?_)
        exact S.meet ⟨b7, b8, b9, rfl, rfl⟩ ⟨rfl, rfl, rfl, rfl, rfl, trivial⟩ Sub.ent
    · refine  (S.alloc Try.z25 rfl ?_)
      intro b8
      refine S.dr_k rfl Sub.ent ?_
      refine S.dr_2 (i := 3) (j := 5) (by kernel_rfl) rfl rfl rfl rfl ?_ ?_
      · refine  (S.alloc Try.z25 rfl ?_)
        intro b7
        refine S.dr_k rfl Sub.ent ?_
        refine S.dr_1 (i := 5) (by kernel_rfl) rfl rfl ?_
        refine  (S.alloc Try.z25 rfl ?_)
        intro b9
        refine S.dr_k rfl Sub.ent ?_
        refine S.dr_1 (i := 6) (by kernel_rfl) rfl rfl ?_
        refine  (S.storeS (cs' := [_, _, _]) Try.ag25 rfl rfl rfl rfl rfl rfl ?_)
        refine S.dr_k rfl Sub.ent ?_
        refine S.dr_1 (i := 7) (by kernel_rfl) rfl rfl ?_
        refine  (S.storeS (cs' := [_, _, _]) Try.ag25 rfl rfl rfl rfl rfl rfl ?_)
        refine S.dr_k rfl Sub.ent ?_
        refine S.dr_1 (i := 8) (by kernel_rfl) rfl rfl ?_
        refine  (S.storeS (cs' := [_, _, _]) Try.ag25 rfl rfl rfl rfl rfl rfl ?_)
        refine S.dr_k rfl Sub.ent ?_
        first | with_reducible refine S.dr_doneK (by kernel_rfl) ?_ | refine S.dr_done (by kernel_rfl) ?_
        with_reducible repeat (first | refine S.then_n ?_ | refine S.then_x ?_ | refine S.then_r ?_ | refine S.inBlock_n ?_ | refine S.inBlock_r ?_ | refine S.inBlock_x rfl ?_ | refine S.noGoto_r ?_ | refine S.noGoto_n ?_ | refine S.noGoto_x ?_)
        exact S.meet ⟨b7, b8, b9, rfl, rfl⟩ ⟨rfl, rfl, rfl, rfl, rfl, trivial⟩ Sub.ent
      · refine  (S.alloc Try.z25 rfl ?_)
        intro b9
        refine S.dr_k rfl Sub.ent ?_
        refine S.dr_1 (i := 3) (by kernel_rfl) rfl rfl ?_
        refine  (S.alloc Try.z25 rfl ?_)
        intro b7
        refine S.dr_k rfl Sub.ent ?_
        refine S.dr_1 (i := 6) (by kernel_rfl) rfl rfl ?_
        refine  (S.storeS (cs' := [_, _, _]) Try.ag25 rfl rfl rfl rfl rfl rfl ?_)
        refine S.dr_k rfl Sub.ent ?_
        refine S.dr_1 (i := 7) (by kernel_rfl) rfl rfl ?_
        refine  (S.storeS (cs' := [_, _, _]) Try.ag25 rfl rfl rfl rfl rfl rfl ?_)
        refine S.dr_k rfl Sub.ent ?_
        refine S.dr_1 (i := 8) (by kernel_rfl) rfl rfl ?_
        refine  (S.storeS (cs' := [_, _, _]) Try.ag25 rfl rfl rfl rfl rfl rfl ?_)
        refine S.dr_k rfl Sub.ent ?_
        first | with_reducible refine S.dr_doneK (by kernel_rfl) ?_ | refine S.dr_done (by kernel_rfl) ?_
        with_reducible repeat (first | refine S.then_n ?_ | refine S.then_x ?_ | refine S.then_r ?_ | refine S.inBlock_n ?_ | refine S.inBlock_r ?_ | refine S.inBlock_x rfl ?_ | refine S.noGoto_r ?_ | refine S.noGoto_n ?_ | refine S.noGoto_x ?_)
        exact S.meet ⟨b7, b8, b9, rfl, rfl⟩ ⟨rfl, rfl, rfl, rfl, rfl, trivial⟩ Sub.ent
    · refine  (S.alloc Try.z25 rfl ?_)
      intro b9
      refine S.dr_k rfl Sub.ent ?_
      refine S.dr_2 (i := 3) (j := 4) (by kernel_rfl) rfl rfl rfl rfl ?_ ?_
      · refine  (S.alloc Try.z25 rfl ?_)
        intro b7
        refine S.dr_k rfl Sub.ent ?_
        refine S.dr_1 (i := 4) (by kernel_rfl) rfl rfl ?_
        refine  (S.alloc Try.z25 rfl ?_)
        intro b8
        refine S.dr_k rfl Sub.ent ?_
        refine S.dr_1 (i := 6) (by kernel_rfl) rfl rfl ?_
        refine  (S.storeS (cs' := [_, _, _]) Try.ag25 rfl rfl rfl rfl rfl rfl ?_)
        refine S.dr_k rfl Sub.ent ?_
        refine S.dr_1 (i := 7) (by kernel_rfl) rfl rfl ?_
        refine  (S.storeS (cs' := [_, _, _]) Try.ag25 rfl rfl rfl rfl rfl rfl ?_)
        refine S.dr_k rfl Sub.ent ?_
        refine S.dr_1 (i := 8) (by kernel_rfl) rfl rfl ?_
        refine  (S.storeS (cs' := [_, _, _]) Try.ag25 rfl rfl rfl rfl rfl rfl ?_)
        refine S.dr_k rfl Sub.ent ?_
        first | with_reducible refine S.dr_doneK (by kernel_rfl) ?_ | refine S.dr_done (by kernel_rfl) ?_
        with_reducible repeat (first | refine S.then_n ?_ | refine S.then_x ?_ | refine S.then_r ?_ | refine S.inBlock_n ?_ | refine S.inBlock_r ?_ | refine S.inBlock_x rfl ?_ | refine S.noGoto_r ?_ | refine S.noGoto_n ?_ | refine S.noGoto_x ?_)
        exact S.meet ⟨b7, b8, b9, rfl, rfl⟩ ⟨rfl, rfl, rfl, rfl, rfl, trivial⟩ Sub.ent
      · refine  (S.alloc Try.z25 rfl ?_)
        intro b8
        refine S.dr_k rfl Sub.ent ?_
        refine S.dr_1 (i := 3) (by kernel_rfl) rfl rfl ?_
        refine  (S.alloc Try.z25 rfl ?_)
        intro b7
        refine S.dr_k rfl Sub.ent ?_
        refine S.dr_1 (i := 6) (by kernel_rfl) rfl rfl ?_
        refine  (S.storeS (cs' := [_, _, _]) Try.ag25 rfl rfl rfl rfl rfl rfl ?_)
        refine S.dr_k rfl Sub.ent ?_
        refine S.dr_1 (i := 7) (by kernel_rfl) rfl rfl ?_
        refine  (S.storeS (cs' := [_, _, _]) Try.ag25 rfl rfl rfl rfl rfl rfl ?_)
        refine S.dr_k rfl Sub.ent ?_
        refine S.dr_1 (i := 8) (by kernel_rfl) rfl rfl ?_
        refine  (S.storeS (cs' := [_, _, _]) Try.ag25 rfl rfl rfl rfl rfl rfl ?_)
        refine S.dr_k rfl Sub.ent ?_
        first | with_reducible refine S.dr_doneK (by kernel_rfl) ?_ | refine S.dr_done (by kernel_rfl) ?_
        with_reducible repeat (first | refine S.then_n ?_ | refine S.then_x ?_ | refine S.then_r ?_ | refine S.inBlock_n ?_ | refine S.inBlock_r ?_ | refine S.inBlock_x rfl ?_ | refine S.noGoto_r ?_ | refine S.noGoto_n ?_ | refine S.noGoto_x ?_)
        exact S.meet ⟨b7, b8, b9, rfl, rfl⟩ ⟨rfl, rfl, rfl, rfl, rfl, trivial⟩ Sub.ent
  · rintro ρ' Γ' ⟨c7, c8, c9, rfl, rfl⟩
    refine hK2 _ _ ?_
    refine S.seq fun K3 hK3 => ?_
    refine S.seq fun K4 hK4 => ?_
    refine S.draw ([blk b3 24 (itC a).toArray, blk b4 24 (itC b).toArray, blk c7 25 (itC a).toArray, blk c8 25 (itC b).toArray]) [] Try.mixed ?_
    refine S.dr_1 (i := 0) (by kernel_rfl) rfl rfl ?_
    refine  (S.call Try.en8 (vs := []) trivial (awake_S) rfl ?_)
    rintro v Θ ⟨rfl, rfl⟩
    refine S.dr_k rfl Sub.ent ?_
    refine S.dr_take 1 [] rfl (by kernel_rfl) rfl rfl rfl (q_not rfl) Sub.ent ?_
    refine S.dr_take 2 [] rfl (by kernel_rfl) rfl rfl rfl (q_move rfl) Sub.ent ?_
    refine S.dr_takeY 3 [] rfl (by kernel_rfl) rfl rfl rfl (rfl) rfl rfl (q_loadS [_, _, _] Try.ag25 rfl rfl ⟨rfl, rfl, rfl, trivial⟩) Sub.ent ?_
    refine S.dr_takeY 4 [] rfl (by kernel_rfl) rfl rfl rfl (rfl) rfl rfl (q_loadS [_, _, _] Try.ag25 rfl rfl ⟨rfl, rfl, rfl, trivial⟩) Sub.ent ?_
    refine S.dr_takeY 6 [] rfl (by kernel_rfl) rfl rfl rfl (rfl) rfl rfl (q_loadS [_, _, _] Try.ag24 rfl rfl ⟨rfl, rfl, rfl, trivial⟩) Sub.ent ?_
    refine S.dr_takeY 7 [] rfl (by kernel_rfl) rfl rfl rfl (rfl) rfl rfl (q_loadS [_, _, _] Try.ag24 rfl rfl ⟨rfl, rfl, rfl, trivial⟩) Sub.ent ?_
    refine S.dr_1Y (i := 5) (by kernel_rfl) rfl rfl rfl rfl (rfl) ?_
    refine  (S.callP Try.en9 (vs := [_, _]) ⟨rfl, rfl, trivial⟩ (fun w hs => First_P a b w) rfl ?_)
    refine S.dr_k rfl Sub.ent ?_
    refine S.dr_1Y (i := 8) (by kernel_rfl) rfl rfl rfl rfl (rfl) ?_
    refine  (S.callP Try.en10 (vs := [_, _]) ⟨rfl, rfl, trivial⟩ (fun w hs => rFirst_P a b w) rfl ?_)
    refine S.dr_k rfl Sub.ent ?_
    refine S.dr_takeY 9 [] rfl (by kernel_rfl) rfl rfl rfl (rfl) rfl rfl (q_neB Try.underlying4 rfl rfl) Sub.ent ?_
    refine S.dr_take 10 [] rfl (by kernel_rfl) rfl rfl rfl (q_pickF rfl (rfl) rfl) Sub.ent ?_
    refine S.dr_take 11 [] rfl (by kernel_rfl) rfl rfl rfl (q_move rfl) Sub.ent ?_
    refine S.dr_takeY 12 [] rfl (by kernel_rfl) rfl rfl rfl ((by simp)) rfl rfl (q_loadS [_, _, _] Try.ag25 rfl rfl ⟨rfl, rfl, rfl, trivial⟩) Sub.ent ?_
    refine S.dr_takeY 13 [] rfl (by kernel_rfl) rfl rfl rfl ((by simp)) rfl rfl (q_loadS [_, _, _] Try.ag25 rfl rfl ⟨rfl, rfl, rfl, trivial⟩) Sub.ent ?_
    refine S.dr_1Y (i := 14) (by kernel_rfl) rfl rfl rfl rfl ((by simp)) ?_
    refine  (S.callP Try.en9 (vs := [_, _]) ⟨rfl, rfl, trivial⟩ (fun w hs => First_P a a w) rfl ?_)
    rw [bf_irr]
    refine S.dr_k rfl Sub.ent ?_
    refine S.dr_take 15 [] rfl (by kernel_rfl) rfl rfl rfl (q_pickF rfl ((by simp)) rfl) Sub.ent ?_
    first | with_reducible refine S.dr_doneK (by kernel_rfl) ?_ | refine S.dr_done (by kernel_rfl) ?_
    refine hK4 _ _ ?_
    refine S.condF rfl ?_
    refine S.skip ?_
    with_reducible repeat (first | refine S.then_n ?_ | refine S.then_x ?_ | refine S.then_r ?_ | refine S.inBlock_n ?_ | refine S.inBlock_r ?_ | refine S.inBlock_x rfl ?_ | refine S.noGoto_r ?_ | refine S.noGoto_n ?_ | refine S.noGoto_x ?_)
    refine hK3 _ _ ?_
    refine S.seq fun K5 hK5 => ?_
    refine S.seq fun K6 hK6 => ?_
    refine S.draw ([blk b3 24 (itC a).toArray, blk b4 24 (itC b).toArray, blk c7 25 (itC a).toArray, blk c8 25 (itC b).toArray]) [] Try.mixed ?_
    refine S.dr_take 0 [] rfl (by kernel_rfl) rfl rfl rfl (q_loadS [_, _, _] Try.ag24 rfl rfl ⟨rfl, rfl, rfl, trivial⟩) Sub.ent ?_
    refine S.dr_take 1 [] rfl (by kernel_rfl) rfl rfl rfl (q_loadS [_, _, _] Try.ag24 rfl rfl ⟨rfl, rfl, rfl, trivial⟩) Sub.ent ?_
    refine S.dr_take 2 [] rfl (by kernel_rfl) rfl rfl rfl (q_neIt a b (.inr rfl) rfl rfl) Sub.ent ?_
    refine S.dr_take 3 [] rfl (by kernel_rfl) rfl rfl rfl (q_move rfl) Sub.ent ?_
    rcases Bool.eq_false_or_eq_true ((!decide (a = b))) with hg4_3 | hg4_3
    · have hab : a ≠ b := fun e => by rw [decide_eq_true e] at hg4_3; cases hg4_3
      refine S.dr_takeY 4 [] rfl (by kernel_rfl) rfl rfl rfl (hg4_3) rfl rfl (q_loadS [_, _, _] Try.ag25 rfl rfl ⟨rfl, rfl, rfl, trivial⟩) Sub.ent ?_
      refine S.dr_takeY 5 [] rfl (by kernel_rfl) rfl rfl rfl (hg4_3) rfl rfl (q_loadS [_, _, _] Try.ag25 rfl rfl ⟨rfl, rfl, rfl, trivial⟩) Sub.ent ?_
      refine S.dr_takeY 7 [] rfl (by kernel_rfl) rfl rfl rfl (hg4_3) rfl rfl (q_loadS [_, _, _] Try.ag25 rfl rfl ⟨rfl, rfl, rfl, trivial⟩) Sub.ent ?_
      refine S.dr_takeY 8 [] rfl (by kernel_rfl) rfl rfl rfl (hg4_3) rfl rfl (q_loadS [_, _, _] Try.ag25 rfl rfl ⟨rfl, rfl, rfl, trivial⟩) Sub.ent ?_
      refine S.dr_1Y (i := 6) (by kernel_rfl) rfl rfl rfl rfl (hg4_3) ?_
      refine  (S.callP Try.en9 (vs := [_, _]) ⟨rfl, rfl, trivial⟩ (fun w hs => First_P a b w) rfl ?_)
      refine S.dr_k rfl Sub.ent ?_
      refine S.dr_1Y (i := 9) (by kernel_rfl) rfl rfl rfl rfl (hg4_3) ?_
      refine  (S.callP Try.en9 (vs := [_, _]) ⟨rfl, rfl, trivial⟩ (fun w hs => First_P b a w) rfl ?_)
      refine S.dr_k rfl Sub.ent ?_
      refine S.dr_takeY 10 [] rfl (by kernel_rfl) rfl rfl rfl (hg4_3) rfl rfl (q_eqB Try.underlying4 rfl rfl) Sub.ent ?_
      first | rw [bf_tot' hab] | skip
      refine S.dr_take 11 [] rfl (by kernel_rfl) rfl rfl rfl (q_pickT rfl (hg4_3) rfl) Sub.ent ?_
      first | with_reducible refine S.dr_doneK (by kernel_rfl) ?_ | refine S.dr_done (by kernel_rfl) ?_
      refine hK6 _ _ ?_
      refine S.condF rfl ?_
      refine S.skip ?_
      with_reducible repeat (first | refine S.then_n ?_ | refine S.then_x ?_ | refine S.then_r ?_ | refine S.inBlock_n ?_ | refine S.inBlock_r ?_ | refine S.inBlock_x rfl ?_ | refine S.noGoto_r ?_ | refine S.noGoto_n ?_ | refine S.noGoto_x ?_)
      refine hK5 _ _ ?_
      refine S.seq fun K7 hK7 => ?_
      refine S.regionG ?_
      refine S.g_op rfl (S.q (q_loadS [_, _, _] Try.ag25 rfl rfl ⟨rfl, rfl, rfl, trivial⟩) rfl rfl ?_)
      refine S.g_op rfl (S.q (q_loadS [_, _, _] Try.ag25 rfl rfl ⟨rfl, rfl, rfl, trivial⟩) rfl rfl ?_)
      refine S.g_op rfl (S.callP Try.en9 (vs := [_, _]) ⟨rfl, rfl, trivial⟩ (fun w hs => First_P a b w) rfl ?_)
      refine S.g_op rfl (S.q (q_not rfl) rfl rfl ?_)
      refine S.g_op rfl (S.q (q_move rfl) rfl rfl ?_)
      rcases Bool.eq_false_or_eq_true ((!bf a b)) with hg6_4 | hg6_4
      · refine S.g_no rfl rfl rfl (hg6_4) rfl rfl ?_
        refine S.g_no rfl rfl rfl (hg6_4) rfl rfl ?_
        refine S.g_no rfl rfl rfl (hg6_4) rfl rfl ?_
        refine S.g_no rfl rfl rfl (hg6_4) rfl rfl ?_
        refine S.g_op rfl (S.q (q_pickT rfl (hg6_4) rfl) rfl rfl ?_)
        refine S.g_op rfl (S.q (q_move rfl) rfl rfl ?_)
        refine S.g_no rfl rfl rfl (rfl) rfl rfl ?_
        refine S.g_no rfl rfl rfl (rfl) rfl rfl ?_
        refine S.g_no rfl rfl rfl (rfl) rfl rfl ?_
        refine S.g_op rfl (S.q (q_pickT rfl (rfl) rfl) rfl rfl ?_)
        refine S.g_op rfl (S.q (q_assign rfl) rfl rfl ?_)
        first | with_reducible refine S.g_nilK ?_ | refine S.g_nil ?_
        refine hK7 _ _ ?_
        refine S.ret ?_
        with_reducible repeat (first | refine S.then_n ?_ | refine S.then_x ?_ | refine S.then_r ?_ | refine S.inBlock_n ?_ | refine S.inBlock_r ?_ | refine S.inBlock_x rfl ?_ | refine S.noGoto_r ?_ | refine S.noGoto_n ?_ | refine S.noGoto_x ?_)
        exact S.fin (rs := [_]) (vs := [_]) Try.results3 (⟨rfl, trivial⟩)  (⟨by first | rfl | (simp only [resV]; rw [bf_tr (a := a) (b := b) (c := c) (by simpa using hg6_4) (by simpa using hg6_10)]), rfl⟩) Sub.ent
      · refine S.g_yes rfl rfl rfl (hg6_4) (S.q (q_loadS [_, _, _] Try.ag25 rfl rfl ⟨rfl, rfl, rfl, trivial⟩) rfl rfl ?_)
        refine S.g_yes rfl rfl rfl (hg6_4) (S.q (q_loadS [_, _, _] Try.ag25 rfl rfl ⟨rfl, rfl, rfl, trivial⟩) rfl rfl ?_)
        refine S.g_yes rfl rfl rfl (hg6_4) (S.callP Try.en9 (vs := [_, _]) ⟨rfl, rfl, trivial⟩ (fun w hs => First_P b c w) rfl ?_)
        refine S.g_yes rfl rfl rfl (hg6_4) (S.q (q_not rfl) rfl rfl ?_)
        refine S.g_op rfl (S.q (q_pickF rfl (hg6_4) rfl) rfl rfl ?_)
        refine S.g_op rfl (S.q (q_move rfl) rfl rfl ?_)
        rcases Bool.eq_false_or_eq_true ((!bf b c)) with hg6_10 | hg6_10
        · refine S.g_no rfl rfl rfl (hg6_10) rfl rfl ?_
          refine S.g_no rfl rfl rfl (hg6_10) rfl rfl ?_
          refine S.g_no rfl rfl rfl (hg6_10) rfl rfl ?_
          refine S.g_op rfl (S.q (q_pickT rfl (hg6_10) rfl) rfl rfl ?_)
          refine S.g_op rfl (S.q (q_assign rfl) rfl rfl ?_)
          first | with_reducible refine S.g_nilK ?_ | refine S.g_nil ?_
          refine hK7 _ _ ?_
          refine S.ret ?_
          with_reducible repeat (first | refine S.then_n ?_ | refine S.then_x ?_ | refine S.then_r ?_ | refine S.inBlock_n ?_ | refine S.inBlock_r ?_ | refine S.inBlock_x rfl ?_ | refine S.noGoto_r ?_ | refine S.noGoto_n ?_ | refine S.noGoto_x ?_)
          exact S.fin (rs := [_]) (vs := [_]) Try.results3 (⟨rfl, trivial⟩)  (⟨by first | rfl | (simp only [resV]; rw [bf_tr (a := a) (b := b) (c := c) (by simpa using hg6_4) (by simpa using hg6_10)]), rfl⟩) Sub.ent
        · refine S.g_yes rfl rfl rfl (hg6_10) (S.q (q_loadS [_, _, _] Try.ag25 rfl rfl ⟨rfl, rfl, rfl, trivial⟩) rfl rfl ?_)
          refine S.g_yes rfl rfl rfl (hg6_10) (S.q (q_loadS [_, _, _] Try.ag25 rfl rfl ⟨rfl, rfl, rfl, trivial⟩) rfl rfl ?_)
          refine S.g_yes rfl rfl rfl (hg6_10) (S.callP Try.en9 (vs := [_, _]) ⟨rfl, rfl, trivial⟩ (fun w hs => First_P a c w) rfl ?_)
          refine S.g_op rfl (S.q (q_pickF rfl (hg6_10) rfl) rfl rfl ?_)
          refine S.g_op rfl (S.q (q_assign rfl) rfl rfl ?_)
          first | with_reducible refine S.g_nilK ?_ | refine S.g_nil ?_
          refine hK7 _ _ ?_
          refine S.ret ?_
          with_reducible repeat (first | refine S.then_n ?_ | refine S.then_x ?_ | refine S.then_r ?_ | refine S.inBlock_n ?_ | refine S.inBlock_r ?_ | refine S.inBlock_x rfl ?_ | refine S.noGoto_r ?_ | refine S.noGoto_n ?_ | refine S.noGoto_x ?_)
          exact S.fin (rs := [_]) (vs := [_]) Try.results3 (⟨rfl, trivial⟩)  (⟨by first | rfl | (simp only [resV]; rw [bf_tr (a := a) (b := b) (c := c) (by simpa using hg6_4) (by simpa using hg6_10)]), rfl⟩) Sub.ent
    · refine S.dr_takeN 4 [] rfl (by kernel_rfl) rfl rfl rfl (hg4_3) rfl rfl Sub.ent ?_
      refine S.dr_takeN 5 [] rfl (by kernel_rfl) rfl rfl rfl (hg4_3) rfl rfl Sub.ent ?_
      refine S.dr_takeN 6 [] rfl (by kernel_rfl) rfl rfl rfl (hg4_3) rfl rfl Sub.ent ?_
      refine S.dr_takeN 7 [] rfl (by kernel_rfl) rfl rfl rfl (hg4_3) rfl rfl Sub.ent ?_
      refine S.dr_takeN 8 [] rfl (by kernel_rfl) rfl rfl rfl (hg4_3) rfl rfl Sub.ent ?_
      refine S.dr_takeN 9 [] rfl (by kernel_rfl) rfl rfl rfl (hg4_3) rfl rfl Sub.ent ?_
      refine S.dr_takeN 10 [] rfl (by kernel_rfl) rfl rfl rfl (hg4_3) rfl rfl Sub.ent ?_
      first | rw [bf_tot' hab] | skip
      refine S.dr_take 11 [] rfl (by kernel_rfl) rfl rfl rfl (q_pickF rfl (hg4_3) rfl) Sub.ent ?_
      first | with_reducible refine S.dr_doneK (by kernel_rfl) ?_ | refine S.dr_done (by kernel_rfl) ?_
      refine hK6 _ _ ?_
      refine S.condF rfl ?_
      refine S.skip ?_
      with_reducible repeat (first | refine S.then_n ?_ | refine S.then_x ?_ | refine S.then_r ?_ | refine S.inBlock_n ?_ | refine S.inBlock_r ?_ | refine S.inBlock_x rfl ?_ | refine S.noGoto_r ?_ | refine S.noGoto_n ?_ | refine S.noGoto_x ?_)
      refine hK5 _ _ ?_
      refine S.seq fun K8 hK8 => ?_
      refine S.regionG ?_
      refine S.g_op rfl (S.q (q_loadS [_, _, _] Try.ag25 rfl rfl ⟨rfl, rfl, rfl, trivial⟩) rfl rfl ?_)
      refine S.g_op rfl (S.q (q_loadS [_, _, _] Try.ag25 rfl rfl ⟨rfl, rfl, rfl, trivial⟩) rfl rfl ?_)
      refine S.g_op rfl (S.callP Try.en9 (vs := [_, _]) ⟨rfl, rfl, trivial⟩ (fun w hs => First_P a b w) rfl ?_)
      refine S.g_op rfl (S.q (q_not rfl) rfl rfl ?_)
      refine S.g_op rfl (S.q (q_move rfl) rfl rfl ?_)
      rcases Bool.eq_false_or_eq_true ((!bf a b)) with hg6_4 | hg6_4
      · refine S.g_no rfl rfl rfl (hg6_4) rfl rfl ?_
        refine S.g_no rfl rfl rfl (hg6_4) rfl rfl ?_
        refine S.g_no rfl rfl rfl (hg6_4) rfl rfl ?_
        refine S.g_no rfl rfl rfl (hg6_4) rfl rfl ?_
        refine S.g_op rfl (S.q (q_pickT rfl (hg6_4) rfl) rfl rfl ?_)
        refine S.g_op rfl (S.q (q_move rfl) rfl rfl ?_)
        refine S.g_no rfl rfl rfl (rfl) rfl rfl ?_
        refine S.g_no rfl rfl rfl (rfl) rfl rfl ?_
        refine S.g_no rfl rfl rfl (rfl) rfl rfl ?_
        refine S.g_op rfl (S.q (q_pickT rfl (rfl) rfl) rfl rfl ?_)
        refine S.g_op rfl (S.q (q_assign rfl) rfl rfl ?_)
        first | with_reducible refine S.g_nilK ?_ | refine S.g_nil ?_
        refine hK8 _ _ ?_
        refine S.ret ?_
        with_reducible repeat (first | refine S.then_n ?_ | refine S.then_x ?_ | refine S.then_r ?_ | refine S.inBlock_n ?_ | refine S.inBlock_r ?_ | refine S.inBlock_x rfl ?_ | refine S.noGoto_r ?_ | refine S.noGoto_n ?_ | refine S.noGoto_x ?_)
        exact S.fin (rs := [_]) (vs := [_]) Try.results3 (⟨rfl, trivial⟩)  (⟨by first | rfl | (simp only [resV]; rw [bf_tr (a := a) (b := b) (c := c) (by simpa using hg6_4) (by simpa using hg6_10)]), rfl⟩) Sub.ent
      · refine S.g_yes rfl rfl rfl (hg6_4) (S.q (q_loadS [_, _, _] Try.ag25 rfl rfl ⟨rfl, rfl, rfl, trivial⟩) rfl rfl ?_)
        refine S.g_yes rfl rfl rfl (hg6_4) (S.q (q_loadS [_, _, _] Try.ag25 rfl rfl ⟨rfl, rfl, rfl, trivial⟩) rfl rfl ?_)
        refine S.g_yes rfl rfl rfl (hg6_4) (S.callP Try.en9 (vs := [_, _]) ⟨rfl, rfl, trivial⟩ (fun w hs => First_P b c w) rfl ?_)
        refine S.g_yes rfl rfl rfl (hg6_4) (S.q (q_not rfl) rfl rfl ?_)
        refine S.g_op rfl (S.q (q_pickF rfl (hg6_4) rfl) rfl rfl ?_)
        refine S.g_op rfl (S.q (q_move rfl) rfl rfl ?_)
        rcases Bool.eq_false_or_eq_true ((!bf b c)) with hg6_10 | hg6_10
        · refine S.g_no rfl rfl rfl (hg6_10) rfl rfl ?_
          refine S.g_no rfl rfl rfl (hg6_10) rfl rfl ?_
          refine S.g_no rfl rfl rfl (hg6_10) rfl rfl ?_
          refine S.g_op rfl (S.q (q_pickT rfl (hg6_10) rfl) rfl rfl ?_)
          refine S.g_op rfl (S.q (q_assign rfl) rfl rfl ?_)
          first | with_reducible refine S.g_nilK ?_ | refine S.g_nil ?_
          refine hK8 _ _ ?_
          refine S.ret ?_
          with_reducible repeat (first | refine S.then_n ?_ | refine S.then_x ?_ | refine S.then_r ?_ | refine S.inBlock_n ?_ | refine S.inBlock_r ?_ | refine S.inBlock_x rfl ?_ | refine S.noGoto_r ?_ | refine S.noGoto_n ?_ | refine S.noGoto_x ?_)
          exact S.fin (rs := [_]) (vs := [_]) Try.results3 (⟨rfl, trivial⟩)  (⟨by first | rfl | (simp only [resV]; rw [bf_tr (a := a) (b := b) (c := c) (by simpa using hg6_4) (by simpa using hg6_10)]), rfl⟩) Sub.ent
        · refine S.g_yes rfl rfl rfl (hg6_10) (S.q (q_loadS [_, _, _] Try.ag25 rfl rfl ⟨rfl, rfl, rfl, trivial⟩) rfl rfl ?_)
          refine S.g_yes rfl rfl rfl (hg6_10) (S.q (q_loadS [_, _, _] Try.ag25 rfl rfl ⟨rfl, rfl, rfl, trivial⟩) rfl rfl ?_)
          refine S.g_yes rfl rfl rfl (hg6_10) (S.callP Try.en9 (vs := [_, _]) ⟨rfl, rfl, trivial⟩ (fun w hs => First_P a c w) rfl ?_)
          refine S.g_op rfl (S.q (q_pickF rfl (hg6_10) rfl) rfl rfl ?_)
          refine S.g_op rfl (S.q (q_assign rfl) rfl rfl ?_)
          first | with_reducible refine S.g_nilK ?_ | refine S.g_nil ?_
          refine hK8 _ _ ?_
          refine S.ret ?_
          with_reducible repeat (first | refine S.then_n ?_ | refine S.then_x ?_ | refine S.then_r ?_ | refine S.inBlock_n ?_ | refine S.inBlock_r ?_ | refine S.inBlock_x rfl ?_ | refine S.noGoto_r ?_ | refine S.noGoto_n ?_ | refine S.noGoto_x ?_)
          exact S.fin (rs := [_]) (vs := [_]) Try.results3 (⟨rfl, trivial⟩)  (⟨by first | rfl | (simp only [resV]; rw [bf_tr (a := a) (b := b) (c := c) (by simpa using hg6_4) (by simpa using hg6_10)]), rfl⟩) Sub.ent
open Go.ChangeShapes Go.WideShapes Go.ChangeAt
theorem PrioOrder_law {H : Type} (enc : TypeId × Value → H) : LawWalk enc 3 Try.f3 := by
  intro W base args ds before hval hA _ _
  rw [Try.params3] at hA hval
  obtain ⟨v0, vs0, d0, ds0, p0, q0, hargs, rfl, rfl, h0, r0⟩ := trodAll_cons hA
  obtain ⟨v1, vs1, d1, ds1, p1, q1, rfl, rfl, rfl, h1, r1⟩ := trodAll_cons r0
  obtain ⟨v2, vs2, d2, ds2, p2, q2, rfl, rfl, rfl, h2, r2⟩ := trodAll_cons r1
  obtain ⟨rfl, rfl, rfl⟩ := trodAll_nil r2
  obtain rfl : args = #[v0, v1, v2] := by cases args; simp_all
  obtain ⟨cs0, rfl, hcs0⟩ := arg_struct 4 Try.underlying24 (by kernel_rfl) (hval 0 24 v0 rfl rfl) h0
  obtain ⟨a, rfl⟩ := rd_item hcs0
  obtain ⟨cs1, rfl, hcs1⟩ := arg_struct 4 Try.underlying24 (by kernel_rfl) (hval 1 24 v1 rfl rfl) h1
  obtain ⟨b, rfl⟩ := rd_item hcs1
  obtain ⟨cs2, rfl, hcs2⟩ := arg_struct 4 Try.underlying24 (by kernel_rfl) (hval 2 24 v2 rfl rfl) h2
  obtain ⟨c, rfl⟩ := rd_item hcs2
  exact law_run (PrioOrder_S a b c W)
set_option maxRecDepth 100000 in
theorem PrioOrder_lifted (os : Os) (started : os.Started) (H : Type) (enc : TypeId × Value → H) :
    ReturnsInHanded {} Try.checked os 3 .any (Rows.prioOrderSpec.pre6 enc Try.prog Try.f3 Rows.prioOrderRow.domain false) (Rows.prioOrderSpec.post enc Try.prog Try.f3 false true false false) :=
  lift_true started Try.func3 (by kernel_rfl)
    (ChangeSpec.witness6 (enc := enc) (C := Try.checked) false ⟨#[], #[.agg #[.int .u32 0, .int .u8 0, .int .u32 0], .agg #[.int .u32 0, .int .u8 0, .int .u32 0], .agg #[.int .u32 0, .int .u8 0, .int .u32 0]], []⟩ 8 (by kernel_rfl) (by kernel_rfl) (by kernel_rfl) (by kernel_rfl))
    rfl rfl (by kernel_rfl) (fun ds h => by match ds, h with | [a0, a1, a2], _ => rfl) (PrioOrder_law enc)
theorem PrioOrder_over : Rows.prioOrderRow.holds Try.pinned (OpenSpec.ofChange Rows.prioOrderSpec) :=
  OpenClaim.holds_of_wide 3 Try.f3 rfl rfl rfl rfl rfl rfl rfl ⟨rfl, rfl, rfl, rfl, rfl⟩ rfl rfl rfl rfl rfl (by kernel_rfl) Try.func3 (by kernel_rfl)
    (of_decide_eq_true (by kernel_rfl)) (by unfold Func.isWrapper; rw [if_neg (of_decide_eq_false (by kernel_rfl))]; exact ⟨rfl, rfl⟩)
    (fun os started H enc _ => PrioOrder_lifted os started H enc)
theorem PrioOrder_holds : Rows.PrioOrderSaid := PrioOrder_over
#print axioms PrioOrder_holds
end Go.Proofs.Ythpfljiabhjodaa
