/- RowsPlays: every script of jobs that are placed, put and removed, of nodes that go down and come up, has the document's answers, cell by cell; a nil matrix', too; a copy goes its own way. -/
import Derived.Test.YtegjmmocnffpiaaDoorMJ6
/- Is a matrix as the document's is: alike. -/
namespace Go.Proofs.YtegjmmocnffpiaaDoor
open Go.RowKit
set_option maxRecDepth 20000
theorem Ent.blkOwnL (b : Nat) (e sz m : Nat) (cs : List Value) (hl : cs.length = m * sz) (hm : m ≤ maxLen) (Γ : List Assn) : Ent (blk b e cs.toArray :: Γ) (own ⟨some ⟨b, 0, none⟩, m, m⟩ e sz cs :: Γ) := Ent.mono1 Γ fun h p => by
  refine ⟨hl, .inr ⟨b, 0, cs.toArray, rfl, p, Nat.le_refl _, hm, by simp [hl], ?_⟩⟩
  simp only [List.drop_zero]
  exact List.take_of_length_le (by omega)
theorem nds_one (l : List Nat) : allOne (nds l) = true := List.all_eq_true.2 fun v hv => by
  obtain ⟨x, _, rfl⟩ := List.mem_map.1 hv
  rfl
theorem nds_snoc (i : Nat) : nds (List.range i) ++ [.int .i64 (i : Int)] = nds (List.range (i + 1)) := by
  rw [List.range_succ]
  show _ = (List.range i ++ [i]).map _
  rw [List.map_append]
  rfl
theorem seq_S (n : Nat) (hn : n ≤ 16) : Spec Tryd.prog 69 [.int .i64 (n : Int)] [] fun Γ v Θ => ∃ sv : SV, v = sv.v ∧ sv.n = n ∧ Θ = own sv 3 1 (nds (List.range n)) :: Γ := by
  refine Spec.of_body Tryd.func69 rfl Tryd.ntmps69 rfl ?_
  intro w0 Γ
  show S _ w0 [(0, .int .i64 (n : Int))] Γ _
  refine S.seq fun K1 hK1 => ?_
  refine S.region rfl ?_
  refine S.op (S.q (q_assign rfl) rfl rfl ?_)
  first | with_reducible refine S.nilK ?_ | refine S.nil ?_
  refine hK1 _ _ ?_
  refine S.seq fun K2 hK2 => ?_
  refine S.region rfl ?_
  refine S.op (S.q (q_assign rfl) rfl rfl ?_)
  first | with_reducible refine S.nilK ?_ | refine S.nil ?_
  refine hK2 _ _ ?_
  refine S.seq fun K3 hK3 => ?_
  refine S.seq fun K4 hK4 => ?_
  refine S.region rfl ?_
  refine S.ent (Ent.ownNil 3 1) ?_
  show S _ w0 _ (own SV.nil 3 1 (nds (List.range 0)) :: Γ) _
  refine S.op (S.q (q_move rfl) rfl rfl ?_)
  refine S.op (S.q (q_move rfl) rfl rfl ?_)
  first | with_reducible refine S.nilK ?_ | refine S.nil ?_
  refine hK4 _ _ ?_
  refine S.block ?_
  refine S.loop (fun q ρ' Γ' => ∃ (i : Nat) (sv : SV), q = n - i ∧ i ≤ n ∧ sv.n = i ∧ ρ' = [(3, sv.v), (5, .int .i64 (n : Int)), (6, .int .i64 (i : Int))] ∧ Γ' = own sv 3 1 (nds (List.range i)) :: Γ) (m := _) (ρ0 := _) (Γ0 := _) (⟨0, SV.nil, rfl, by omega, rfl, rfl, rfl⟩) (by repeat (first | exact trivial | refine ⟨rfl, ?_⟩)) Sub.ent ?_
  rintro q ρ' Γ' ⟨i, sv, hq, hi, hsv, rfl, rfl⟩
  refine S.seq fun K5 hK5 => ?_
  refine S.region rfl ?_
  refine S.op (S.q (q_lt rfl rfl) rfl rfl ?_)
  first | with_reducible refine S.nilK ?_ | refine S.nil ?_
  refine hK5 _ _ ?_
  refine S.seq fun K6 hK6 => ?_
  refine S.condD rfl (fun h1 => ?_) (fun h1 => ?_)
  · refine S.skip ?_
    with_reducible repeat (first | refine S.then_n ?_ | refine S.then_x ?_ | refine S.then_r ?_ | refine S.inBlock_n ?_ | refine S.inBlock_r ?_ | refine S.inBlock_x rfl ?_ | refine S.noGoto_r ?_ | refine S.noGoto_n ?_ | refine S.noGoto_x ?_)
    refine hK6 _ _ ?_
    refine S.seq fun K7 hK7 => ?_
    refine S.block ?_
    refine S.seq fun K8 hK8 => ?_
    refine S.region rfl ?_
    refine S.op (S.q (q_move rfl) rfl rfl ?_)
    refine S.op (S.q (q_assign rfl) rfl rfl ?_)
    first | with_reducible refine S.nilK ?_ | refine S.nil ?_
    refine hK8 _ _ ?_
    refine S.region rfl ?_
    refine S.op (S.q (q_move rfl) rfl rfl ?_)
    refine S.op (S.q (q_move rfl) rfl rfl ?_)
    refine S.op (S.buildSlice (pvs := [(_, _)]) [_] Tryd.underlying69 Tryd.inf3 rfl rfl ⟨⟨rfl, rfl⟩, trivial⟩ rfl rfl ?_)
    intro b11
    refine S.op (S.appendOw (s := sv) (1) ([.int .i64 (i : Int)]) Tryd.underlying69 Tryd.inf3 rfl rfl rfl (blk_slAt (b := b11) rfl (by unfold maxLen; omega)) (by first | rfl | exact allOne_bcells _) (⟨by omega, by omega⟩) rfl ?_)
    intro sv2 hsv2
    rw [nds_snoc]
    refine S.op (S.q (q_assign rfl) rfl rfl ?_)
    first | with_reducible refine S.nilK ?_ | refine S.nil ?_
    with_reducible repeat (first | refine S.then_n ?_ | refine S.then_x ?_ | refine S.then_r ?_ | refine S.inBlock_n ?_ | refine S.inBlock_r ?_ | refine S.inBlock_x rfl ?_ | refine S.noGoto_r ?_ | refine S.noGoto_n ?_ | refine S.noGoto_x ?_)
    refine hK7 _ _ ?_
    refine S.region rfl ?_
    refine S.op (S.q (q_add rfl rfl (inI64 (by omega) (by omega))) rfl rfl ?_)
    refine S.op (S.q (q_move rfl) rfl rfl ?_)
    first | with_reducible refine S.nilK ?_ | refine S.nil ?_
    with_reducible repeat (first | refine S.then_n ?_ | refine S.then_x ?_ | refine S.then_r ?_ | refine S.inBlock_n ?_ | refine S.inBlock_r ?_ | refine S.inBlock_x rfl ?_ | refine S.noGoto_r ?_ | refine S.noGoto_n ?_ | refine S.noGoto_x ?_)
    exact S.next (q - 1) (⟨i + 1, sv2, by omega, by omega, by omega, rfl, rfl⟩) (by omega) (by repeat (first | exact trivial | refine ⟨rfl, ?_⟩)) Sub.ent
  · rw [show i = n by omega] at hsv ⊢
    refine S.exit ?_
    with_reducible repeat (first | refine S.then_n ?_ | refine S.then_x ?_ | refine S.then_r ?_ | refine S.inBlock_n ?_ | refine S.inBlock_r ?_ | refine S.inBlock_x rfl ?_ | refine S.noGoto_r ?_ | refine S.noGoto_n ?_ | refine S.noGoto_x ?_)
    with_reducible refine S.inBlock_s ?_
    with_reducible repeat (first | refine S.then_n ?_ | refine S.then_x ?_ | refine S.then_r ?_ | refine S.inBlock_n ?_ | refine S.inBlock_r ?_ | refine S.inBlock_x rfl ?_ | refine S.noGoto_r ?_ | refine S.noGoto_n ?_ | refine S.noGoto_x ?_)
    refine hK3 _ _ ?_
    refine S.seq fun K9 hK9 => ?_
    refine S.region rfl ?_
    refine S.op (S.q (q_move rfl) rfl rfl ?_)
    refine S.op (S.q (q_assign rfl) rfl rfl ?_)
    first | with_reducible refine S.nilK ?_ | refine S.nil ?_
    refine hK9 _ _ ?_
    refine S.ret ?_
    with_reducible repeat (first | refine S.then_n ?_ | refine S.then_x ?_ | refine S.then_r ?_ | refine S.inBlock_n ?_ | refine S.inBlock_r ?_ | refine S.inBlock_x rfl ?_ | refine S.noGoto_r ?_ | refine S.noGoto_n ?_ | refine S.noGoto_x ?_)
    exact S.fin (rs := [_]) (vs := [_]) Tryd.results69 (⟨rfl, trivial⟩)  (⟨sv, rfl, hsv, rfl⟩) Sub.ent
theorem nds_ints (l : List Nat) : nds l = ints (casts l) := by
  show l.map _ = (l.map _).map _
  rw [List.map_map]
  rfl
theorem jobs77 (l : List Nat) : [Value.int .u32 0, .int .u32 77] ++ idsV l = idsV (0 :: 77 :: l) := rfl
theorem at_not {m : Mx} {z y : Int} (h : (rowB m z && nodeB m y) = false) : atR m z y = 0 := by rw [atR, h]; rfl
set_option maxHeartbeats 4000000 in
theorem alike_S (b c : Nat) (m : Mx) (far : Int) {W : World} (hW : TabW W) : Spec Tryd.prog 36 [.pointer (some ⟨b, 0, none⟩), .pointer (some ⟨c, 0, none⟩), .int .i64 far] [MI b m, RI c m, old W] fun Γ v Θ => v = .bool true ∧ Θ = MI b m :: RI c m :: old W :: Γ := by
  refine Spec.miOk fun hm => ?_
  refine Spec.of_body Tryd.func36 rfl Tryd.ntmps36 rfl ?_
  intro w0 Γ
  show S _ w0 [(0, .pointer (some ⟨b, 0, none⟩)), (1, .pointer (some ⟨c, 0, none⟩)), (2, .int .i64 far)] (MI b m :: RI c m :: old W :: Γ) _
  have hR8 := hm.R8
  have hR1 := hm.R1
  have hN16 := hm.N16
  have hN1 := hm.N1
  have hmx : maxLen ≤ 9223372036854775807 := by unfold maxLen; omega
  obtain ⟨L1, hL1⟩ : ∃ L1 : List Int, L1 = (-1) :: (m.R : Int) :: far :: casts (List.range m.R) := ⟨_, rfl⟩
  obtain ⟨L2, hL2⟩ : ∃ L2 : List Int, L2 = (-1) :: (m.N : Int) :: far :: casts (List.range m.N) := ⟨_, rfl⟩
  have hl1 : L1.length = m.R + 3 := by rw [hL1]; simp
  have hl2 : L2.length = m.N + 3 := by rw [hL2]; simp
  have ha1 : [Value.int .i64 (-1), .int .i64 (m.R : Int), .int .i64 far] ++ nds (List.range m.R) = ints L1 := by rw [hL1, nds_ints]; rfl
  have ha2 : [Value.int .i64 (-1), .int .i64 (m.N : Int), .int .i64 far] ++ nds (List.range m.N) = ints L2 := by rw [hL2, nds_ints]; rfl
  refine S.seq fun K1 hK1 => ?_
  refine S.region rfl ?_
  refine S.op (S.q (q_assign rfl) rfl rfl ?_)
  first | with_reducible refine S.nilK ?_ | refine S.nil ?_
  refine hK1 _ _ ?_
  refine S.seq fun K2 hK2 => ?_
  refine S.region rfl ?_
  refine S.op (S.q (q_move rfl) rfl rfl ?_)
  refine S.op (S.call Tryd.en37 (vs := [_]) ⟨rfl, trivial⟩ (Size_S b m) rfl ?_)
  rintro v Θ ⟨rfl, rfl⟩
  refine S.op (S.q (q_move rfl) rfl rfl ?_)
  refine S.op (S.q (q_extract rfl rfl) rfl rfl ?_)
  refine S.op (S.q (q_extract rfl rfl) rfl rfl ?_)
  refine S.op (S.q (q_assign rfl) rfl rfl ?_)
  refine S.op (S.q (q_assign rfl) rfl rfl ?_)
  first | with_reducible refine S.nilK ?_ | refine S.nil ?_
  refine hK2 _ _ ?_
  refine S.seq fun K3 hK3 => ?_
  refine S.seq fun K4 hK4 => ?_
  refine S.region rfl ?_
  refine S.op (S.q (q_move rfl) rfl rfl ?_)
  refine S.op (S.q (q_eqN Tryd.underlying26 rfl rfl) rfl rfl ?_)
  first | with_reducible refine S.nilK ?_ | refine S.nil ?_
  refine hK4 _ _ ?_
  refine S.condF rfl ?_
  refine S.skip ?_
  with_reducible repeat (first | refine S.then_n ?_ | refine S.then_x ?_ | refine S.then_r ?_ | refine S.inBlock_n ?_ | refine S.inBlock_r ?_ | refine S.inBlock_x rfl ?_ | refine S.noGoto_r ?_ | refine S.noGoto_n ?_ | refine S.noGoto_x ?_)
  refine hK3 _ _ ?_
  refine S.seq fun K5 hK5 => ?_
  refine S.seq fun K6 hK6 => ?_
  refine S.regionG ?_
  refine S.riOpen c m fun cs us rs hri => ?_
  have hcn := hri.cn
  have hun := hri.un
  refine S.g_op rfl (S.q (q_move rfl) rfl rfl ?_)
  refine S.g_op rfl (S.q (q_move rfl) rfl rfl ?_)
  refine S.g_op rfl (S.q (q_nilCheck rfl) rfl rfl ?_)
  refine S.g_op rfl (S.q (q_field Tryd.fo55_0 rfl) rfl rfl ?_)
  refine S.g_op rfl (S.q (q_load Tryd.at52 rfl rfl) rfl rfl ?_)
  refine S.g_op rfl (S.q (q_len Tryd.underlying52 rfl) rfl rfl ?_)
  refine S.g_op rfl (S.q (q_ne rfl rfl) rfl rfl ?_)
  refine S.g_op rfl (S.q (q_move rfl) rfl rfl ?_)
  refine S.g_yes rfl rfl rfl ((decide_eq_false (by omega))) (S.q (q_move rfl) rfl rfl ?_)
  refine S.g_yes rfl rfl rfl ((decide_eq_false (by omega))) (S.q (q_move rfl) rfl rfl ?_)
  refine S.g_yes rfl rfl rfl ((decide_eq_false (by omega))) (S.q (q_nilCheck rfl) rfl rfl ?_)
  refine S.g_yes rfl rfl rfl ((decide_eq_false (by omega))) (S.q (q_field Tryd.fo55_1 rfl) rfl rfl ?_)
  refine S.g_yes rfl rfl rfl ((decide_eq_false (by omega))) (S.q (q_load Tryd.at53 rfl rfl) rfl rfl ?_)
  refine S.g_yes rfl rfl rfl ((decide_eq_false (by omega))) (S.q (q_len Tryd.underlying53 rfl) rfl rfl ?_)
  refine S.g_yes rfl rfl rfl ((decide_eq_false (by omega))) (S.q (q_ne rfl rfl) rfl rfl ?_)
  refine S.g_op rfl (S.q (q_pickF rfl ((decide_eq_false (by omega))) rfl) rfl rfl ?_)
  refine S.g_op rfl (S.q (q_move rfl) rfl rfl ?_)
  refine S.g_yes rfl rfl rfl ((decide_eq_false (by omega))) (S.q (q_move rfl) rfl rfl ?_)
  refine S.riClose c m cs us rs hri ?_
  refine S.g_yes rfl rfl rfl ((decide_eq_false (by omega))) (S.call Tryd.en66 (vs := [_]) ⟨rfl, trivial⟩ (Jobs_S b m) rfl ?_)
  rintro v Θ ⟨j1, rfl, hj1, rfl⟩
  refine S.g_yes rfl rfl rfl ((decide_eq_false (by omega))) (S.q (q_move rfl) rfl rfl ?_)
  refine S.g_yes rfl rfl rfl ((decide_eq_false (by omega))) (S.call Tryd.en68 (vs := [_]) ⟨rfl, trivial⟩ (rJobs_S c m) rfl ?_)
  rintro v Θ ⟨j2, rfl, hj2, rfl⟩
  refine S.g_yes rfl rfl rfl ((decide_eq_false (by omega))) (S.call Tryd.en12 (vs := [_, _]) ⟨rfl, rfl, trivial⟩ (Same_S (own j1 68 1 (idsV (jobIds m))) (own j2 68 1 (idsV (jobIds m))) j1 j2 (casts (jobIds m)) (casts (jobIds m)) (rdIds j1 68 (jobIds m)) (rdIds j2 68 (jobIds m)) (by rw [List.length_map]; exact hj1) (by rw [List.length_map]; exact hj2)) rfl ?_)
  rintro v Θ ⟨rfl, rfl⟩
  refine S.g_yes rfl rfl rfl ((decide_eq_false (by omega))) (S.q (q_not rfl) rfl rfl ?_)
  refine S.g_op rfl (S.q (q_pickF rfl ((decide_eq_false (by omega))) rfl) rfl rfl ?_)
  first | with_reducible refine S.g_nilK ?_ | refine S.g_nil ?_
  refine hK6 _ _ ?_
  refine S.cond rfl (fun h2 => ?_) (fun h2 => ?_)
  · exact absurd h2 (by simp)
  · refine S.skip ?_
    with_reducible repeat (first | refine S.then_n ?_ | refine S.then_x ?_ | refine S.then_r ?_ | refine S.inBlock_n ?_ | refine S.inBlock_r ?_ | refine S.inBlock_x rfl ?_ | refine S.noGoto_r ?_ | refine S.noGoto_n ?_ | refine S.noGoto_x ?_)
    refine hK5 _ _ ?_
    refine S.seq fun K7 hK7 => ?_
    refine S.seq fun K8 hK8 => ?_
    refine S.region rfl ?_
    refine S.op (S.q (q_move rfl) rfl rfl ?_)
    refine S.op (S.q (q_move rfl) rfl rfl ?_)
    refine S.op (S.buildSlice (pvs := [(_, _), (_, _), (_, _)]) [_, _, _] Tryd.underlying69 Tryd.inf3 rfl rfl ⟨⟨rfl, rfl⟩, ⟨rfl, rfl⟩, ⟨rfl, rfl⟩, trivial⟩ rfl rfl ?_)
    intro b114
    refine S.op (S.q (q_move rfl) rfl rfl ?_)
    refine S.op (S.call Tryd.en69 (vs := [_]) ⟨rfl, trivial⟩ (seq_S m.R (by omega)) rfl ?_)
    rintro v Θ ⟨q1, rfl, hq1, rfl⟩
    refine S.conv (blk b114 3 #[.int .i64 (-1), .int .i64 (m.R : Int), .int .i64 far]) (show Ent _ (own ⟨some ⟨b114, 0, none⟩, 3, 3⟩ 3 1 [.int .i64 (-1), .int .i64 (m.R : Int), .int .i64 far] :: _) from Ent.blkOwnL b114 3 1 3 _ rfl (by unfold maxLen; omega) _) ?_
    refine S.op (S.appendOw (s := ⟨some ⟨b114, 0, none⟩, 3, 3⟩) (q1.n) (nds (List.range m.R)) Tryd.underlying69 Tryd.inf3 rfl rfl rfl (fun w hs => HasOw.slAt inferInstance hs) (nds_one _) (⟨by show (3 + q1.n) * 8 ≤ _; omega, by show 3 + q1.n ≤ _; omega⟩) rfl ?_)
    intro av hav
    have hav : av.n = 3 + q1.n := hav
    rw [ha1]
    refine S.op (S.q (q_len Tryd.underlying69 rfl) rfl rfl ?_)
    refine S.op (S.q (q_move rfl) rfl rfl ?_)
    first | with_reducible refine S.nilK ?_ | refine S.nil ?_
    refine hK8 _ _ ?_
    refine S.block ?_
    refine S.loop (fun q ρ' Γ' => ∃ k : Nat, q = L1.length - k ∧ k ≤ L1.length ∧ ρ' = [(0, .pointer (some ⟨b, 0, none⟩)), (1, .pointer (some ⟨c, 0, none⟩)), (2, .int .i64 far), (7, .int .i64 (m.R : Int)), (8, .int .i64 (m.N : Int)), (117, av.v), (118, .int .i64 (av.n : Int)), (119, .int .i64 (k : Int))] ∧   Γ' = own av 3 1 (ints L1) :: MI b m :: RI c m :: old W :: Γ) (m := _) (ρ0 := _) (Γ0 := _) (⟨0, rfl, by omega, rfl, rfl⟩) (by repeat (first | exact trivial | refine ⟨rfl, ?_⟩)) Sub.ent ?_
    rintro q ρ' Γ' ⟨k, hq, hk, rfl, rfl⟩
    have hav2 : av.n = L1.length := by rw [hl1]; omega
    refine S.seq fun K9 hK9 => ?_
    refine S.region rfl ?_
    refine S.op (S.q (q_lt rfl rfl) rfl rfl ?_)
    first | with_reducible refine S.nilK ?_ | refine S.nil ?_
    refine hK9 _ _ ?_
    refine S.seq fun K10 hK10 => ?_
    refine S.condD rfl (fun h3 => ?_) (fun h3 => ?_)
    · refine S.ownSome av (by omega) fun ab ao haa _ _ _ => ?_
      obtain ⟨z, hz⟩ := getE (show k < L1.length by omega)
      obtain ⟨nr, ok, hnr⟩ : ∃ nr ok, nextR m z = (nr, ok) := ⟨_, _, rfl⟩
      refine S.skip ?_
      with_reducible repeat (first | refine S.then_n ?_ | refine S.then_x ?_ | refine S.then_r ?_ | refine S.inBlock_n ?_ | refine S.inBlock_r ?_ | refine S.inBlock_x rfl ?_ | refine S.noGoto_r ?_ | refine S.noGoto_n ?_ | refine S.noGoto_x ?_)
      refine hK10 _ _ ?_
      refine S.seq fun K11 hK11 => ?_
      refine S.block ?_
      refine S.seq fun K12 hK12 => ?_
      refine S.region rfl ?_
      refine S.op (S.q (q_indexO (k) Tryd.el69 rfl haa rfl rfl (by omega)) rfl rfl ?_)
      refine S.op (S.q (q_loadOw (av) (k) Tryd.at3 rfl haa (by first | rfl | exact Nat.add_assoc _ _ _ | omega) (ints_get hz)) rfl rfl ?_)
      refine S.op (S.q (q_assign rfl) rfl rfl ?_)
      first | with_reducible refine S.nilK ?_ | refine S.nil ?_
      refine hK12 _ _ ?_
      refine S.seq fun K13 hK13 => ?_
      refine S.region rfl ?_
      refine S.op (S.q (q_move rfl) rfl rfl ?_)
      refine S.op (S.q (q_move rfl) rfl rfl ?_)
      refine S.op (S.call Tryd.en54 (vs := [_, _]) ⟨rfl, rfl, trivial⟩ (Next_S b m z) rfl ?_)
      rintro v Θ ⟨rfl, rfl⟩
      rw [hnr]
      refine S.op (S.q (q_move rfl) rfl rfl ?_)
      refine S.op (S.q (q_extract rfl rfl) rfl rfl ?_)
      refine S.op (S.q (q_extract rfl rfl) rfl rfl ?_)
      refine S.op (S.q (q_assign rfl) rfl rfl ?_)
      refine S.op (S.q (q_assign rfl) rfl rfl ?_)
      first | with_reducible refine S.nilK ?_ | refine S.nil ?_
      refine hK13 _ _ ?_
      refine S.seq fun K14 hK14 => ?_
      refine S.region rfl ?_
      refine S.op (S.q (q_move rfl) rfl rfl ?_)
      refine S.op (S.q (q_move rfl) rfl rfl ?_)
      refine S.op (S.call Tryd.en70 (vs := [_, _]) ⟨rfl, rfl, trivial⟩ (rNext_S c m z) rfl ?_)
      rintro v Θ ⟨rfl, rfl⟩
      rw [hnr]
      refine S.op (S.q (q_move rfl) rfl rfl ?_)
      refine S.op (S.q (q_extract rfl rfl) rfl rfl ?_)
      refine S.op (S.q (q_extract rfl rfl) rfl rfl ?_)
      refine S.op (S.q (q_assign rfl) rfl rfl ?_)
      refine S.op (S.q (q_assign rfl) rfl rfl ?_)
      first | with_reducible refine S.nilK ?_ | refine S.nil ?_
      refine hK14 _ _ ?_
      refine S.seq fun K15 hK15 => ?_
      refine S.seq fun K16 hK16 => ?_
      refine S.regionG ?_
      refine S.g_op rfl (S.q (q_move rfl) rfl rfl ?_)
      refine S.g_op rfl (S.q (q_move rfl) rfl rfl ?_)
      refine S.g_op rfl (S.call Tryd.en52 (vs := [_, _]) ⟨rfl, rfl, trivial⟩ (Row_S b m z hW) rfl ?_)
      rintro v Θ ⟨r1, rfl, hr1, rfl⟩
      refine S.g_op rfl (S.q (q_move rfl) rfl rfl ?_)
      refine S.g_op rfl (S.q (q_move rfl) rfl rfl ?_)
      refine S.g_op rfl (S.call Tryd.en19 (vs := [_, _]) ⟨rfl, rfl, trivial⟩ (rRow_S c m z) rfl ?_)
      rintro v Θ ⟨r2, rfl, hr2, rfl⟩
      refine S.g_op rfl (S.call Tryd.en12 (vs := [_, _]) ⟨rfl, rfl, trivial⟩ (Same_S (own r1 68 1 (idsV (rowIds m z))) (own r2 68 1 (idsV (rowIds m z))) r1 r2 (casts (rowIds m z)) (casts (rowIds m z)) (rdIds r1 68 (rowIds m z)) (rdIds r2 68 (rowIds m z)) (by rw [List.length_map]; exact hr1) (by rw [List.length_map]; exact hr2)) rfl ?_)
      rintro v Θ ⟨rfl, rfl⟩
      refine S.g_op rfl (S.q (q_not rfl) rfl rfl ?_)
      refine S.g_op rfl (S.q (q_move rfl) rfl rfl ?_)
      refine S.g_yes rfl rfl rfl ((by simp)) (S.q (q_move rfl) rfl rfl ?_)
      refine S.g_yes rfl rfl rfl ((by simp)) (S.q (q_move rfl) rfl rfl ?_)
      refine S.g_yes rfl rfl rfl ((by simp)) (S.call Tryd.en55 (vs := [_, _]) ⟨rfl, rfl, trivial⟩ (Fill_S b m z hW) rfl ?_)
      rintro v Θ ⟨f1, rfl, hf1, rfl⟩
      refine S.g_yes rfl rfl rfl ((by simp)) (S.q (q_move rfl) rfl rfl ?_)
      refine S.g_yes rfl rfl rfl ((by simp)) (S.q (q_move rfl) rfl rfl ?_)
      refine S.g_yes rfl rfl rfl ((by simp)) (S.call Tryd.en71 (vs := [_, _]) ⟨rfl, rfl, trivial⟩ (rFill_S c m z) rfl ?_)
      rintro v Θ ⟨f2, rfl, hf2, rfl⟩
      refine S.g_yes rfl rfl rfl ((by simp)) (S.call Tryd.en12 (vs := [_, _]) ⟨rfl, rfl, trivial⟩ (Same_S (own f1 68 1 (idsV (fillIds m z))) (own f2 68 1 (idsV (fillIds m z))) f1 f2 (casts (fillIds m z)) (casts (fillIds m z)) (rdIds f1 68 (fillIds m z)) (rdIds f2 68 (fillIds m z)) (by rw [List.length_map]; exact hf1) (by rw [List.length_map]; exact hf2)) rfl ?_)
      rintro v Θ ⟨rfl, rfl⟩
      refine S.g_yes rfl rfl rfl ((by simp)) (S.q (q_not rfl) rfl rfl ?_)
      refine S.g_op rfl (S.q (q_pickF rfl ((by simp)) rfl) rfl rfl ?_)
      refine S.g_op rfl (S.q (q_move rfl) rfl rfl ?_)
      refine S.g_yes rfl rfl rfl ((by simp)) (S.q (q_move rfl) rfl rfl ?_)
      refine S.g_yes rfl rfl rfl ((by simp)) (S.q (q_move rfl) rfl rfl ?_)
      refine S.g_yes rfl rfl rfl ((by simp)) (S.call Tryd.en67 (vs := [_, _]) ⟨rfl, rfl, trivial⟩ (Free_S b m z) rfl ?_)
      rintro v Θ ⟨rfl, rfl⟩
      refine S.g_yes rfl rfl rfl ((by simp)) (S.q (q_move rfl) rfl rfl ?_)
      refine S.g_yes rfl rfl rfl ((by simp)) (S.q (q_move rfl) rfl rfl ?_)
      refine S.g_yes rfl rfl rfl ((by simp)) (S.call Tryd.en44 (vs := [_, _]) ⟨rfl, rfl, trivial⟩ (rFree_S c m z) rfl ?_)
      rintro v Θ ⟨e2, rfl, he2, rfl⟩
      rw [freeL_len] at he2
      refine S.g_yes rfl rfl rfl ((by simp)) (S.q (q_len Tryd.underlying69 rfl) rfl rfl ?_)
      refine S.g_yes rfl rfl rfl ((by simp)) (S.q (q_ne rfl rfl) rfl rfl ?_)
      refine S.g_op rfl (S.q (q_pickF rfl ((by simp)) rfl) rfl rfl ?_)
      refine S.g_op rfl (S.q (q_move rfl) rfl rfl ?_)
      refine S.g_yes rfl rfl rfl ((decide_eq_false (by omega))) (S.q (q_move rfl) rfl rfl ?_)
      refine S.g_yes rfl rfl rfl ((decide_eq_false (by omega))) (S.q (q_move rfl) rfl rfl ?_)
      refine S.g_yes rfl rfl rfl ((decide_eq_false (by omega))) (S.q (q_ne rfl rfl) rfl rfl ?_)
      refine S.g_op rfl (S.q (q_pickF rfl ((decide_eq_false (by omega))) rfl) rfl rfl ?_)
      refine S.g_op rfl (S.q (q_move rfl) rfl rfl ?_)
      refine S.g_yes rfl rfl rfl ((decide_eq_false (fun h => h rfl))) (S.q (q_move rfl) rfl rfl ?_)
      refine S.g_yes rfl rfl rfl ((decide_eq_false (fun h => h rfl))) (S.q (q_move rfl) rfl rfl ?_)
      refine S.g_yes rfl rfl rfl ((decide_eq_false (fun h => h rfl))) (S.q (q_neB Tryd.underlying4 rfl rfl) rfl rfl ?_)
      refine S.g_op rfl (S.q (q_pickF rfl ((decide_eq_false (fun h => h rfl))) rfl) rfl rfl ?_)
      first | with_reducible refine S.g_nilK ?_ | refine S.g_nil ?_
      refine hK16 _ _ ?_
      refine S.cond rfl (fun h4 => ?_) (fun h4 => ?_)
      · exact absurd h4 (by simp)
      · refine S.skip ?_
        with_reducible repeat (first | refine S.then_n ?_ | refine S.then_x ?_ | refine S.then_r ?_ | refine S.inBlock_n ?_ | refine S.inBlock_r ?_ | refine S.inBlock_x rfl ?_ | refine S.noGoto_r ?_ | refine S.noGoto_n ?_ | refine S.noGoto_x ?_)
        refine hK15 _ _ ?_
        refine S.seq fun K17 hK17 => ?_
        refine S.region rfl ?_
        refine S.op (S.q (q_move rfl) rfl rfl ?_)
        refine S.op (S.q (q_move rfl) rfl rfl ?_)
        refine S.op (S.buildSlice (pvs := [(_, _), (_, _), (_, _)]) [_, _, _] Tryd.underlying69 Tryd.inf3 rfl rfl ⟨⟨rfl, rfl⟩, ⟨rfl, rfl⟩, ⟨rfl, rfl⟩, trivial⟩ rfl rfl ?_)
        intro b175
        refine S.op (S.q (q_move rfl) rfl rfl ?_)
        refine S.op (S.call Tryd.en69 (vs := [_]) ⟨rfl, trivial⟩ (seq_S m.N (by omega)) rfl ?_)
        rintro v Θ ⟨u2, rfl, hu2, rfl⟩
        refine S.conv (blk b175 3 #[.int .i64 (-1), .int .i64 (m.N : Int), .int .i64 far]) (show Ent _ (own ⟨some ⟨b175, 0, none⟩, 3, 3⟩ 3 1 [.int .i64 (-1), .int .i64 (m.N : Int), .int .i64 far] :: _) from Ent.blkOwnL b175 3 1 3 _ rfl (by unfold maxLen; omega) _) ?_
        refine S.op (S.appendOw (s := ⟨some ⟨b175, 0, none⟩, 3, 3⟩) (u2.n) (nds (List.range m.N)) Tryd.underlying69 Tryd.inf3 rfl rfl rfl (fun w hs => HasOw.slAt inferInstance hs) (nds_one _) (⟨by show (3 + u2.n) * 8 ≤ _; omega, by show 3 + u2.n ≤ _; omega⟩) rfl ?_)
        intro bv hbv
        have hbv : bv.n = 3 + u2.n := hbv
        rw [ha2]
        refine S.op (S.q (q_len Tryd.underlying69 rfl) rfl rfl ?_)
        refine S.op (S.q (q_move rfl) rfl rfl ?_)
        first | with_reducible refine S.nilK ?_ | refine S.nil ?_
        refine hK17 _ _ ?_
        refine S.block ?_
        refine S.loop (fun q2 ρ' Γ' => ∃ e : Nat, q2 = L2.length - e ∧ e ≤ L2.length ∧ ρ' = [(0, .pointer (some ⟨b, 0, none⟩)), (1, .pointer (some ⟨c, 0, none⟩)), (2, .int .i64 far), (7, .int .i64 (m.R : Int)), (8, .int .i64 (m.N : Int)), (12, .int .i64 z), (117, av.v), (118, .int .i64 (av.n : Int)), (119, .int .i64 (k : Int)), (178, bv.v), (179, .int .i64 (bv.n : Int)), (180, .int .i64 (e : Int))] ∧   Γ' = own bv 3 1 (ints L2) :: own av 3 1 (ints L1) :: MI b m :: RI c m :: old W :: Γ) (m := _) (ρ0 := _) (Γ0 := _) (⟨0, rfl, by omega, rfl, rfl⟩) (by repeat (first | exact trivial | refine ⟨rfl, ?_⟩)) Sub.ent ?_
        rintro q2 ρ' Γ' ⟨e, hq2, he, rfl, rfl⟩
        have hbv2 : bv.n = L2.length := by rw [hl2]; omega
        refine S.seq fun K18 hK18 => ?_
        refine S.region rfl ?_
        refine S.op (S.q (q_lt rfl rfl) rfl rfl ?_)
        first | with_reducible refine S.nilK ?_ | refine S.nil ?_
        refine hK18 _ _ ?_
        refine S.seq fun K19 hK19 => ?_
        refine S.condD rfl (fun h5 => ?_) (fun h5 => ?_)
        · refine S.ownSome bv (by omega) fun bb bo hba _ _ _ => ?_
          obtain ⟨y, hy⟩ := getE (show e < L2.length by omega)
          refine S.skip ?_
          with_reducible repeat (first | refine S.then_n ?_ | refine S.then_x ?_ | refine S.then_r ?_ | refine S.inBlock_n ?_ | refine S.inBlock_r ?_ | refine S.inBlock_x rfl ?_ | refine S.noGoto_r ?_ | refine S.noGoto_n ?_ | refine S.noGoto_x ?_)
          refine hK19 _ _ ?_
          refine S.seq fun K20 hK20 => ?_
          refine S.block ?_
          refine S.seq fun K21 hK21 => ?_
          refine S.region rfl ?_
          refine S.op (S.q (q_indexO (e) Tryd.el69 rfl hba rfl rfl (by omega)) rfl rfl ?_)
          refine S.op (S.q (q_loadOw (bv) (e) Tryd.at3 rfl hba (by first | rfl | exact Nat.add_assoc _ _ _ | omega) (ints_get hy)) rfl rfl ?_)
          refine S.op (S.q (q_assign rfl) rfl rfl ?_)
          first | with_reducible refine S.nilK ?_ | refine S.nil ?_
          refine hK21 _ _ ?_
          refine S.seq fun K22 hK22 => ?_
          refine S.region rfl ?_
          refine S.op (S.q (q_assign rfl) rfl rfl ?_)
          first | with_reducible refine S.nilK ?_ | refine S.nil ?_
          refine hK22 _ _ ?_
          refine S.seq fun K23 hK23 => ?_
          refine S.seq fun K24 hK24 => ?_
          refine S.cut (fun ρ' Γ' => ρ' = [(0, .pointer (some ⟨b, 0, none⟩)), (1, .pointer (some ⟨c, 0, none⟩)), (2, .int .i64 far), (7, .int .i64 (m.R : Int)), (8, .int .i64 (m.N : Int)), (12, .int .i64 z), (18, .int .i64 y), (19, .int .u32 0), (117, av.v), (118, .int .i64 (av.n : Int)), (119, .int .i64 (k : Int)), (178, bv.v), (179, .int .i64 (bv.n : Int)), (180, .int .i64 (e : Int)), (199, .bool (rowB m z && nodeB m y))] ∧   Γ' = own bv 3 1 (ints L2) :: own av 3 1 (ints L1) :: MI b m :: RI c m :: old W :: Γ) ?_ ?_
          · refine S.regionG ?_
            refine S.g_op rfl (S.q (q_move rfl) rfl rfl ?_)
            refine S.g_op rfl (S.q (q_ge rfl rfl) rfl rfl ?_)
            refine S.g_op rfl (S.q (q_move rfl) rfl rfl ?_)
            by_cases hg18_2 : (0 : Int) ≤ z
            · refine S.g_yes rfl rfl rfl (decide_eq_true hg18_2) (S.q (q_move rfl) rfl rfl ?_)
              refine S.g_yes rfl rfl rfl (decide_eq_true hg18_2) (S.q (q_move rfl) rfl rfl ?_)
              refine S.g_yes rfl rfl rfl (decide_eq_true hg18_2) (S.q (q_lt rfl rfl) rfl rfl ?_)
              refine S.g_op rfl (S.q (q_pickT rfl (decide_eq_true hg18_2) rfl) rfl rfl ?_)
              refine S.g_op rfl (S.q (q_move rfl) rfl rfl ?_)
              by_cases hg18_7 : z < (m.R : Int)
              · refine S.g_yes rfl rfl rfl (decide_eq_true hg18_7) (S.q (q_move rfl) rfl rfl ?_)
                refine S.g_yes rfl rfl rfl (decide_eq_true hg18_7) (S.q (q_ge rfl rfl) rfl rfl ?_)
                refine S.g_op rfl (S.q (q_pickT rfl (decide_eq_true hg18_7) rfl) rfl rfl ?_)
                refine S.g_op rfl (S.q (q_move rfl) rfl rfl ?_)
                by_cases hg18_11 : (0 : Int) ≤ y
                · refine S.g_yes rfl rfl rfl (decide_eq_true hg18_11) (S.q (q_move rfl) rfl rfl ?_)
                  refine S.g_yes rfl rfl rfl (decide_eq_true hg18_11) (S.q (q_move rfl) rfl rfl ?_)
                  refine S.g_yes rfl rfl rfl (decide_eq_true hg18_11) (S.q (q_lt rfl rfl) rfl rfl ?_)
                  refine S.g_op rfl (S.q (q_pickT rfl (decide_eq_true hg18_11) rfl) rfl rfl ?_)
                  first | with_reducible refine S.g_nilK ?_ | refine S.g_nil ?_
                  with_reducible repeat (first | refine S.then_n ?_ | refine S.then_x ?_ | refine S.then_r ?_ | refine S.inBlock_n ?_ | refine S.inBlock_r ?_ | refine S.inBlock_x rfl ?_ | refine S.noGoto_r ?_ | refine S.noGoto_n ?_ | refine S.noGoto_x ?_)
                  first | (rw [show (rowB m z && nodeB m y) = decide (y < (m.N : Int)) by rw [rowB_iff.2 ⟨by omega, by omega⟩, nodeB, decide_eq_true (show (0 : Int) ≤ y by omega)]; rfl]; exact S.meet ⟨rfl, rfl⟩ ⟨rfl, rfl, rfl, rfl, rfl, rfl, rfl, rfl, rfl, rfl, rfl, rfl, rfl, rfl, rfl, trivial⟩ Sub.ent) | (rw [show (rowB m z && nodeB m y) = false by rw [Bool.eq_false_iff]; intro h9; rw [Bool.and_eq_true, rowB_iff, nodeB_iff] at h9; omega]; exact S.meet ⟨rfl, rfl⟩ ⟨rfl, rfl, rfl, rfl, rfl, rfl, rfl, rfl, rfl, rfl, rfl, rfl, rfl, rfl, rfl, trivial⟩ Sub.ent)
                · refine S.g_no rfl rfl rfl (decide_eq_false hg18_11) rfl rfl ?_
                  refine S.g_no rfl rfl rfl (decide_eq_false hg18_11) rfl rfl ?_
                  refine S.g_no rfl rfl rfl (decide_eq_false hg18_11) rfl rfl ?_
                  refine S.g_op rfl (S.q (q_pickF rfl (decide_eq_false hg18_11) rfl) rfl rfl ?_)
                  first | with_reducible refine S.g_nilK ?_ | refine S.g_nil ?_
                  with_reducible repeat (first | refine S.then_n ?_ | refine S.then_x ?_ | refine S.then_r ?_ | refine S.inBlock_n ?_ | refine S.inBlock_r ?_ | refine S.inBlock_x rfl ?_ | refine S.noGoto_r ?_ | refine S.noGoto_n ?_ | refine S.noGoto_x ?_)
                  first | (rw [show (rowB m z && nodeB m y) = decide (y < (m.N : Int)) by rw [rowB_iff.2 ⟨by omega, by omega⟩, nodeB, decide_eq_true (show (0 : Int) ≤ y by omega)]; rfl]; exact S.meet ⟨rfl, rfl⟩ ⟨rfl, rfl, rfl, rfl, rfl, rfl, rfl, rfl, rfl, rfl, rfl, rfl, rfl, rfl, rfl, trivial⟩ Sub.ent) | (rw [show (rowB m z && nodeB m y) = false by rw [Bool.eq_false_iff]; intro h9; rw [Bool.and_eq_true, rowB_iff, nodeB_iff] at h9; omega]; exact S.meet ⟨rfl, rfl⟩ ⟨rfl, rfl, rfl, rfl, rfl, rfl, rfl, rfl, rfl, rfl, rfl, rfl, rfl, rfl, rfl, trivial⟩ Sub.ent)
              · refine S.g_no rfl rfl rfl (decide_eq_false hg18_7) rfl rfl ?_
                refine S.g_no rfl rfl rfl (decide_eq_false hg18_7) rfl rfl ?_
                refine S.g_op rfl (S.q (q_pickF rfl (decide_eq_false hg18_7) rfl) rfl rfl ?_)
                refine S.g_op rfl (S.q (q_move rfl) rfl rfl ?_)
                refine S.g_no rfl rfl rfl (rfl) rfl rfl ?_
                refine S.g_no rfl rfl rfl (rfl) rfl rfl ?_
                refine S.g_no rfl rfl rfl (rfl) rfl rfl ?_
                refine S.g_op rfl (S.q (q_pickF rfl (rfl) rfl) rfl rfl ?_)
                first | with_reducible refine S.g_nilK ?_ | refine S.g_nil ?_
                with_reducible repeat (first | refine S.then_n ?_ | refine S.then_x ?_ | refine S.then_r ?_ | refine S.inBlock_n ?_ | refine S.inBlock_r ?_ | refine S.inBlock_x rfl ?_ | refine S.noGoto_r ?_ | refine S.noGoto_n ?_ | refine S.noGoto_x ?_)
                first | (rw [show (rowB m z && nodeB m y) = decide (y < (m.N : Int)) by rw [rowB_iff.2 ⟨by omega, by omega⟩, nodeB, decide_eq_true (show (0 : Int) ≤ y by omega)]; rfl]; exact S.meet ⟨rfl, rfl⟩ ⟨rfl, rfl, rfl, rfl, rfl, rfl, rfl, rfl, rfl, rfl, rfl, rfl, rfl, rfl, rfl, trivial⟩ Sub.ent) | (rw [show (rowB m z && nodeB m y) = false by rw [Bool.eq_false_iff]; intro h9; rw [Bool.and_eq_true, rowB_iff, nodeB_iff] at h9; omega]; exact S.meet ⟨rfl, rfl⟩ ⟨rfl, rfl, rfl, rfl, rfl, rfl, rfl, rfl, rfl, rfl, rfl, rfl, rfl, rfl, rfl, trivial⟩ Sub.ent)
            · refine S.g_no rfl rfl rfl (decide_eq_false hg18_2) rfl rfl ?_
              refine S.g_no rfl rfl rfl (decide_eq_false hg18_2) rfl rfl ?_
              refine S.g_no rfl rfl rfl (decide_eq_false hg18_2) rfl rfl ?_
              refine S.g_op rfl (S.q (q_pickF rfl (decide_eq_false hg18_2) rfl) rfl rfl ?_)
              refine S.g_op rfl (S.q (q_move rfl) rfl rfl ?_)
              refine S.g_no rfl rfl rfl (rfl) rfl rfl ?_
              refine S.g_no rfl rfl rfl (rfl) rfl rfl ?_
              refine S.g_op rfl (S.q (q_pickF rfl (rfl) rfl) rfl rfl ?_)
              refine S.g_op rfl (S.q (q_move rfl) rfl rfl ?_)
              refine S.g_no rfl rfl rfl (rfl) rfl rfl ?_
              refine S.g_no rfl rfl rfl (rfl) rfl rfl ?_
              refine S.g_no rfl rfl rfl (rfl) rfl rfl ?_
              refine S.g_op rfl (S.q (q_pickF rfl (rfl) rfl) rfl rfl ?_)
              first | with_reducible refine S.g_nilK ?_ | refine S.g_nil ?_
              with_reducible repeat (first | refine S.then_n ?_ | refine S.then_x ?_ | refine S.then_r ?_ | refine S.inBlock_n ?_ | refine S.inBlock_r ?_ | refine S.inBlock_x rfl ?_ | refine S.noGoto_r ?_ | refine S.noGoto_n ?_ | refine S.noGoto_x ?_)
              first | (rw [show (rowB m z && nodeB m y) = decide (y < (m.N : Int)) by rw [rowB_iff.2 ⟨by omega, by omega⟩, nodeB, decide_eq_true (show (0 : Int) ≤ y by omega)]; rfl]; exact S.meet ⟨rfl, rfl⟩ ⟨rfl, rfl, rfl, rfl, rfl, rfl, rfl, rfl, rfl, rfl, rfl, rfl, rfl, rfl, rfl, trivial⟩ Sub.ent) | (rw [show (rowB m z && nodeB m y) = false by rw [Bool.eq_false_iff]; intro h9; rw [Bool.and_eq_true, rowB_iff, nodeB_iff] at h9; omega]; exact S.meet ⟨rfl, rfl⟩ ⟨rfl, rfl, rfl, rfl, rfl, rfl, rfl, rfl, rfl, rfl, rfl, rfl, rfl, rfl, rfl, trivial⟩ Sub.ent)
          · rintro ρ' Γ' ⟨rfl, rfl⟩
            refine hK24 _ _ ?_
            refine S.cond rfl (fun h6 => ?_) (fun h6 => ?_)
            · have h6' := h6
              rw [Bool.and_eq_true, rowB_iff, nodeB_iff] at h6
              obtain ⟨r, rfl⟩ : ∃ r : Nat, z = r := ⟨z.toNat, by omega⟩
              obtain ⟨i, rfl⟩ : ∃ i : Nat, y = i := ⟨y.toNat, by omega⟩
              have hat : atR m r i = atJ m.js r i := by rw [atR, h6']; rfl
              have hxa := rowN_get (m := m) (i := i) (by omega) r
              rw [← hat] at hxa
              refine S.riOpen c m fun cs us rs hri => ?_
              have hcn := hri.cn
              refine S.ownSome cs (by omega) fun cb co hca _ _ _ => ?_
              obtain ⟨p, hp, hpd, hpn⟩ := hri.at_ (show r < m.R by omega)
              have hRp : RdS (alls rs rrB) p.1 p.1.n 1 (idsV p.2) := RdS.alls hp RdS.own
              refine S.rSome hRp (by omega) fun pb po hpa => ?_
              rw [← hpd] at hxa
              refine S.region rfl ?_
              refine S.op (S.q (q_move rfl) rfl rfl ?_)
              refine S.op (S.q (q_nilCheck rfl) rfl rfl ?_)
              refine S.op (S.q (q_field Tryd.fo55_0 rfl) rfl rfl ?_)
              refine S.op (S.q (q_load Tryd.at52 rfl rfl) rfl rfl ?_)
              refine S.op (S.q (q_move rfl) rfl rfl ?_)
              refine S.op (S.q (q_indexO (r) Tryd.el52 rfl hca rfl rfl (by omega)) rfl rfl ?_)
              refine S.op (S.q (q_loadOw (cs) (r) Tryd.at31 rfl hca (by first | rfl | exact Nat.add_assoc _ _ _ | omega) (by rw [List.getElem?_map, hp]; rfl)) rfl rfl ?_)
              refine S.op (S.q (q_move rfl) rfl rfl ?_)
              refine S.op (S.q (q_indexO (i) Tryd.el31 rfl hpa rfl rfl (by omega)) rfl rfl ?_)
              refine S.op (S.q (q_loadR hRp i Tryd.at68 rfl hpa (by omega) (by omega) (idsV_get hxa)) rfl rfl ?_)
              refine S.riClose c m cs us rs hri ?_
              refine S.op (S.q (q_assign rfl) rfl rfl ?_)
              first | with_reducible refine S.nilK ?_ | refine S.nil ?_
              refine hK23 _ _ ?_
              refine S.seq fun K25 hK25 => ?_
              refine S.region rfl ?_
              refine S.op (S.q (q_move rfl) rfl rfl ?_)
              refine S.op (S.q (q_move rfl) rfl rfl ?_)
              refine S.op (S.q (q_move rfl) rfl rfl ?_)
              refine S.op (S.call Tryd.en47 (vs := [_, _, _]) ⟨rfl, rfl, rfl, trivial⟩ (At_S b m _ _) rfl ?_)
              rintro v Θ ⟨rfl, rfl⟩
              refine S.op (S.q (q_move rfl) rfl rfl ?_)
              refine S.op (S.q (q_ne rfl rfl) rfl rfl ?_)
              first | with_reducible refine S.nilK ?_ | refine S.nil ?_
              refine hK25 _ _ ?_
              refine S.condD rfl (fun h7 => ?_) (fun h7 => ?_)
              · first | exact absurd rfl h7 | (rw [hat] at h7; exact absurd rfl h7)
              · refine S.skip ?_
                with_reducible repeat (first | refine S.then_n ?_ | refine S.then_x ?_ | refine S.then_r ?_ | refine S.inBlock_n ?_ | refine S.inBlock_r ?_ | refine S.inBlock_x rfl ?_ | refine S.noGoto_r ?_ | refine S.noGoto_n ?_ | refine S.noGoto_x ?_)
                with_reducible repeat (first | refine S.then_n ?_ | refine S.then_x ?_ | refine S.then_r ?_ | refine S.inBlock_n ?_ | refine S.inBlock_r ?_ | refine S.inBlock_x rfl ?_ | refine S.noGoto_r ?_ | refine S.noGoto_n ?_ | refine S.noGoto_x ?_)
                refine hK20 _ _ ?_
                refine S.region rfl ?_
                refine S.op (S.q (q_add rfl rfl (inI64 (by omega) (by omega))) rfl rfl ?_)
                refine S.op (S.q (q_move rfl) rfl rfl ?_)
                first | with_reducible refine S.nilK ?_ | refine S.nil ?_
                with_reducible repeat (first | refine S.then_n ?_ | refine S.then_x ?_ | refine S.then_r ?_ | refine S.inBlock_n ?_ | refine S.inBlock_r ?_ | refine S.inBlock_x rfl ?_ | refine S.noGoto_r ?_ | refine S.noGoto_n ?_ | refine S.noGoto_x ?_)
                exact S.next (q2 - 1) (⟨e + 1, by omega, by omega, rfl, rfl⟩) (by omega) (by repeat (first | exact trivial | refine ⟨rfl, ?_⟩)) Sub.ent
            · have hat := at_not h6
              refine S.skip ?_
              with_reducible repeat (first | refine S.then_n ?_ | refine S.then_x ?_ | refine S.then_r ?_ | refine S.inBlock_n ?_ | refine S.inBlock_r ?_ | refine S.inBlock_x rfl ?_ | refine S.noGoto_r ?_ | refine S.noGoto_n ?_ | refine S.noGoto_x ?_)
              refine hK23 _ _ ?_
              refine S.seq fun K26 hK26 => ?_
              refine S.region rfl ?_
              refine S.op (S.q (q_move rfl) rfl rfl ?_)
              refine S.op (S.q (q_move rfl) rfl rfl ?_)
              refine S.op (S.q (q_move rfl) rfl rfl ?_)
              refine S.op (S.call Tryd.en47 (vs := [_, _, _]) ⟨rfl, rfl, rfl, trivial⟩ (At_S b m _ _) rfl ?_)
              rintro v Θ ⟨rfl, rfl⟩
              refine S.op (S.q (q_move rfl) rfl rfl ?_)
              refine S.op (S.q (q_ne rfl rfl) rfl rfl ?_)
              first | with_reducible refine S.nilK ?_ | refine S.nil ?_
              refine hK26 _ _ ?_
              refine S.condD rfl (fun h7 => ?_) (fun h7 => ?_)
              · first | exact absurd rfl h7 | (rw [hat] at h7; exact absurd rfl h7)
              · refine S.skip ?_
                with_reducible repeat (first | refine S.then_n ?_ | refine S.then_x ?_ | refine S.then_r ?_ | refine S.inBlock_n ?_ | refine S.inBlock_r ?_ | refine S.inBlock_x rfl ?_ | refine S.noGoto_r ?_ | refine S.noGoto_n ?_ | refine S.noGoto_x ?_)
                with_reducible repeat (first | refine S.then_n ?_ | refine S.then_x ?_ | refine S.then_r ?_ | refine S.inBlock_n ?_ | refine S.inBlock_r ?_ | refine S.inBlock_x rfl ?_ | refine S.noGoto_r ?_ | refine S.noGoto_n ?_ | refine S.noGoto_x ?_)
                refine hK20 _ _ ?_
                refine S.region rfl ?_
                refine S.op (S.q (q_add rfl rfl (inI64 (by omega) (by omega))) rfl rfl ?_)
                refine S.op (S.q (q_move rfl) rfl rfl ?_)
                first | with_reducible refine S.nilK ?_ | refine S.nil ?_
                with_reducible repeat (first | refine S.then_n ?_ | refine S.then_x ?_ | refine S.then_r ?_ | refine S.inBlock_n ?_ | refine S.inBlock_r ?_ | refine S.inBlock_x rfl ?_ | refine S.noGoto_r ?_ | refine S.noGoto_n ?_ | refine S.noGoto_x ?_)
                exact S.next (q2 - 1) (⟨e + 1, by omega, by omega, rfl, rfl⟩) (by omega) (by repeat (first | exact trivial | refine ⟨rfl, ?_⟩)) Sub.ent
        · skip
          refine S.exit ?_
          with_reducible repeat (first | refine S.then_n ?_ | refine S.then_x ?_ | refine S.then_r ?_ | refine S.inBlock_n ?_ | refine S.inBlock_r ?_ | refine S.inBlock_x rfl ?_ | refine S.noGoto_r ?_ | refine S.noGoto_n ?_ | refine S.noGoto_x ?_)
          with_reducible refine S.inBlock_s ?_
          with_reducible repeat (first | refine S.then_n ?_ | refine S.then_x ?_ | refine S.then_r ?_ | refine S.inBlock_n ?_ | refine S.inBlock_r ?_ | refine S.inBlock_x rfl ?_ | refine S.noGoto_r ?_ | refine S.noGoto_n ?_ | refine S.noGoto_x ?_)
          with_reducible repeat (first | refine S.then_n ?_ | refine S.then_x ?_ | refine S.then_r ?_ | refine S.inBlock_n ?_ | refine S.inBlock_r ?_ | refine S.inBlock_x rfl ?_ | refine S.noGoto_r ?_ | refine S.noGoto_n ?_ | refine S.noGoto_x ?_)
          refine hK11 _ _ ?_
          refine S.region rfl ?_
          refine S.op (S.q (q_add rfl rfl (inI64 (by omega) (by omega))) rfl rfl ?_)
          refine S.op (S.q (q_move rfl) rfl rfl ?_)
          first | with_reducible refine S.nilK ?_ | refine S.nil ?_
          with_reducible repeat (first | refine S.then_n ?_ | refine S.then_x ?_ | refine S.then_r ?_ | refine S.inBlock_n ?_ | refine S.inBlock_r ?_ | refine S.inBlock_x rfl ?_ | refine S.noGoto_r ?_ | refine S.noGoto_n ?_ | refine S.noGoto_x ?_)
          exact S.next (q - 1) (⟨k + 1, by omega, by omega, rfl, rfl⟩) (by omega) (by repeat (first | exact trivial | refine ⟨rfl, ?_⟩)) Sub.ent
    · refine S.exit ?_
      with_reducible repeat (first | refine S.then_n ?_ | refine S.then_x ?_ | refine S.then_r ?_ | refine S.inBlock_n ?_ | refine S.inBlock_r ?_ | refine S.inBlock_x rfl ?_ | refine S.noGoto_r ?_ | refine S.noGoto_n ?_ | refine S.noGoto_x ?_)
      with_reducible refine S.inBlock_s ?_
      with_reducible repeat (first | refine S.then_n ?_ | refine S.then_x ?_ | refine S.then_r ?_ | refine S.inBlock_n ?_ | refine S.inBlock_r ?_ | refine S.inBlock_x rfl ?_ | refine S.noGoto_r ?_ | refine S.noGoto_n ?_ | refine S.noGoto_x ?_)
      refine hK7 _ _ ?_
      refine S.seq fun K27 hK27 => ?_
      refine S.seq fun K28 hK28 => ?_
      refine S.region rfl ?_
      refine S.op (S.buildSlice (pvs := [(_, _), (_, _)]) [_, _] Tryd.underlying31 Tryd.inf68 rfl rfl ⟨⟨rfl, rfl⟩, ⟨rfl, rfl⟩, trivial⟩ rfl rfl ?_)
      intro b218
      refine S.op (S.q (q_move rfl) rfl rfl ?_)
      refine S.op (S.call Tryd.en68 (vs := [_]) ⟨rfl, trivial⟩ (rJobs_S c m) rfl ?_)
      rintro v Θ ⟨j3, rfl, hj3, rfl⟩
      refine S.ownLen j3 fun hj3a hj3b hj3c => ?_
      refine S.conv (blk b218 68 #[.int .u32 0, .int .u32 77]) (show Ent _ (own ⟨some ⟨b218, 0, none⟩, 2, 2⟩ 68 1 [.int .u32 0, .int .u32 77] :: _) from Ent.blkOwnL b218 68 1 2 _ rfl (by unfold maxLen; omega) _) ?_
      refine S.op (S.appendOw (s := ⟨some ⟨b218, 0, none⟩, 2, 2⟩) (j3.n) (idsV (jobIds m)) Tryd.underlying31 Tryd.inf68 rfl rfl rfl (fun w hs => HasOw.slAt inferInstance hs) (idsV_one _) (⟨by have := sum_lens m hm; show (2 + j3.n) * 4 ≤ _; rw [hj3, List.length_map]; omega, by have := sum_lens m hm; show 2 + j3.n ≤ _; rw [hj3, List.length_map]; omega⟩) rfl ?_)
      intro jv hjv
      have hjv : jv.n = 2 + j3.n := hjv
      rw [jobs77]
      refine S.op (S.q (q_len Tryd.underlying31 rfl) rfl rfl ?_)
      refine S.op (S.q (q_move rfl) rfl rfl ?_)
      first | with_reducible refine S.nilK ?_ | refine S.nil ?_
      refine hK28 _ _ ?_
      refine S.block ?_
      refine S.loop (fun q3 ρ' Γ' => ∃ k : Nat, q3 = (jobIds m).length + 2 - k ∧ k ≤ (jobIds m).length + 2 ∧ ρ' = [(0, .pointer (some ⟨b, 0, none⟩)), (1, .pointer (some ⟨c, 0, none⟩)), (221, jv.v), (222, .int .i64 (jv.n : Int)), (223, .int .i64 (k : Int))] ∧   Γ' = own jv 68 1 (idsV (0 :: 77 :: jobIds m)) :: MI b m :: RI c m :: old W :: Γ) (m := _) (ρ0 := _) (Γ0 := _) (⟨0, rfl, by omega, rfl, rfl⟩) (by repeat (first | exact trivial | refine ⟨rfl, ?_⟩)) Sub.ent ?_
      rintro q3 ρ' Γ' ⟨k, hq3, hk, rfl, rfl⟩
      have hjv2 : jv.n = (jobIds m).length + 2 := by rw [hj3] at hjv; show _ = (m.js.map (·.id)).length + 2; omega
      refine S.seq fun K29 hK29 => ?_
      refine S.region rfl ?_
      refine S.op (S.q (q_lt rfl rfl) rfl rfl ?_)
      first | with_reducible refine S.nilK ?_ | refine S.nil ?_
      refine hK29 _ _ ?_
      refine S.seq fun K30 hK30 => ?_
      refine S.condD rfl (fun h8 => ?_) (fun h8 => ?_)
      · refine S.ownSome jv (by omega) fun jb jo hja _ _ _ => ?_
        obtain ⟨j, hj⟩ := getE (show k < (0 :: 77 :: jobIds m).length by simp only [List.length_cons]; omega)
        obtain ⟨r, nl, ok, hof⟩ : ∃ r nl ok, ofR m j = (r, nl, ok) := ⟨_, _, _, rfl⟩
        refine S.skip ?_
        with_reducible repeat (first | refine S.then_n ?_ | refine S.then_x ?_ | refine S.then_r ?_ | refine S.inBlock_n ?_ | refine S.inBlock_r ?_ | refine S.inBlock_x rfl ?_ | refine S.noGoto_r ?_ | refine S.noGoto_n ?_ | refine S.noGoto_x ?_)
        refine hK30 _ _ ?_
        refine S.seq fun K31 hK31 => ?_
        refine S.block ?_
        refine S.seq fun K32 hK32 => ?_
        refine S.region rfl ?_
        refine S.op (S.q (q_indexO (k) Tryd.el31 rfl hja rfl rfl (by omega)) rfl rfl ?_)
        refine S.op (S.q (q_loadOw (jv) (k) Tryd.at68 rfl hja (by first | rfl | exact Nat.add_assoc _ _ _ | omega) (idsV_get hj)) rfl rfl ?_)
        refine S.op (S.q (q_assign rfl) rfl rfl ?_)
        first | with_reducible refine S.nilK ?_ | refine S.nil ?_
        refine hK32 _ _ ?_
        refine S.seq fun K33 hK33 => ?_
        refine S.region rfl ?_
        refine S.op (S.q (q_move rfl) rfl rfl ?_)
        refine S.op (S.q (q_move rfl) rfl rfl ?_)
        refine S.op (S.call Tryd.en72 (vs := [_, _]) ⟨rfl, rfl, trivial⟩ (Of_S b m j hW) rfl ?_)
        rintro v Θ ⟨s1, rfl, hs1, rfl⟩
        rw [hof] at hs1 ⊢
        refine S.op (S.q (q_move rfl) rfl rfl ?_)
        refine S.op (S.q (q_extract rfl rfl) rfl rfl ?_)
        refine S.op (S.q (q_extract rfl rfl) rfl rfl ?_)
        refine S.op (S.q (q_extract rfl rfl) rfl rfl ?_)
        refine S.op (S.q (q_assign rfl) rfl rfl ?_)
        refine S.op (S.q (q_assign rfl) rfl rfl ?_)
        refine S.op (S.q (q_assign rfl) rfl rfl ?_)
        first | with_reducible refine S.nilK ?_ | refine S.nil ?_
        refine hK33 _ _ ?_
        refine S.seq fun K34 hK34 => ?_
        refine S.region rfl ?_
        refine S.op (S.q (q_move rfl) rfl rfl ?_)
        refine S.op (S.q (q_move rfl) rfl rfl ?_)
        refine S.op (S.call Tryd.en46 (vs := [_, _]) ⟨rfl, rfl, trivial⟩ (rOf_S c m j) rfl ?_)
        rintro v Θ ⟨s2, rfl, hs2, rfl⟩
        rw [hof] at hs2 ⊢
        refine S.op (S.q (q_move rfl) rfl rfl ?_)
        refine S.op (S.q (q_extract rfl rfl) rfl rfl ?_)
        refine S.op (S.q (q_extract rfl rfl) rfl rfl ?_)
        refine S.op (S.q (q_extract rfl rfl) rfl rfl ?_)
        refine S.op (S.q (q_assign rfl) rfl rfl ?_)
        refine S.op (S.q (q_assign rfl) rfl rfl ?_)
        refine S.op (S.q (q_assign rfl) rfl rfl ?_)
        first | with_reducible refine S.nilK ?_ | refine S.nil ?_
        refine hK34 _ _ ?_
        refine S.seq fun K35 hK35 => ?_
        refine S.regionG ?_
        refine S.g_op rfl (S.q (q_move rfl) rfl rfl ?_)
        refine S.g_op rfl (S.q (q_move rfl) rfl rfl ?_)
        refine S.g_op rfl (S.q (q_ne rfl rfl) rfl rfl ?_)
        refine S.g_op rfl (S.q (q_move rfl) rfl rfl ?_)
        refine S.g_yes rfl rfl rfl ((decide_eq_false (fun h => h rfl))) (S.q (q_move rfl) rfl rfl ?_)
        refine S.g_yes rfl rfl rfl ((decide_eq_false (fun h => h rfl))) (S.q (q_move rfl) rfl rfl ?_)
        refine S.g_yes rfl rfl rfl ((decide_eq_false (fun h => h rfl))) (S.q (q_neB Tryd.underlying4 rfl rfl) rfl rfl ?_)
        refine S.g_op rfl (S.q (q_pickF rfl ((decide_eq_false (fun h => h rfl))) rfl) rfl rfl ?_)
        refine S.g_op rfl (S.q (q_move rfl) rfl rfl ?_)
        refine S.g_yes rfl rfl rfl ((by simp)) (S.q (q_move rfl) rfl rfl ?_)
        refine S.g_yes rfl rfl rfl ((by simp)) (S.q (q_move rfl) rfl rfl ?_)
        refine S.g_yes rfl rfl rfl ((by simp)) (S.call Tryd.en29 (vs := [_, _]) ⟨rfl, rfl, trivial⟩ (SameInts_S (own s1 3 1 (nds nl)) (own s2 3 1 (nds nl)) s1 s2 (casts nl) (casts nl) (rdNds s1 3 nl) (rdNds s2 3 nl) (by rw [List.length_map]; exact hs1) (by rw [List.length_map]; exact hs2)) rfl ?_)
        rintro v Θ ⟨rfl, rfl⟩
        refine S.g_yes rfl rfl rfl ((by simp)) (S.q (q_not rfl) rfl rfl ?_)
        refine S.g_op rfl (S.q (q_pickF rfl ((by simp)) rfl) rfl rfl ?_)
        first | with_reducible refine S.g_nilK ?_ | refine S.g_nil ?_
        refine hK35 _ _ ?_
        refine S.cond rfl (fun h9 => ?_) (fun h9 => ?_)
        · exact absurd h9 (by simp)
        · refine S.skip ?_
          with_reducible repeat (first | refine S.then_n ?_ | refine S.then_x ?_ | refine S.then_r ?_ | refine S.inBlock_n ?_ | refine S.inBlock_r ?_ | refine S.inBlock_x rfl ?_ | refine S.noGoto_r ?_ | refine S.noGoto_n ?_ | refine S.noGoto_x ?_)
          with_reducible repeat (first | refine S.then_n ?_ | refine S.then_x ?_ | refine S.then_r ?_ | refine S.inBlock_n ?_ | refine S.inBlock_r ?_ | refine S.inBlock_x rfl ?_ | refine S.noGoto_r ?_ | refine S.noGoto_n ?_ | refine S.noGoto_x ?_)
          refine hK31 _ _ ?_
          refine S.region rfl ?_
          refine S.op (S.q (q_add rfl rfl (inI64 (by omega) (by omega))) rfl rfl ?_)
          refine S.op (S.q (q_move rfl) rfl rfl ?_)
          first | with_reducible refine S.nilK ?_ | refine S.nil ?_
          with_reducible repeat (first | refine S.then_n ?_ | refine S.then_x ?_ | refine S.then_r ?_ | refine S.inBlock_n ?_ | refine S.inBlock_r ?_ | refine S.inBlock_x rfl ?_ | refine S.noGoto_r ?_ | refine S.noGoto_n ?_ | refine S.noGoto_x ?_)
          exact S.next (q3 - 1) (⟨k + 1, by omega, by omega, rfl, rfl⟩) (by omega) (by repeat (first | exact trivial | refine ⟨rfl, ?_⟩)) Sub.ent
      · skip
        refine S.exit ?_
        with_reducible repeat (first | refine S.then_n ?_ | refine S.then_x ?_ | refine S.then_r ?_ | refine S.inBlock_n ?_ | refine S.inBlock_r ?_ | refine S.inBlock_x rfl ?_ | refine S.noGoto_r ?_ | refine S.noGoto_n ?_ | refine S.noGoto_x ?_)
        with_reducible refine S.inBlock_s ?_
        with_reducible repeat (first | refine S.then_n ?_ | refine S.then_x ?_ | refine S.then_r ?_ | refine S.inBlock_n ?_ | refine S.inBlock_r ?_ | refine S.inBlock_x rfl ?_ | refine S.noGoto_r ?_ | refine S.noGoto_n ?_ | refine S.noGoto_x ?_)
        refine hK27 _ _ ?_
        refine S.seq fun K36 hK36 => ?_
        refine S.region rfl ?_
        refine S.op (S.q (q_assign rfl) rfl rfl ?_)
        first | with_reducible refine S.nilK ?_ | refine S.nil ?_
        refine hK36 _ _ ?_
        refine S.ret ?_
        with_reducible repeat (first | refine S.then_n ?_ | refine S.then_x ?_ | refine S.then_r ?_ | refine S.inBlock_n ?_ | refine S.inBlock_r ?_ | refine S.inBlock_x rfl ?_ | refine S.noGoto_r ?_ | refine S.noGoto_n ?_ | refine S.noGoto_x ?_)
        exact S.fin (rs := [_]) (vs := [_]) Tryd.results36 (⟨rfl, trivial⟩)  (⟨rfl, rfl⟩) Sub.ent
theorem alikeNil_S (far : Int) : Spec Tryd.prog 36 [.pointer none, .pointer none, .int .i64 far] [] fun Γ v Θ => v = .bool true ∧ Θ = Γ := by
  refine Spec.of_body Tryd.func36 rfl Tryd.ntmps36 rfl ?_
  intro w0 Γ
  show S _ w0 [(0, .pointer none), (1, .pointer none), (2, .int .i64 far)] Γ _
  refine S.seq fun K1 hK1 => ?_
  refine S.region rfl ?_
  refine S.op (S.q (q_assign rfl) rfl rfl ?_)
  first | with_reducible refine S.nilK ?_ | refine S.nil ?_
  refine hK1 _ _ ?_
  refine S.seq fun K2 hK2 => ?_
  refine S.region rfl ?_
  refine S.op (S.q (q_move rfl) rfl rfl ?_)
  refine S.op (S.call Tryd.en37 (vs := [_]) ⟨rfl, trivial⟩ (NSize_S) rfl ?_)
  rintro v Θ ⟨rfl, hG⟩
  rw [hG]
  refine S.op (S.q (q_move rfl) rfl rfl ?_)
  refine S.op (S.q (q_extract rfl rfl) rfl rfl ?_)
  refine S.op (S.q (q_extract rfl rfl) rfl rfl ?_)
  refine S.op (S.q (q_assign rfl) rfl rfl ?_)
  refine S.op (S.q (q_assign rfl) rfl rfl ?_)
  first | with_reducible refine S.nilK ?_ | refine S.nil ?_
  refine hK2 _ _ ?_
  refine S.seq fun K3 hK3 => ?_
  refine S.seq fun K4 hK4 => ?_
  refine S.region rfl ?_
  refine S.op (S.q (q_move rfl) rfl rfl ?_)
  refine S.op (S.q (q_eqN Tryd.underlying26 rfl rfl) rfl rfl ?_)
  first | with_reducible refine S.nilK ?_ | refine S.nil ?_
  refine hK4 _ _ ?_
  refine S.condT rfl ?_
  refine S.seq fun K5 hK5 => ?_
  refine S.region rfl ?_
  refine S.op (S.q (q_move rfl) rfl rfl ?_)
  refine S.op (S.call Tryd.en54 (vs := [_, _]) ⟨rfl, rfl, trivial⟩ (NNext_S 0) rfl ?_)
  rintro v Θ ⟨rfl, hG⟩
  rw [hG]
  refine S.op (S.q (q_move rfl) rfl rfl ?_)
  refine S.op (S.q (q_extract rfl rfl) rfl rfl ?_)
  refine S.op (S.q (q_extract rfl rfl) rfl rfl ?_)
  refine S.op (S.q (q_assign rfl) rfl rfl ?_)
  refine S.op (S.q (q_assign rfl) rfl rfl ?_)
  first | with_reducible refine S.nilK ?_ | refine S.nil ?_
  refine hK5 _ _ ?_
  refine S.seq fun K6 hK6 => ?_
  refine S.regionG ?_
  refine S.g_op rfl (S.q (q_move rfl) rfl rfl ?_)
  refine S.g_op rfl (S.q (q_eq rfl rfl) rfl rfl ?_)
  refine S.g_op rfl (S.q (q_move rfl) rfl rfl ?_)
  refine S.g_yes rfl rfl rfl ((decide_eq_true rfl)) (S.q (q_move rfl) rfl rfl ?_)
  refine S.g_yes rfl rfl rfl ((decide_eq_true rfl)) (S.q (q_eq rfl rfl) rfl rfl ?_)
  refine S.g_op rfl (S.q (q_pickT rfl ((decide_eq_true rfl)) rfl) rfl rfl ?_)
  refine S.g_op rfl (S.q (q_move rfl) rfl rfl ?_)
  refine S.g_yes rfl rfl rfl ((decide_eq_true rfl)) (S.q (q_move rfl) rfl rfl ?_)
  refine S.g_yes rfl rfl rfl ((decide_eq_true rfl)) (S.call Tryd.en66 (vs := [_]) ⟨rfl, trivial⟩ (NJobs_S) rfl ?_)
  rintro v Θ ⟨rfl, hG⟩
  rw [hG]
  refine S.g_yes rfl rfl rfl ((decide_eq_true rfl)) (S.q (q_len Tryd.underlying31 rfl) rfl rfl ?_)
  refine S.g_yes rfl rfl rfl ((decide_eq_true rfl)) (S.q (q_eq rfl rfl) rfl rfl ?_)
  refine S.g_op rfl (S.q (q_pickT rfl ((decide_eq_true rfl)) rfl) rfl rfl ?_)
  refine S.g_op rfl (S.q (q_move rfl) rfl rfl ?_)
  refine S.g_yes rfl rfl rfl ((decide_eq_true rfl)) (S.q (q_move rfl) rfl rfl ?_)
  refine S.g_yes rfl rfl rfl ((decide_eq_true rfl)) (S.q (q_not rfl) rfl rfl ?_)
  refine S.g_op rfl (S.q (q_pickT rfl ((decide_eq_true rfl)) rfl) rfl rfl ?_)
  refine S.g_op rfl (S.q (q_move rfl) rfl rfl ?_)
  refine S.g_yes rfl rfl rfl (rfl) (S.q (q_move rfl) rfl rfl ?_)
  refine S.g_yes rfl rfl rfl (rfl) (S.call Tryd.en25 (vs := [_]) ⟨rfl, trivial⟩ (NCopy_S) rfl ?_)
  rintro v Θ ⟨rfl, hG⟩
  rw [hG]
  refine S.g_yes rfl rfl rfl (rfl) (S.q (q_eqN Tryd.underlying25 rfl rfl) rfl rfl ?_)
  refine S.g_op rfl (S.q (q_pickT rfl (rfl) rfl) rfl rfl ?_)
  refine S.g_op rfl (S.q (q_move rfl) rfl rfl ?_)
  refine S.g_yes rfl rfl rfl (rfl) (S.q (q_move rfl) rfl rfl ?_)
  refine S.g_yes rfl rfl rfl (rfl) (S.call Tryd.en47 (vs := [_, _, _]) ⟨rfl, rfl, rfl, trivial⟩ (NAt_S 0 0) rfl ?_)
  rintro v Θ ⟨rfl, hG⟩
  rw [hG]
  refine S.g_yes rfl rfl rfl (rfl) (S.q (q_eq rfl rfl) rfl rfl ?_)
  refine S.g_op rfl (S.q (q_pickT rfl (rfl) rfl) rfl rfl ?_)
  refine S.g_op rfl (S.q (q_move rfl) rfl rfl ?_)
  refine S.g_yes rfl rfl rfl ((decide_eq_true rfl)) (S.q (q_move rfl) rfl rfl ?_)
  refine S.g_yes rfl rfl rfl ((decide_eq_true rfl)) (S.call Tryd.en52 (vs := [_, _]) ⟨rfl, rfl, trivial⟩ (NRow_S 0) rfl ?_)
  rintro v Θ ⟨rfl, hG⟩
  rw [hG]
  refine S.g_yes rfl rfl rfl ((decide_eq_true rfl)) (S.q (q_len Tryd.underlying31 rfl) rfl rfl ?_)
  refine S.g_yes rfl rfl rfl ((decide_eq_true rfl)) (S.q (q_eq rfl rfl) rfl rfl ?_)
  refine S.g_op rfl (S.q (q_pickT rfl ((decide_eq_true rfl)) rfl) rfl rfl ?_)
  refine S.g_op rfl (S.q (q_move rfl) rfl rfl ?_)
  refine S.g_yes rfl rfl rfl ((decide_eq_true rfl)) (S.q (q_move rfl) rfl rfl ?_)
  refine S.g_yes rfl rfl rfl ((decide_eq_true rfl)) (S.call Tryd.en55 (vs := [_, _]) ⟨rfl, rfl, trivial⟩ (NFill_S 0) rfl ?_)
  rintro v Θ ⟨rfl, hG⟩
  rw [hG]
  refine S.g_yes rfl rfl rfl ((decide_eq_true rfl)) (S.q (q_len Tryd.underlying31 rfl) rfl rfl ?_)
  refine S.g_yes rfl rfl rfl ((decide_eq_true rfl)) (S.q (q_eq rfl rfl) rfl rfl ?_)
  refine S.g_op rfl (S.q (q_pickT rfl ((decide_eq_true rfl)) rfl) rfl rfl ?_)
  refine S.g_op rfl (S.q (q_move rfl) rfl rfl ?_)
  refine S.g_yes rfl rfl rfl ((decide_eq_true rfl)) (S.q (q_move rfl) rfl rfl ?_)
  refine S.g_yes rfl rfl rfl ((decide_eq_true rfl)) (S.call Tryd.en67 (vs := [_, _]) ⟨rfl, rfl, trivial⟩ (NFree_S 0) rfl ?_)
  rintro v Θ ⟨rfl, hG⟩
  rw [hG]
  refine S.g_yes rfl rfl rfl ((decide_eq_true rfl)) (S.q (q_eq rfl rfl) rfl rfl ?_)
  refine S.g_op rfl (S.q (q_pickT rfl ((decide_eq_true rfl)) rfl) rfl rfl ?_)
  refine S.g_op rfl (S.q (q_move rfl) rfl rfl ?_)
  refine S.g_yes rfl rfl rfl ((decide_eq_true rfl)) (S.q (q_move rfl) rfl rfl ?_)
  refine S.g_yes rfl rfl rfl ((decide_eq_true rfl)) (S.call Tryd.en35 (vs := [_, _]) ⟨rfl, rfl, trivial⟩ (NIsUp_S 0) rfl ?_)
  rintro v Θ ⟨rfl, hG⟩
  rw [hG]
  refine S.g_yes rfl rfl rfl ((decide_eq_true rfl)) (S.q (q_not rfl) rfl rfl ?_)
  refine S.g_op rfl (S.q (q_pickT rfl ((decide_eq_true rfl)) rfl) rfl rfl ?_)
  refine S.g_op rfl (S.q (q_assign rfl) rfl rfl ?_)
  first | with_reducible refine S.g_nilK ?_ | refine S.g_nil ?_
  refine hK6 _ _ ?_
  refine S.ret ?_
  with_reducible repeat (first | refine S.then_n ?_ | refine S.then_x ?_ | refine S.then_r ?_ | refine S.inBlock_n ?_ | refine S.inBlock_r ?_ | refine S.inBlock_x rfl ?_ | refine S.noGoto_r ?_ | refine S.noGoto_n ?_ | refine S.noGoto_x ?_)
  exact S.fin (rs := [_]) (vs := [_]) Tryd.results36 (⟨rfl, trivial⟩)  (⟨rfl, rfl⟩) Sub.ent
end Go.Proofs.YtegjmmocnffpiaaDoor
/- The laws of rows: awake, build. -/
namespace Go.Proofs.YtegjmmocnffpiaaDoor
open Go.RowKit
set_option maxRecDepth 20000
def am1 : Mx := (placeR (mx0 2 3) 1 2).2
def am2 : Mx := (placeR am1 2 2).2
def am3 : Mx := (placeR am2 3 1).2
theorem awake_facts : (placeR am1 2 2).1.1 = 1 ∧ (placeR am2 3 1).1.2.1 = [2] ∧ fillIds am3 0 = [] ∧ fillIds am3 1 = [3] ∧ (nextR am3 1).1 = 0 :=
  ⟨by kernel_rfl, by kernel_rfl, by kernel_rfl, by kernel_rfl, by kernel_rfl⟩
theorem awake_S {W : World} (hW : TabW W) : Spec Tryd.prog 22 [] [old W] fun Γ v Θ => v = .bool true ∧ Θ = old W :: Γ := by
  refine Spec.of_body Tryd.func22 rfl Tryd.ntmps22 rfl ?_
  intro w0 Γ
  obtain ⟨f1, f2, f3, f4, f5⟩ := awake_facts
  show S _ w0 [] (old W :: Γ) _
  refine S.seq fun K1 hK1 => ?_
  refine S.region rfl ?_
  refine S.op (S.q (q_assign rfl) rfl rfl ?_)
  first | with_reducible refine S.nilK ?_ | refine S.nil ?_
  refine hK1 _ _ ?_
  refine S.seq fun K2 hK2 => ?_
  refine S.region rfl ?_
  refine S.op (S.call Tryd.en23 (vs := [_, _]) ⟨rfl, rfl, trivial⟩ (New_S 2 3 (by omega) (by omega) (by omega) (by omega)) rfl ?_)
  rintro v Θ ⟨b, rfl, rfl⟩
  refine S.op (S.q (q_move rfl) rfl rfl ?_)
  refine S.op (S.q (q_extract rfl rfl) rfl rfl ?_)
  refine S.op (S.q (q_extract rfl rfl) rfl rfl ?_)
  refine S.op (S.q (q_assign rfl) rfl rfl ?_)
  refine S.op (S.q (q_assign rfl) rfl rfl ?_)
  first | with_reducible refine S.nilK ?_ | refine S.nil ?_
  refine hK2 _ _ ?_
  refine S.seq fun K3 hK3 => ?_
  refine S.seq fun K4 hK4 => ?_
  refine S.regionG ?_
  refine S.g_op rfl (S.q (q_move rfl) rfl rfl ?_)
  refine S.g_op rfl (S.q (q_ne rfl rfl) rfl rfl ?_)
  refine S.g_op rfl (S.q (q_move rfl) rfl rfl ?_)
  refine S.g_yes rfl rfl rfl (rfl) (S.q (q_move rfl) rfl rfl ?_)
  refine S.g_yes rfl rfl rfl (rfl) (S.q (q_eqN Tryd.underlying25 rfl rfl) rfl rfl ?_)
  refine S.g_op rfl (S.q (q_pickF rfl (rfl) rfl) rfl rfl ?_)
  first | with_reducible refine S.g_nilK ?_ | refine S.g_nil ?_
  refine hK4 _ _ ?_
  refine S.condF rfl ?_
  refine S.skip ?_
  with_reducible repeat (first | refine S.then_n ?_ | refine S.then_x ?_ | refine S.then_r ?_ | refine S.inBlock_n ?_ | refine S.inBlock_r ?_ | refine S.inBlock_x rfl ?_ | refine S.noGoto_r ?_ | refine S.noGoto_n ?_ | refine S.noGoto_x ?_)
  refine hK3 _ _ ?_
  refine S.seq fun K5 hK5 => ?_
  refine S.region rfl ?_
  refine S.op (S.q (q_move rfl) rfl rfl ?_)
  refine S.op (S.call Tryd.en27 (vs := [_, _, _]) ⟨rfl, rfl, rfl, trivial⟩ (Place_S b (mx0 2 3) 1 2 (by omega) (by omega) hW) rfl ?_)
  rintro v Θ ⟨s1, rfl, hs1, rfl⟩
  rw [show (placeR (mx0 2 3) 1 2).2 = am1 from rfl]
  first | with_reducible refine S.nilK ?_ | refine S.nil ?_
  refine hK5 _ _ ?_
  refine S.seq fun K6 hK6 => ?_
  refine S.region rfl ?_
  refine S.op (S.q (q_move rfl) rfl rfl ?_)
  refine S.op (S.call Tryd.en27 (vs := [_, _, _]) ⟨rfl, rfl, rfl, trivial⟩ (Place_S b am1 2 2 (by omega) (by omega) hW) rfl ?_)
  rintro v Θ ⟨s2, rfl, hs2, rfl⟩
  rw [show (placeR am1 2 2).2 = am2 from rfl]
  refine S.op (S.q (q_move rfl) rfl rfl ?_)
  refine S.op (S.q (q_extract rfl rfl) rfl rfl ?_)
  refine S.op (S.q (q_extract rfl rfl) rfl rfl ?_)
  refine S.op (S.q (q_extract rfl rfl) rfl rfl ?_)
  refine S.op (S.q (q_assign rfl) rfl rfl ?_)
  refine S.op (S.q (q_assign rfl) rfl rfl ?_)
  refine S.op (S.q (q_assign rfl) rfl rfl ?_)
  first | with_reducible refine S.nilK ?_ | refine S.nil ?_
  refine hK6 _ _ ?_
  refine S.seq fun K7 hK7 => ?_
  refine S.region rfl ?_
  refine S.op (S.q (q_move rfl) rfl rfl ?_)
  refine S.op (S.call Tryd.en27 (vs := [_, _, _]) ⟨rfl, rfl, rfl, trivial⟩ (Place_S b am2 3 1 (by omega) (by omega) hW) rfl ?_)
  rintro v Θ ⟨s3, rfl, hs3, rfl⟩
  rw [show (placeR am2 3 1).2 = am3 from rfl]
  rw [f2] at hs3 ⊢
  refine S.op (S.q (q_move rfl) rfl rfl ?_)
  refine S.op (S.q (q_extract rfl rfl) rfl rfl ?_)
  refine S.op (S.q (q_extract rfl rfl) rfl rfl ?_)
  refine S.op (S.q (q_extract rfl rfl) rfl rfl ?_)
  refine S.op (S.q (q_assign rfl) rfl rfl ?_)
  refine S.op (S.q (q_assign rfl) rfl rfl ?_)
  refine S.op (S.q (q_assign rfl) rfl rfl ?_)
  first | with_reducible refine S.nilK ?_ | refine S.nil ?_
  refine hK7 _ _ ?_
  refine S.seq fun K8 hK8 => ?_
  refine S.region rfl ?_
  refine S.op (S.q (q_move rfl) rfl rfl ?_)
  refine S.op (S.call Tryd.en54 (vs := [_, _]) ⟨rfl, rfl, trivial⟩ (Next_S b am3 1) rfl ?_)
  rintro v Θ ⟨rfl, rfl⟩
  refine S.op (S.q (q_move rfl) rfl rfl ?_)
  refine S.op (S.q (q_extract rfl rfl) rfl rfl ?_)
  refine S.op (S.q (q_extract rfl rfl) rfl rfl ?_)
  refine S.op (S.q (q_assign rfl) rfl rfl ?_)
  refine S.op (S.q (q_assign rfl) rfl rfl ?_)
  first | with_reducible refine S.nilK ?_ | refine S.nil ?_
  refine hK8 _ _ ?_
  refine S.seq fun K9 hK9 => ?_
  refine S.regionG ?_
  refine S.g_op rfl (S.q (q_move rfl) rfl rfl ?_)
  refine S.g_op rfl (S.q (q_eq rfl rfl) rfl rfl ?_)
  refine S.g_op rfl (S.q (q_move rfl) rfl rfl ?_)
  refine S.g_yes rfl rfl rfl ((decide_eq_true f1)) (S.q (q_move rfl) rfl rfl ?_)
  refine S.g_yes rfl rfl rfl ((decide_eq_true f1)) (S.buildSlice (pvs := [(_, _)]) [_] Tryd.underlying69 Tryd.inf3 rfl rfl ⟨⟨rfl, rfl⟩, trivial⟩ rfl rfl ?_)
  intro b44
  refine S.g_yes rfl rfl rfl ((decide_eq_true f1)) (S.call Tryd.en29 (vs := [_, _]) ⟨rfl, rfl, trivial⟩ (SameInts_S (own s3 3 1 (nds [2])) (blk b44 3 #[.int .i64 2]) s3 ⟨some ⟨b44, 0, none⟩, 1, 1⟩ (casts [2]) [2] (rdNds s3 3 [2]) (rdBlk (cs := [.int .i64 2]) rfl (by unfold maxLen; omega)) hs3 rfl) rfl ?_)
  rintro v Θ ⟨rfl, rfl⟩
  refine S.g_op rfl (S.q (q_pickT rfl ((decide_eq_true f1)) rfl) rfl rfl ?_)
  refine S.g_op rfl (S.q (q_move rfl) rfl rfl ?_)
  refine S.g_yes rfl rfl rfl ((decide_eq_true rfl)) (S.q (q_move rfl) rfl rfl ?_)
  refine S.g_yes rfl rfl rfl ((decide_eq_true rfl)) (S.call Tryd.en55 (vs := [_, _]) ⟨rfl, rfl, trivial⟩ (Fill_S b am3 0 hW) rfl ?_)
  rintro v Θ ⟨s4, rfl, hs4, rfl⟩
  rw [f3] at hs4
  refine S.g_yes rfl rfl rfl ((decide_eq_true rfl)) (S.q (q_len Tryd.underlying31 rfl) rfl rfl ?_)
  refine S.g_yes rfl rfl rfl ((decide_eq_true rfl)) (S.q (q_eq rfl rfl) rfl rfl ?_)
  refine S.g_op rfl (S.q (q_pickT rfl ((decide_eq_true rfl)) rfl) rfl rfl ?_)
  refine S.g_op rfl (S.q (q_move rfl) rfl rfl ?_)
  refine S.g_yes rfl rfl rfl ((decide_eq_true (by rw [hs4]; rfl))) (S.q (q_move rfl) rfl rfl ?_)
  refine S.g_yes rfl rfl rfl ((decide_eq_true (by rw [hs4]; rfl))) (S.call Tryd.en55 (vs := [_, _]) ⟨rfl, rfl, trivial⟩ (Fill_S b am3 1 hW) rfl ?_)
  rintro v Θ ⟨s5, rfl, hs5, rfl⟩
  rw [f4] at hs5 ⊢
  refine S.g_yes rfl rfl rfl ((decide_eq_true (by rw [hs4]; rfl))) (S.buildSlice (pvs := [(_, _)]) [_] Tryd.underlying31 Tryd.inf68 rfl rfl ⟨⟨rfl, rfl⟩, trivial⟩ rfl rfl ?_)
  intro b56
  refine S.g_yes rfl rfl rfl ((decide_eq_true (by rw [hs4]; rfl))) (S.call Tryd.en12 (vs := [_, _]) ⟨rfl, rfl, trivial⟩ (Same_S (own s5 68 1 (idsV [3])) (blk b56 68 #[.int .u32 3]) s5 ⟨some ⟨b56, 0, none⟩, 1, 1⟩ (casts [3]) [3] (rdIds s5 68 [3]) (rdBlk (cs := [.int .u32 3]) rfl (by unfold maxLen; omega)) hs5 rfl) rfl ?_)
  rintro v Θ ⟨rfl, rfl⟩
  refine S.g_op rfl (S.q (q_pickT rfl ((decide_eq_true (by rw [hs4]; rfl))) rfl) rfl rfl ?_)
  refine S.g_op rfl (S.q (q_move rfl) rfl rfl ?_)
  refine S.g_yes rfl rfl rfl ((decide_eq_true rfl)) (S.q (q_move rfl) rfl rfl ?_)
  refine S.g_yes rfl rfl rfl ((decide_eq_true rfl)) (S.q (q_eq rfl rfl) rfl rfl ?_)
  refine S.g_op rfl (S.q (q_pickT rfl ((decide_eq_true rfl)) rfl) rfl rfl ?_)
  refine S.g_op rfl (S.q (q_assign rfl) rfl rfl ?_)
  first | with_reducible refine S.g_nilK ?_ | refine S.g_nil ?_
  refine hK9 _ _ ?_
  refine S.ret ?_
  with_reducible repeat (first | refine S.then_n ?_ | refine S.then_x ?_ | refine S.then_r ?_ | refine S.inBlock_n ?_ | refine S.inBlock_r ?_ | refine S.inBlock_x rfl ?_ | refine S.noGoto_r ?_ | refine S.noGoto_n ?_ | refine S.noGoto_x ?_)
  exact S.fin (rs := [_]) (vs := [_]) Tryd.results22 (⟨rfl, trivial⟩)  (⟨by simp only [resV]; rw [decide_eq_true f5], rfl⟩) Sub.ent
/-- The matrix that the laws build. -/
def addUp (m : Mx) (ws : List Int) : Nat → Mx
  | 0 => m
  | i + 1 => (placeR (addUp m ws i) (i + 1) (1 + ws.getD i 0 % 6)).2
def delUp (m : Mx) (gs : List Int) : Nat → Mx
  | 0 => m
  | i + 1 => (removeR (delUp m gs i) (gs.getD i 0).toNat).2
def buildR (r n : Int) (ws gs : List Int) : Mx := delUp (addUp (mx0 (1 + r % 8).toNat (1 + n % 16).toNat) ws (min ws.length 40)) gs gs.length
theorem addUp_ok {m : Mx} (hm : MxOk m) (ws : List Int) : ∀ i, i ≤ 40 → MxOk (addUp m ws i)
  | 0, _ => hm
  | i + 1, h => placeR_ok (addUp_ok hm ws i (by omega)) (by omega) _
theorem removeR_ok {m : Mx} (hm : MxOk m) (j : Nat) : MxOk (removeR m j).2 := by
  unfold removeR
  split
  · exact hm.del j
  · exact hm
end Go.Proofs.YtegjmmocnffpiaaDoor
/- RowsPlays: every script of jobs that are placed, put and removed, of nodes that go down and come up, has the document's answers, cell by cell; a nil matrix', too; a copy goes its own way. -/
namespace Go.Proofs.YtegjmmocnffpiaaDoor
open Go.RowKit
set_option maxRecDepth 20000
structure Ro where
  od : Int
  job : Nat
  k : Int
  ns : SV
  nl : List Int
  on : Bool
instance : Inhabited Ro := ⟨⟨0, 0, 0, SV.nil, [], false⟩⟩
abbrev roC (x : Ro) : List Value := [.int .u8 x.od, .int .u32 (x.job : Int), .int .i64 x.k, x.ns.v, .bool x.on]
structure RoW (W : World) (s : SV) (l : List Ro) : Prop where
  at_ : SlAt W s.v l.length 5 (l.flatMap roC)
  len : s.n = l.length
  each : ∀ x ∈ l, x.job ≤ 4294967295 ∧ x.k ≤ 9223372036854775807 ∧ SlAt W x.ns.v x.nl.length 1 (ints x.nl) ∧ x.ns.n = x.nl.length
theorem rd_ints {W : World} {cs : List Value} (h : Rd W (.slice 1 (.int .i64)) cs) : ∃ (s : SV) (l : List Int), cs = [s.v] ∧ SlAt W s.v l.length 1 (ints l) ∧ s.n = l.length := by
  obtain ⟨s, l, h1, h2, h3, h4, _⟩ := rd_slice (α := Int) (encA := fun x => [Value.int .i64 x]) (p := fun _ => True) (fun cs hr _ => by obtain ⟨n, rfl, hw⟩ := hr; exact ⟨n, rfl, trivial⟩) h (by omega)
  refine ⟨s, l, h1, ?_, h2⟩
  rw [ints_flat]
  exact h3
theorem rd_ro {W : World} {cs : List Value} (h : Rd W (.cat 1 (.int .u8) (.cat 1 (.int .u32) (.cat 1 (.int .i64) (.cat 1 (.slice 1 (.int .i64)) (.cat 1 .bool .nil))))) cs) : ∃ x : Ro, cs = roC x ∧ x.job ≤ 4294967295 ∧ x.k ≤ 9223372036854775807 ∧ SlAt W x.ns.v x.nl.length 1 (ints x.nl) ∧ x.ns.n = x.nl.length := by
  obtain ⟨_, _, rfl, _, ⟨a, rfl, ha⟩, _, _, rfl, _, ⟨j, rfl, hj⟩, _, _, rfl, _, ⟨k, rfl, hk⟩, _, _, rfl, _, hn, _, _, rfl, _, ⟨on, rfl⟩, rfl⟩ := h
  obtain ⟨s, l, rfl, h1, h2⟩ := rd_ints hn
  have h3 := u32_rng hj
  have h4 := i64_rng hk
  refine ⟨⟨a, j.toNat, k, s, l, on⟩, ?_, by show j.toNat ≤ _; omega, h4.2, h1, h2⟩
  have e : ((j.toNat : Nat) : Int) = j := by omega
  show [Value.int .u8 a] ++ ([Value.int .u32 j] ++ ([Value.int .i64 k] ++ ([s.v] ++ ([Value.bool on] ++ [])))) = _
  simp only [roC, e]
  rfl
theorem rd_ros {W : World} {cs : List Value} (h : Rd W (.slice 5 (.cat 1 (.int .u8) (.cat 1 (.int .u32) (.cat 1 (.int .i64) (.cat 1 (.slice 1 (.int .i64)) (.cat 1 .bool .nil)))))) cs) : ∃ (s : SV) (l : List Ro), cs = [s.v] ∧ RoW W s l := by
  obtain ⟨s, l, h1, h2, h3, h4, _⟩ := rd_slice (α := Ro) (encA := roC) (p := fun x => x.job ≤ 4294967295 ∧ x.k ≤ 9223372036854775807 ∧ SlAt W x.ns.v x.nl.length 1 (ints x.nl) ∧ x.ns.n = x.nl.length) (fun cs hr _ => by
    obtain ⟨x, rfl, hx⟩ := rd_ro hr
    exact ⟨x, rfl, hx⟩) h (by omega)
  exact ⟨s, l, h1, h3, h2, h4⟩
theorem rd_take {W : World} {s : SV} {l : List Int} (h : SlAt W s.v l.length 1 (ints l)) (hn : s.n = l.length) {k : Nat} (hk : k ≤ s.n) {w : World} {Γ Δ : List Assn} [p : Pick (old W) Γ Δ] (hs : Sat w Γ) : SlAt w (.slice s.a k s.c) k 1 (ints (l.take k)) := by
  have h2 : SlAt w s.v s.n 1 (ints l) := by rw [hn]; exact (RdS.old h).at_ hs
  rw [ints_flat] at h2 ⊢
  exact own_takeG (sz := 1) (fun _ => rfl) (by decide) h2 hk
/-- What comes of an operation. -/
def opR (m : Mx) (x : Ro) : Mx :=
  if x.od = 0 ∨ x.od = 1 ∨ x.od = 2 then (placeR m x.job x.k).2 else if x.od = 3 then (putR m x.job x.k (x.nl.take (min x.nl.length 20))).2 else if x.od = 4 then (removeR m x.job).2 else if x.od = 5 then (upR m x.k x.on).2 else m
theorem upC_set2 {m : Mx} {k : Nat} (hN : m.N ≤ 16) (hk : k < m.N) (on : Bool) : (upC m).set k (.bool on) = upC (m.setUp k on) := by
  refine List.ext_getElem? fun i => ?_
  show _ = ((List.range m.N).map fun i => Value.bool ((m.setUp k on).up.getLsbD i))[i]?
  by_cases hi : i < m.N
  · rw [List.getElem?_map, List.getElem?_range hi, Option.map_some]
    have h1 : i < 16 := by omega
    have e : (m.setUp k on).up.getLsbD i = if k = i then on else m.up.getLsbD i := by
      cases on with
      | false =>
        by_cases e : k = i
        · simp [Mx.setUp, h1, e]
        · simp [Mx.setUp, h1, e]
          omega
      | true =>
        by_cases e : k = i
        · simp [Mx.setUp, h1, e]
        · simp [Mx.setUp, h1, e]
          omega
    rw [e]
    by_cases ek : k = i
    · subst ek
      rw [List.getElem?_set_self (by simp; exact hk), if_pos rfl]
    · rw [List.getElem?_set_ne ek, List.getElem?_map, List.getElem?_range hi, Option.map_some, if_neg ek]
  · rw [List.getElem?_eq_none (by simp; omega), List.getElem?_eq_none (by simp; omega)]
theorem RiOk.setUp2 {m : Mx} {cs us : SV} {rs : List Rr} (h : RiOk m cs us rs) {k : Nat} (hk : k < m.N) (on : Bool) : RiOk (m.setUp k on) cs us rs := ⟨h.ok.setUp hk on, h.cn, h.un, h.dat, h.len⟩
theorem isUp_upR {m : Mx} (hm : MxOk m) (k : Int) (on : Bool) : isUpB (upR m k on).2 k = if (upR m k on).1 = 0 then on else false := by
  have hN := hm.N16
  by_cases h : nodeB m k = true
  · have h2 := nodeB_iff.1 h
    rw [upR, if_pos h, if_pos rfl, isUpB]
    have h3 : nodeB (m.setUp k.toNat on) k = true := nodeB_iff.2 ⟨h2.1, h2.2⟩
    show (nodeB (m.setUp k.toNat on) k && (m.setUp k.toNat on).up.getLsbD k.toNat) = on
    rw [h3, Bool.true_and]
    have h4 : k.toNat < 16 := by omega
    cases on <;> simp [Mx.setUp, h4]
  · rw [upR, if_neg h, if_neg (show ¬ (1 : Int) = 0 by decide)]
    show (nodeB m k && _) = false
    rw [show nodeB m k = false by simpa using h]
    rfl
set_option maxHeartbeats 4000000 in
theorem RowsPlays_A (R N : Nat) (far : Int) (l : List Ro) (s : SV) (hR1 : 1 ≤ R) (hR8 : R ≤ 8) (hN1 : 1 ≤ N) (hN16 : N ≤ 16) {W : World} (hW : TabW W) (hs : RoW W s l) : LawS 5 [.int .i64 (R : Int), .int .i64 (N : Int), s.v, .int .i64 far] W := by
  refine Spec.of_body Tryd.func5 rfl Tryd.ntmps5 rfl ?_
  intro w0 Γ
  show S _ w0 [(0, .int .i64 (R : Int)), (1, .int .i64 (N : Int)), (2, s.v), (3, .int .i64 far)] (old W :: Γ) _
  have hRs : RdS (old W) s l.length 5 (l.flatMap roC) := RdS.old hs.at_
  have hsn := hs.len
  refine S.rCap hRs fun _ hc1 hc2 => ?_
  refine S.seq fun K1 hK1 => ?_
  refine S.region rfl ?_
  refine S.op (S.q (q_assign rfl) rfl rfl ?_)
  first | with_reducible refine S.nilK ?_ | refine S.nil ?_
  refine hK1 _ _ ?_
  refine S.seq fun K2 hK2 => ?_
  refine S.seq fun K3 hK3 => ?_
  refine S.region rfl ?_
  refine S.op (S.call Tryd.en22 (vs := []) trivial (awake_S hW) rfl ?_)
  rintro v Θ ⟨rfl, rfl⟩
  refine S.op (S.q (q_not rfl) rfl rfl ?_)
  first | with_reducible refine S.nilK ?_ | refine S.nil ?_
  refine hK3 _ _ ?_
  refine S.condF rfl ?_
  refine S.skip ?_
  with_reducible repeat (first | refine S.then_n ?_ | refine S.then_x ?_ | refine S.then_r ?_ | refine S.inBlock_n ?_ | refine S.inBlock_r ?_ | refine S.inBlock_x rfl ?_ | refine S.noGoto_r ?_ | refine S.noGoto_n ?_ | refine S.noGoto_x ?_)
  refine hK2 _ _ ?_
  refine S.seq fun K4 hK4 => ?_
  refine S.region rfl ?_
  refine S.op (S.q (q_move rfl) rfl rfl ?_)
  refine S.op (S.q (q_move rfl) rfl rfl ?_)
  refine S.op (S.call Tryd.en23 (vs := [_, _]) ⟨rfl, rfl, trivial⟩ (New_S R N hR1 hR8 hN1 hN16) rfl ?_)
  rintro v Θ ⟨b, rfl, rfl⟩
  refine S.op (S.q (q_move rfl) rfl rfl ?_)
  refine S.op (S.q (q_extract rfl rfl) rfl rfl ?_)
  refine S.op (S.q (q_extract rfl rfl) rfl rfl ?_)
  refine S.op (S.q (q_assign rfl) rfl rfl ?_)
  refine S.op (S.q (q_assign rfl) rfl rfl ?_)
  first | with_reducible refine S.nilK ?_ | refine S.nil ?_
  refine hK4 _ _ ?_
  refine S.seq fun K5 hK5 => ?_
  refine S.region rfl ?_
  refine S.op (S.q (q_move rfl) rfl rfl ?_)
  refine S.op (S.q (q_move rfl) rfl rfl ?_)
  refine S.op (S.call Tryd.en24 (vs := [_, _]) ⟨rfl, rfl, trivial⟩ (rNew_S R N hR1 hR8 hN1 hN16) rfl ?_)
  rintro v Θ ⟨c, rfl, rfl⟩
  refine S.op (S.q (q_move rfl) rfl rfl ?_)
  refine S.op (S.q (q_extract rfl rfl) rfl rfl ?_)
  refine S.op (S.q (q_extract rfl rfl) rfl rfl ?_)
  refine S.op (S.q (q_assign rfl) rfl rfl ?_)
  refine S.op (S.q (q_assign rfl) rfl rfl ?_)
  first | with_reducible refine S.nilK ?_ | refine S.nil ?_
  refine hK5 _ _ ?_
  refine S.seq fun K6 hK6 => ?_
  refine S.seq fun K7 hK7 => ?_
  refine S.regionG ?_
  refine S.g_op rfl (S.q (q_move rfl) rfl rfl ?_)
  refine S.g_op rfl (S.q (q_move rfl) rfl rfl ?_)
  refine S.g_op rfl (S.q (q_ne rfl rfl) rfl rfl ?_)
  refine S.g_op rfl (S.q (q_move rfl) rfl rfl ?_)
  refine S.g_yes rfl rfl rfl ((decide_eq_false (fun h => h rfl))) (S.q (q_move rfl) rfl rfl ?_)
  refine S.g_yes rfl rfl rfl ((decide_eq_false (fun h => h rfl))) (S.q (q_eqN Tryd.underlying25 rfl rfl) rfl rfl ?_)
  refine S.g_yes rfl rfl rfl ((decide_eq_false (fun h => h rfl))) (S.q (q_move rfl) rfl rfl ?_)
  refine S.g_yes rfl rfl rfl ((decide_eq_false (fun h => h rfl))) (S.q (q_eqN Tryd.underlying26 rfl rfl) rfl rfl ?_)
  refine S.g_yes rfl rfl rfl ((decide_eq_false (fun h => h rfl))) (S.q (q_neB Tryd.underlying4 rfl rfl) rfl rfl ?_)
  refine S.g_op rfl (S.q (q_pickF rfl ((decide_eq_false (fun h => h rfl))) rfl) rfl rfl ?_)
  first | with_reducible refine S.g_nilK ?_ | refine S.g_nil ?_
  refine hK7 _ _ ?_
  refine S.condF rfl ?_
  refine S.skip ?_
  with_reducible repeat (first | refine S.then_n ?_ | refine S.then_x ?_ | refine S.then_r ?_ | refine S.inBlock_n ?_ | refine S.inBlock_r ?_ | refine S.inBlock_x rfl ?_ | refine S.noGoto_r ?_ | refine S.noGoto_n ?_ | refine S.noGoto_x ?_)
  refine hK6 _ _ ?_
  refine S.seq fun K8 hK8 => ?_
  refine S.region rfl ?_
  refine S.op (S.q (q_move rfl) rfl rfl ?_)
  refine S.op (S.call Tryd.en25 (vs := [_]) ⟨rfl, trivial⟩ (Copy_S b (mx0 R N)) rfl ?_)
  rintro v Θ ⟨b2, rfl, rfl⟩
  refine S.op (S.q (q_move rfl) rfl rfl ?_)
  refine S.op (S.call Tryd.en26 (vs := [_]) ⟨rfl, trivial⟩ (rCopy_S c (mx0 R N)) rfl ?_)
  rintro v Θ ⟨c2, rfl, rfl⟩
  refine S.op (S.q (q_assign rfl) rfl rfl ?_)
  refine S.op (S.q (q_assign rfl) rfl rfl ?_)
  first | with_reducible refine S.nilK ?_ | refine S.nil ?_
  refine hK8 _ _ ?_
  refine S.seq fun K9 hK9 => ?_
  refine S.seq fun K10 hK10 => ?_
  refine S.region rfl ?_
  refine S.op (S.q (q_move rfl) rfl rfl ?_)
  refine S.op (S.q (q_len Tryd.underlying60 rfl) rfl rfl ?_)
  refine S.op (S.q (q_move rfl) rfl rfl ?_)
  first | with_reducible refine S.nilK ?_ | refine S.nil ?_
  refine hK10 _ _ ?_
  refine S.cut (fun ρ' Γ' => ∃ (mw : Mx) (b2 c2 : Nat), ρ' = [(3, .int .i64 far), (13, .pointer (some ⟨b2, 0, none⟩)), (14, .pointer (some ⟨c2, 0, none⟩))] ∧ Γ' = MI b2 mw :: RI c2 mw :: old W :: Γ) ?_ ?_
  · refine S.block ?_
    refine S.loop (fun q ρ' Γ' => ∃ (i : Nat) (mm mw : Mx) (b2 c2 : Nat), q = l.length - i ∧ i ≤ l.length ∧ MxOk mm ∧ ρ' = [(3, .int .i64 far), (9, .pointer (some ⟨b, 0, none⟩)), (11, .pointer (some ⟨c, 0, none⟩)), (13, .pointer (some ⟨b2, 0, none⟩)), (14, .pointer (some ⟨c2, 0, none⟩)), (54, s.v), (55, .int .i64 (s.n : Int)), (56, .int .i64 (i : Int))] ∧   Γ' = MI b mm :: RI c mm :: MI b2 mw :: RI c2 mw :: old W :: Γ) (m := _) (ρ0 := _) (Γ0 := _) (⟨0, mx0 R N, mx0 R N, b2, c2, rfl, by omega, mx0_ok hR1 hR8 hN1 hN16, rfl, rfl⟩) (by repeat (first | exact trivial | refine ⟨rfl, ?_⟩)) Sub.ent ?_
    rintro q ρ' Γ' ⟨i, mm, mw, b2, c2, hq, hi, hmm, rfl, rfl⟩
    have hmN := hmm.N16
    refine S.seq fun K11 hK11 => ?_
    refine S.region rfl ?_
    refine S.op (S.q (q_lt rfl rfl) rfl rfl ?_)
    first | with_reducible refine S.nilK ?_ | refine S.nil ?_
    refine hK11 _ _ ?_
    refine S.seq fun K12 hK12 => ?_
    refine S.condD rfl (fun h3 => ?_) (fun h3 => ?_)
    · refine S.rSome hRs (by omega) fun sb so hsa => ?_
      obtain ⟨x, hx⟩ := getE (show i < l.length by omega)
      obtain ⟨hj, hk, hns, hnn⟩ := hs.each x (List.mem_of_getElem? hx)
      refine S.rCap (RdS.old hns) fun _ hn1 hn2 => ?_
      obtain ⟨nl, hnl⟩ : ∃ nl, nl = x.nl.take (min x.nl.length 20) := ⟨_, rfl⟩
      obtain ⟨kk, hkk⟩ : ∃ kk, kk = min x.nl.length 20 := ⟨_, rfl⟩
      have hnll : nl.length = kk := by rw [hnl, List.length_take, hkk]; omega
      obtain ⟨m2, hm2⟩ : ∃ m2, m2 = opR mm x := ⟨_, rfl⟩
      refine S.skip ?_
      with_reducible repeat (first | refine S.then_n ?_ | refine S.then_x ?_ | refine S.then_r ?_ | refine S.inBlock_n ?_ | refine S.inBlock_r ?_ | refine S.inBlock_x rfl ?_ | refine S.noGoto_r ?_ | refine S.noGoto_n ?_ | refine S.noGoto_x ?_)
      refine hK12 _ _ ?_
      refine S.seq fun K13 hK13 => ?_
      refine S.block ?_
      refine S.seq fun K14 hK14 => ?_
      refine S.region rfl ?_
      refine S.op (S.q (q_move rfl) rfl rfl ?_)
      refine S.op (S.q (q_indexO (i) Tryd.el60 rfl hsa rfl rfl (by omega)) rfl rfl ?_)
      refine S.op (S.q (q_loadRS hRs (i * 5) (roC x) Tryd.ag71 rfl hsa (by omega) rfl rfl (flat_seg (enc := roC) (sz := 5) (fun _ => rfl) hx)) rfl rfl ?_)
      refine S.op (S.alloc Tryd.z71 rfl ?_)
      intro b16
      refine S.op (S.q (q_assign rfl) rfl rfl ?_)
      refine S.op (S.storeS (cs' := [_, _, _, _, _]) Tryd.ag71 rfl rfl rfl rfl rfl rfl ?_)
      first | with_reducible refine S.nilK ?_ | refine S.nil ?_
      refine hK14 _ _ ?_
      refine S.seq fun K15 hK15 => ?_
      refine S.seq fun K16 hK16 => ?_
      refine S.region rfl ?_
      refine S.op (S.q (q_move rfl) rfl rfl ?_)
      refine S.op (S.q (q_ge rfl rfl) rfl rfl ?_)
      first | with_reducible refine S.nilK ?_ | refine S.nil ?_
      refine hK16 _ _ ?_
      refine S.condD rfl (fun h4 => ?_) (fun h4 => ?_)
      · refine S.exit ?_
        with_reducible repeat (first | refine S.then_n ?_ | refine S.then_x ?_ | refine S.then_r ?_ | refine S.inBlock_n ?_ | refine S.inBlock_r ?_ | refine S.inBlock_x rfl ?_ | refine S.noGoto_r ?_ | refine S.noGoto_n ?_ | refine S.noGoto_x ?_)
        with_reducible refine S.inBlock_s ?_
        with_reducible repeat (first | refine S.then_n ?_ | refine S.then_x ?_ | refine S.then_r ?_ | refine S.inBlock_n ?_ | refine S.inBlock_r ?_ | refine S.inBlock_x rfl ?_ | refine S.noGoto_r ?_ | refine S.noGoto_n ?_ | refine S.noGoto_x ?_)
        with_reducible repeat (first | refine S.then_n ?_ | refine S.then_x ?_ | refine S.then_r ?_ | refine S.inBlock_n ?_ | refine S.inBlock_r ?_ | refine S.inBlock_x rfl ?_ | refine S.noGoto_r ?_ | refine S.noGoto_n ?_ | refine S.noGoto_x ?_)
        exact S.meet ⟨mw, b2, c2, rfl, rfl⟩ ⟨rfl, rfl, rfl, trivial⟩ Sub.ent
      · refine S.skip ?_
        with_reducible repeat (first | refine S.then_n ?_ | refine S.then_x ?_ | refine S.then_r ?_ | refine S.inBlock_n ?_ | refine S.inBlock_r ?_ | refine S.inBlock_x rfl ?_ | refine S.noGoto_r ?_ | refine S.noGoto_n ?_ | refine S.noGoto_x ?_)
        refine hK15 _ _ ?_
        refine S.seq fun K17 hK17 => ?_
        refine S.region rfl ?_
        with_reducible refine S.opH fun KH12_0 hKH12_0 => ?_
        refine  (S.buildSlice0 Tryd.underlying69 Tryd.inf3 rfl ?_)
        intro b63 hb63
        refine hKH12_0 _ _ ?_
        with_reducible refine S.opH fun KH12_1 hKH12_1 => ?_
        refine  (S.q (q_field Tryd.fo71_3 rfl) rfl rfl ?_)
        refine hKH12_1 _ _ ?_
        with_reducible refine S.opH fun KH12_2 hKH12_2 => ?_
        refine  (S.q (q_load Tryd.at69 rfl rfl) rfl rfl ?_)
        refine hKH12_2 _ _ ?_
        with_reducible refine S.opH fun KH12_3 hKH12_3 => ?_
        refine  (S.q (q_field Tryd.fo71_3 rfl) rfl rfl ?_)
        refine hKH12_3 _ _ ?_
        with_reducible refine S.opH fun KH12_4 hKH12_4 => ?_
        refine  (S.q (q_load Tryd.at69 rfl rfl) rfl rfl ?_)
        refine hKH12_4 _ _ ?_
        with_reducible refine S.opH fun KH12_5 hKH12_5 => ?_
        refine  (S.q (q_len Tryd.underlying69 rfl) rfl rfl ?_)
        refine hKH12_5 _ _ ?_
        with_reducible refine S.opH fun KH12_6 hKH12_6 => ?_
        refine  (S.q (q_min ((kk : Int)) rfl rfl (⟨by omega, by omega, by omega⟩)) rfl rfl ?_)
        refine hKH12_6 _ _ ?_
        refine S.op (S.q (q_sliceTo (kk) Tryd.el69 rfl rfl rfl (by omega)) rfl rfl ?_)
        refine S.op (S.appendOw (s := b63) (kk) (ints nl) Tryd.underlying69 Tryd.inf3 rfl rfl rfl (fun w hs => (by rw [hnl, ← hkk]; exact rd_take hns hnn (by omega) hs)) (ints_one _) (⟨by omega, by omega⟩) rfl ?_)
        intro nv hnv
        rw [List.nil_append]
        have hnv : nv.n = nl.length := by rw [hnll]; omega
        refine S.op (S.q (q_assign rfl) rfl rfl ?_)
        first | with_reducible refine S.nilK ?_ | refine S.nil ?_
        refine hK17 _ _ ?_
        refine S.seq fun K18 hK18 => ?_
        refine S.region rfl ?_
        refine S.op (S.q (q_assign rfl) rfl rfl ?_)
        first | with_reducible refine S.nilK ?_ | refine S.nil ?_
        refine hK18 _ _ ?_
        refine S.seq fun K19 hK19 => ?_
        refine S.seq fun K20 hK20 => ?_
        refine S.region rfl ?_
        refine S.op (S.q (q_field Tryd.fo71_0 rfl) rfl rfl ?_)
        refine S.op (S.q (q_load Tryd.at5 rfl rfl) rfl rfl ?_)
        first | with_reducible refine S.nilK ?_ | refine S.nil ?_
        refine hK20 _ _ ?_
        refine S.cut (fun ρ' Γ' => MxOk m2 ∧ ρ' = [(3, .int .i64 far), (9, .pointer (some ⟨b, 0, none⟩)), (11, .pointer (some ⟨c, 0, none⟩)), (13, .pointer (some ⟨b2, 0, none⟩)), (14, .pointer (some ⟨c2, 0, none⟩)), (15, .int .i64 (i : Int)), (18, .bool true), (54, s.v), (55, .int .i64 (s.n : Int)), (56, .int .i64 (i : Int))] ∧   Γ' = MI b m2 :: RI c m2 :: MI b2 mw :: RI c2 mw :: old W :: Γ) ?_ ?_
        · refine S.block ?_
          refine S.seq fun K21 hK21 => ?_
          refine S.seq fun K22 hK22 => ?_
          refine S.region rfl ?_
          refine S.op (S.q (q_eq rfl rfl) rfl rfl ?_)
          refine S.op (S.q (q_assign rfl) rfl rfl ?_)
          first | with_reducible refine S.nilK ?_ | refine S.nil ?_
          refine hK22 _ _ ?_
          refine S.cut (fun ρ' Γ' => ρ' = [(3, .int .i64 far), (9, .pointer (some ⟨b, 0, none⟩)), (11, .pointer (some ⟨c, 0, none⟩)), (13, .pointer (some ⟨b2, 0, none⟩)), (14, .pointer (some ⟨c2, 0, none⟩)), (15, .int .i64 (i : Int)), (16, .pointer (some ⟨b16, 0, none⟩)), (17, nv.v), (18, .bool true), (54, s.v), (55, .int .i64 (s.n : Int)), (56, .int .i64 (i : Int)), (73, .int .u8 x.od), (74, .bool (decide (x.od = 0 ∨ x.od = 1 ∨ x.od = 2)))] ∧   Γ' = own nv 3 1 (ints nl) :: blk b16 71 (roC x).toArray :: MI b mm :: RI c mm :: MI b2 mw :: RI c2 mw :: old W :: Γ) ?_ ?_
          · refine S.condD rfl (fun h5 => ?_) (fun h5 => ?_)
            · refine S.skip ?_
              with_reducible repeat (first | refine S.then_n ?_ | refine S.then_x ?_ | refine S.then_r ?_ | refine S.inBlock_n ?_ | refine S.inBlock_r ?_ | refine S.inBlock_x rfl ?_ | refine S.noGoto_r ?_ | refine S.noGoto_n ?_ | refine S.noGoto_x ?_)
              with_reducible repeat (first | refine S.then_n ?_ | refine S.then_x ?_ | refine S.then_r ?_ | refine S.inBlock_n ?_ | refine S.inBlock_r ?_ | refine S.inBlock_x rfl ?_ | refine S.noGoto_r ?_ | refine S.noGoto_n ?_ | refine S.noGoto_x ?_)
              first | (rw [show decide (x.od = 0 ∨ x.od = 1 ∨ x.od = 2) = decide (x.od = 0) from decide_eq_decide.2 (by omega)]; exact S.meet ⟨rfl, rfl⟩ ⟨rfl, rfl, rfl, rfl, rfl, rfl, rfl, rfl, rfl, rfl, rfl, rfl, rfl, rfl, trivial⟩ Sub.ent) | (rw [show decide (x.od = 0 ∨ x.od = 1 ∨ x.od = 2) = decide (x.od = 1) from decide_eq_decide.2 (by omega)]; exact S.meet ⟨rfl, rfl⟩ ⟨rfl, rfl, rfl, rfl, rfl, rfl, rfl, rfl, rfl, rfl, rfl, rfl, rfl, rfl, trivial⟩ Sub.ent) | (rw [show decide (x.od = 0 ∨ x.od = 1 ∨ x.od = 2) = decide (x.od = 2) from decide_eq_decide.2 (by omega)]; exact S.meet ⟨rfl, rfl⟩ ⟨rfl, rfl, rfl, rfl, rfl, rfl, rfl, rfl, rfl, rfl, rfl, rfl, rfl, rfl, trivial⟩ Sub.ent)
            · refine S.seq fun K23 hK23 => ?_
              refine S.region rfl ?_
              refine S.op (S.q (q_eq rfl rfl) rfl rfl ?_)
              refine S.op (S.q (q_assign rfl) rfl rfl ?_)
              first | with_reducible refine S.nilK ?_ | refine S.nil ?_
              refine hK23 _ _ ?_
              refine S.condD rfl (fun h6 => ?_) (fun h6 => ?_)
              · refine S.skip ?_
                with_reducible repeat (first | refine S.then_n ?_ | refine S.then_x ?_ | refine S.then_r ?_ | refine S.inBlock_n ?_ | refine S.inBlock_r ?_ | refine S.inBlock_x rfl ?_ | refine S.noGoto_r ?_ | refine S.noGoto_n ?_ | refine S.noGoto_x ?_)
                with_reducible repeat (first | refine S.then_n ?_ | refine S.then_x ?_ | refine S.then_r ?_ | refine S.inBlock_n ?_ | refine S.inBlock_r ?_ | refine S.inBlock_x rfl ?_ | refine S.noGoto_r ?_ | refine S.noGoto_n ?_ | refine S.noGoto_x ?_)
                first | (rw [show decide (x.od = 0 ∨ x.od = 1 ∨ x.od = 2) = decide (x.od = 0) from decide_eq_decide.2 (by omega)]; exact S.meet ⟨rfl, rfl⟩ ⟨rfl, rfl, rfl, rfl, rfl, rfl, rfl, rfl, rfl, rfl, rfl, rfl, rfl, rfl, trivial⟩ Sub.ent) | (rw [show decide (x.od = 0 ∨ x.od = 1 ∨ x.od = 2) = decide (x.od = 1) from decide_eq_decide.2 (by omega)]; exact S.meet ⟨rfl, rfl⟩ ⟨rfl, rfl, rfl, rfl, rfl, rfl, rfl, rfl, rfl, rfl, rfl, rfl, rfl, rfl, trivial⟩ Sub.ent) | (rw [show decide (x.od = 0 ∨ x.od = 1 ∨ x.od = 2) = decide (x.od = 2) from decide_eq_decide.2 (by omega)]; exact S.meet ⟨rfl, rfl⟩ ⟨rfl, rfl, rfl, rfl, rfl, rfl, rfl, rfl, rfl, rfl, rfl, rfl, rfl, rfl, trivial⟩ Sub.ent)
              · refine S.region rfl ?_
                refine S.op (S.q (q_eq rfl rfl) rfl rfl ?_)
                refine S.op (S.q (q_assign rfl) rfl rfl ?_)
                first | with_reducible refine S.nilK ?_ | refine S.nil ?_
                with_reducible repeat (first | refine S.then_n ?_ | refine S.then_x ?_ | refine S.then_r ?_ | refine S.inBlock_n ?_ | refine S.inBlock_r ?_ | refine S.inBlock_x rfl ?_ | refine S.noGoto_r ?_ | refine S.noGoto_n ?_ | refine S.noGoto_x ?_)
                first | (rw [show decide (x.od = 0 ∨ x.od = 1 ∨ x.od = 2) = decide (x.od = 0) from decide_eq_decide.2 (by omega)]; exact S.meet ⟨rfl, rfl⟩ ⟨rfl, rfl, rfl, rfl, rfl, rfl, rfl, rfl, rfl, rfl, rfl, rfl, rfl, rfl, trivial⟩ Sub.ent) | (rw [show decide (x.od = 0 ∨ x.od = 1 ∨ x.od = 2) = decide (x.od = 1) from decide_eq_decide.2 (by omega)]; exact S.meet ⟨rfl, rfl⟩ ⟨rfl, rfl, rfl, rfl, rfl, rfl, rfl, rfl, rfl, rfl, rfl, rfl, rfl, rfl, trivial⟩ Sub.ent) | (rw [show decide (x.od = 0 ∨ x.od = 1 ∨ x.od = 2) = decide (x.od = 2) from decide_eq_decide.2 (by omega)]; exact S.meet ⟨rfl, rfl⟩ ⟨rfl, rfl, rfl, rfl, rfl, rfl, rfl, rfl, rfl, rfl, rfl, rfl, rfl, rfl, trivial⟩ Sub.ent)
          · rintro ρ' Γ' ⟨rfl, rfl⟩
            refine hK21 _ _ ?_
            refine S.condD rfl (fun h7 => ?_) (fun h7 => ?_)
            · have hop : m2 = (placeR mm x.job x.k).2 := by rw [hm2, opR, if_pos h7]
              have hok2 : MxOk m2 := by rw [hop]; exact placeR_ok hmm hj x.k
              obtain ⟨a, pl, g, m3, hpl⟩ : ∃ a pl g m3, placeR mm x.job x.k = ((a, pl, g), m3) := ⟨_, _, _, _, rfl⟩
              have hm3 : m3 = m2 := by rw [hop, hpl]
              refine S.seq fun K24 hK24 => ?_
              refine S.region rfl ?_
              refine S.op (S.q (q_move rfl) rfl rfl ?_)
              refine S.op (S.q (q_field Tryd.fo71_1 rfl) rfl rfl ?_)
              refine S.op (S.q (q_load Tryd.at68 rfl rfl) rfl rfl ?_)
              refine S.op (S.q (q_field Tryd.fo71_2 rfl) rfl rfl ?_)
              refine S.op (S.q (q_load Tryd.at3 rfl rfl) rfl rfl ?_)
              refine S.op (S.call Tryd.en27 (vs := [_, _, _]) ⟨rfl, rfl, rfl, trivial⟩ (Place_S b mm x.job x.k hj hk hW) rfl ?_)
              rintro v Θ ⟨s1, rfl, hs1, rfl⟩
              rw [hpl] at hs1 ⊢
              refine S.op (S.q (q_move rfl) rfl rfl ?_)
              refine S.op (S.q (q_extract rfl rfl) rfl rfl ?_)
              refine S.op (S.q (q_extract rfl rfl) rfl rfl ?_)
              refine S.op (S.q (q_extract rfl rfl) rfl rfl ?_)
              refine S.op (S.q (q_assign rfl) rfl rfl ?_)
              refine S.op (S.q (q_assign rfl) rfl rfl ?_)
              refine S.op (S.q (q_assign rfl) rfl rfl ?_)
              first | with_reducible refine S.nilK ?_ | refine S.nil ?_
              refine hK24 _ _ ?_
              refine S.seq fun K25 hK25 => ?_
              refine S.region rfl ?_
              refine S.op (S.q (q_move rfl) rfl rfl ?_)
              refine S.op (S.q (q_field Tryd.fo71_1 rfl) rfl rfl ?_)
              refine S.op (S.q (q_load Tryd.at68 rfl rfl) rfl rfl ?_)
              refine S.op (S.q (q_field Tryd.fo71_2 rfl) rfl rfl ?_)
              refine S.op (S.q (q_load Tryd.at3 rfl rfl) rfl rfl ?_)
              refine S.op (S.call Tryd.en28 (vs := [_, _, _]) ⟨rfl, rfl, rfl, trivial⟩ (rPlace_S c mm x.job x.k hj hk) rfl ?_)
              rintro v Θ ⟨s2, rfl, hs2, rfl⟩
              rw [hpl] at hs2 ⊢
              refine S.op (S.q (q_move rfl) rfl rfl ?_)
              refine S.op (S.q (q_extract rfl rfl) rfl rfl ?_)
              refine S.op (S.q (q_extract rfl rfl) rfl rfl ?_)
              refine S.op (S.q (q_extract rfl rfl) rfl rfl ?_)
              refine S.op (S.q (q_assign rfl) rfl rfl ?_)
              refine S.op (S.q (q_assign rfl) rfl rfl ?_)
              refine S.op (S.q (q_assign rfl) rfl rfl ?_)
              first | with_reducible refine S.nilK ?_ | refine S.nil ?_
              refine hK25 _ _ ?_
              refine S.regionG ?_
              refine S.g_op rfl (S.q (q_move rfl) rfl rfl ?_)
              refine S.g_op rfl (S.q (q_move rfl) rfl rfl ?_)
              refine S.g_op rfl (S.q (q_eq rfl rfl) rfl rfl ?_)
              refine S.g_op rfl (S.q (q_move rfl) rfl rfl ?_)
              refine S.g_yes rfl rfl rfl ((decide_eq_true rfl)) (S.q (q_move rfl) rfl rfl ?_)
              refine S.g_yes rfl rfl rfl ((decide_eq_true rfl)) (S.q (q_move rfl) rfl rfl ?_)
              refine S.g_yes rfl rfl rfl ((decide_eq_true rfl)) (S.call Tryd.en29 (vs := [_, _]) ⟨rfl, rfl, trivial⟩ (SameInts_S (own s1 3 1 (nds pl)) (own s2 3 1 (nds pl)) s1 s2 (casts pl) (casts pl) (rdNds s1 3 pl) (rdNds s2 3 pl) (by rw [List.length_map]; exact hs1) (by rw [List.length_map]; exact hs2)) rfl ?_)
              rintro v Θ ⟨rfl, rfl⟩
              refine S.g_op rfl (S.q (q_pickT rfl ((decide_eq_true rfl)) rfl) rfl rfl ?_)
              refine S.g_op rfl (S.q (q_move rfl) rfl rfl ?_)
              refine S.g_yes rfl rfl rfl ((decide_eq_true rfl)) (S.q (q_move rfl) rfl rfl ?_)
              refine S.g_yes rfl rfl rfl ((decide_eq_true rfl)) (S.q (q_move rfl) rfl rfl ?_)
              refine S.g_yes rfl rfl rfl ((decide_eq_true rfl)) (S.q (q_eq rfl rfl) rfl rfl ?_)
              refine S.g_op rfl (S.q (q_pickT rfl ((decide_eq_true rfl)) rfl) rfl rfl ?_)
              refine S.g_op rfl (S.q (q_assign rfl) rfl rfl ?_)
              first | with_reducible refine S.g_nilK ?_ | refine S.g_nil ?_
              with_reducible repeat (first | refine S.then_n ?_ | refine S.then_x ?_ | refine S.then_r ?_ | refine S.inBlock_n ?_ | refine S.inBlock_r ?_ | refine S.inBlock_x rfl ?_ | refine S.noGoto_r ?_ | refine S.noGoto_n ?_ | refine S.noGoto_x ?_)
              with_reducible repeat (first | refine S.then_n ?_ | refine S.then_x ?_ | refine S.then_r ?_ | refine S.inBlock_n ?_ | refine S.inBlock_r ?_ | refine S.inBlock_x rfl ?_ | refine S.noGoto_r ?_ | refine S.noGoto_n ?_ | refine S.noGoto_x ?_)
              first | (rw [hm3]; rw [decide_eq_true (show g = g from rfl)]; exact S.meet ⟨hok2, rfl, rfl⟩ ⟨rfl, rfl, rfl, rfl, rfl, rfl, rfl, rfl, rfl, rfl, trivial⟩ Sub.ent) | (rw [← hop]; rw [decide_eq_true (show g = g from rfl)]; exact S.meet ⟨hok2, rfl, rfl⟩ ⟨rfl, rfl, rfl, rfl, rfl, rfl, rfl, rfl, rfl, rfl, trivial⟩ Sub.ent) | (rw [htrue]; exact S.meet ⟨hok2, rfl, rfl⟩ ⟨rfl, rfl, rfl, rfl, rfl, rfl, rfl, rfl, rfl, rfl, trivial⟩ Sub.ent) | (rw [hop]; exact S.meet ⟨hmm, rfl, rfl⟩ ⟨rfl, rfl, rfl, rfl, rfl, rfl, rfl, rfl, rfl, rfl, trivial⟩ Sub.ent)
            · refine S.seq fun K26 hK26 => ?_
              refine S.region rfl ?_
              refine S.op (S.q (q_eq rfl rfl) rfl rfl ?_)
              refine S.op (S.q (q_assign rfl) rfl rfl ?_)
              first | with_reducible refine S.nilK ?_ | refine S.nil ?_
              refine hK26 _ _ ?_
              refine S.condD rfl (fun h8 => ?_) (fun h8 => ?_)
              · have hop : m2 = (putR mm x.job x.k nl).2 := by rw [hm2, opR, if_neg h7, if_pos h8, hnl]
                have hok2 : MxOk m2 := by rw [hop]; exact putR_ok hmm hj x.k _
                obtain ⟨g, m3, hpl⟩ : ∃ g m3, putR mm x.job x.k nl = (g, m3) := ⟨_, _, rfl⟩
                have hm3 : m3 = m2 := by rw [hop, hpl]
                refine S.draw ([blk b16 71 (roC x).toArray]) [] Tryd.mixed ?_
                refine S.dr_take 0 [] rfl (by kernel_rfl) rfl rfl rfl (q_move rfl) Sub.ent ?_
                refine S.dr_take 1 [] rfl (by kernel_rfl) rfl rfl rfl (q_field Tryd.fo71_1 rfl) Sub.ent ?_
                refine S.dr_take 2 [] rfl (by kernel_rfl) rfl rfl rfl (q_load Tryd.at68 rfl rfl) Sub.ent ?_
                refine S.dr_take 3 [] rfl (by kernel_rfl) rfl rfl rfl (q_field Tryd.fo71_2 rfl) Sub.ent ?_
                refine S.dr_take 4 [] rfl (by kernel_rfl) rfl rfl rfl (q_load Tryd.at3 rfl rfl) Sub.ent ?_
                refine S.dr_take 5 [] rfl (by kernel_rfl) rfl rfl rfl (q_move rfl) Sub.ent ?_
                refine S.dr_take 7 [] rfl (by kernel_rfl) rfl rfl rfl (q_move rfl) Sub.ent ?_
                refine S.dr_take 8 [] rfl (by kernel_rfl) rfl rfl rfl (q_field Tryd.fo71_1 rfl) Sub.ent ?_
                refine S.dr_take 9 [] rfl (by kernel_rfl) rfl rfl rfl (q_load Tryd.at68 rfl rfl) Sub.ent ?_
                refine S.dr_take 10 [] rfl (by kernel_rfl) rfl rfl rfl (q_field Tryd.fo71_2 rfl) Sub.ent ?_
                refine S.dr_take 11 [] rfl (by kernel_rfl) rfl rfl rfl (q_load Tryd.at3 rfl rfl) Sub.ent ?_
                refine S.dr_take 12 [] rfl (by kernel_rfl) rfl rfl rfl (q_move rfl) Sub.ent ?_
                refine S.dr_1 (i := 6) (by kernel_rfl) rfl rfl ?_
                refine  (S.call Tryd.en30 (vs := [_, _, _, _]) ⟨rfl, rfl, rfl, rfl, trivial⟩ (Put_S b mm x.job x.k (own nv 3 1 (ints nl)) nv nl hnv RdS.own hj) rfl ?_)
                rintro v Θ ⟨rfl, rfl⟩
                rw [hpl]
                refine S.dr_k rfl Sub.ent ?_
                refine S.dr_1 (i := 13) (by kernel_rfl) rfl rfl ?_
                refine  (S.call Tryd.en31 (vs := [_, _, _, _]) ⟨rfl, rfl, rfl, rfl, trivial⟩ (rPutAny_S c mm x.job x.k (own nv 3 1 (ints nl)) nv nl hnv RdS.own hj) rfl ?_)
                rintro v Θ ⟨rfl, rfl⟩
                rw [hpl]
                refine S.dr_k rfl Sub.ent ?_
                refine S.dr_take 14 [] rfl (by kernel_rfl) rfl rfl rfl (q_eq rfl rfl) Sub.ent ?_
                refine S.dr_take 15 [] rfl (by kernel_rfl) rfl rfl rfl (q_assign rfl) Sub.ent ?_
                first | with_reducible refine S.dr_doneK (by kernel_rfl) ?_ | refine S.dr_done (by kernel_rfl) ?_
                with_reducible repeat (first | refine S.then_n ?_ | refine S.then_x ?_ | refine S.then_r ?_ | refine S.inBlock_n ?_ | refine S.inBlock_r ?_ | refine S.inBlock_x rfl ?_ | refine S.noGoto_r ?_ | refine S.noGoto_n ?_ | refine S.noGoto_x ?_)
                with_reducible repeat (first | refine S.then_n ?_ | refine S.then_x ?_ | refine S.then_r ?_ | refine S.inBlock_n ?_ | refine S.inBlock_r ?_ | refine S.inBlock_x rfl ?_ | refine S.noGoto_r ?_ | refine S.noGoto_n ?_ | refine S.noGoto_x ?_)
                first | (rw [hm3]; rw [decide_eq_true (show g = g from rfl)]; exact S.meet ⟨hok2, rfl, rfl⟩ ⟨rfl, rfl, rfl, rfl, rfl, rfl, rfl, rfl, rfl, rfl, trivial⟩ Sub.ent) | (rw [← hop]; rw [decide_eq_true (show g = g from rfl)]; exact S.meet ⟨hok2, rfl, rfl⟩ ⟨rfl, rfl, rfl, rfl, rfl, rfl, rfl, rfl, rfl, rfl, trivial⟩ Sub.ent) | (rw [htrue]; exact S.meet ⟨hok2, rfl, rfl⟩ ⟨rfl, rfl, rfl, rfl, rfl, rfl, rfl, rfl, rfl, rfl, trivial⟩ Sub.ent) | (rw [hop]; exact S.meet ⟨hmm, rfl, rfl⟩ ⟨rfl, rfl, rfl, rfl, rfl, rfl, rfl, rfl, rfl, rfl, trivial⟩ Sub.ent)
              · refine S.seq fun K27 hK27 => ?_
                refine S.region rfl ?_
                refine S.op (S.q (q_eq rfl rfl) rfl rfl ?_)
                refine S.op (S.q (q_assign rfl) rfl rfl ?_)
                first | with_reducible refine S.nilK ?_ | refine S.nil ?_
                refine hK27 _ _ ?_
                refine S.condD rfl (fun h9 => ?_) (fun h9 => ?_)
                · have hop : m2 = (removeR mm x.job).2 := by rw [hm2, opR, if_neg h7, if_neg h8, if_pos h9]
                  have hok2 : MxOk m2 := by
                    rw [hop, removeR]
                    split
                    · exact hmm.del _
                    · exact hmm
                  obtain ⟨g, m3, hpl⟩ : ∃ g m3, removeR mm x.job = (g, m3) := ⟨_, _, rfl⟩
                  have hm3 : m3 = m2 := by rw [hop, hpl]
                  refine S.draw ([blk b16 71 (roC x).toArray]) [] Tryd.mixed ?_
                  refine S.dr_take 0 [] rfl (by kernel_rfl) rfl rfl rfl (q_move rfl) Sub.ent ?_
                  refine S.dr_take 1 [] rfl (by kernel_rfl) rfl rfl rfl (q_field Tryd.fo71_1 rfl) Sub.ent ?_
                  refine S.dr_take 2 [] rfl (by kernel_rfl) rfl rfl rfl (q_load Tryd.at68 rfl rfl) Sub.ent ?_
                  refine S.dr_take 4 [] rfl (by kernel_rfl) rfl rfl rfl (q_move rfl) Sub.ent ?_
                  refine S.dr_take 5 [] rfl (by kernel_rfl) rfl rfl rfl (q_field Tryd.fo71_1 rfl) Sub.ent ?_
                  refine S.dr_take 6 [] rfl (by kernel_rfl) rfl rfl rfl (q_load Tryd.at68 rfl rfl) Sub.ent ?_
                  refine S.dr_1 (i := 3) (by kernel_rfl) rfl rfl ?_
                  refine  (S.call Tryd.en32 (vs := [_, _]) ⟨rfl, rfl, trivial⟩ (Remove_S b mm x.job) rfl ?_)
                  rintro v Θ ⟨rfl, rfl⟩
                  rw [hpl]
                  refine S.dr_k rfl Sub.ent ?_
                  refine S.dr_1 (i := 7) (by kernel_rfl) rfl rfl ?_
                  refine  (S.call Tryd.en33 (vs := [_, _]) ⟨rfl, rfl, trivial⟩ (rRemove_S c mm x.job) rfl ?_)
                  rintro v Θ ⟨rfl, rfl⟩
                  rw [hpl]
                  refine S.dr_k rfl Sub.ent ?_
                  refine S.dr_take 8 [] rfl (by kernel_rfl) rfl rfl rfl (q_eq rfl rfl) Sub.ent ?_
                  refine S.dr_take 9 [] rfl (by kernel_rfl) rfl rfl rfl (q_assign rfl) Sub.ent ?_
                  first | with_reducible refine S.dr_doneK (by kernel_rfl) ?_ | refine S.dr_done (by kernel_rfl) ?_
                  with_reducible repeat (first | refine S.then_n ?_ | refine S.then_x ?_ | refine S.then_r ?_ | refine S.inBlock_n ?_ | refine S.inBlock_r ?_ | refine S.inBlock_x rfl ?_ | refine S.noGoto_r ?_ | refine S.noGoto_n ?_ | refine S.noGoto_x ?_)
                  with_reducible repeat (first | refine S.then_n ?_ | refine S.then_x ?_ | refine S.then_r ?_ | refine S.inBlock_n ?_ | refine S.inBlock_r ?_ | refine S.inBlock_x rfl ?_ | refine S.noGoto_r ?_ | refine S.noGoto_n ?_ | refine S.noGoto_x ?_)
                  first | (rw [hm3]; rw [decide_eq_true (show g = g from rfl)]; exact S.meet ⟨hok2, rfl, rfl⟩ ⟨rfl, rfl, rfl, rfl, rfl, rfl, rfl, rfl, rfl, rfl, trivial⟩ Sub.ent) | (rw [← hop]; rw [decide_eq_true (show g = g from rfl)]; exact S.meet ⟨hok2, rfl, rfl⟩ ⟨rfl, rfl, rfl, rfl, rfl, rfl, rfl, rfl, rfl, rfl, trivial⟩ Sub.ent) | (rw [htrue]; exact S.meet ⟨hok2, rfl, rfl⟩ ⟨rfl, rfl, rfl, rfl, rfl, rfl, rfl, rfl, rfl, rfl, trivial⟩ Sub.ent) | (rw [hop]; exact S.meet ⟨hmm, rfl, rfl⟩ ⟨rfl, rfl, rfl, rfl, rfl, rfl, rfl, rfl, rfl, rfl, trivial⟩ Sub.ent)
                · refine S.seq fun K28 hK28 => ?_
                  refine S.region rfl ?_
                  refine S.op (S.q (q_eq rfl rfl) rfl rfl ?_)
                  refine S.op (S.q (q_assign rfl) rfl rfl ?_)
                  first | with_reducible refine S.nilK ?_ | refine S.nil ?_
                  refine hK28 _ _ ?_
                  refine S.condD rfl (fun h10 => ?_) (fun h10 => ?_)
                  · have hop : m2 = (upR mm x.k x.on).2 := by rw [hm2, opR, if_neg h7, if_neg h8, if_neg h9, if_pos h10]
                    have hok2 : MxOk m2 := by rw [hop]; exact upR_ok hmm _ _
                    have hiu := isUp_upR hmm x.k x.on
                    rw [← hop] at hiu
                    refine S.seq fun K29 hK29 => ?_
                    refine S.region rfl ?_
                    refine S.op (S.q (q_assign rfl) rfl rfl ?_)
                    first | with_reducible refine S.nilK ?_ | refine S.nil ?_
                    refine hK29 _ _ ?_
                    refine S.seq fun K30 hK30 => ?_
                    refine S.seq fun K31 hK31 => ?_
                    refine S.region rfl ?_
                    refine S.op (S.q (q_move rfl) rfl rfl ?_)
                    refine S.op (S.q (q_neN Tryd.underlying26 rfl rfl) rfl rfl ?_)
                    first | with_reducible refine S.nilK ?_ | refine S.nil ?_
                    refine hK31 _ _ ?_
                    refine S.condT rfl ?_
                    refine S.seq fun K32 hK32 => ?_
                    refine S.region rfl ?_
                    refine S.riOpen c mm fun cs us rs hri => ?_
                    have hun := hri.un
                    refine S.op (S.q (q_assign rfl) rfl rfl ?_)
                    first | with_reducible refine S.nilK ?_ | refine S.nil ?_
                    refine hK32 _ _ ?_
                    refine S.seq fun K33 hK33 => ?_
                    refine S.cut (fun ρ' Γ' => ρ' = [(3, .int .i64 far), (9, .pointer (some ⟨b, 0, none⟩)), (11, .pointer (some ⟨c, 0, none⟩)), (13, .pointer (some ⟨b2, 0, none⟩)), (14, .pointer (some ⟨c2, 0, none⟩)), (15, .int .i64 (i : Int)), (16, .pointer (some ⟨b16, 0, none⟩)), (25, .int .i64 1), (54, s.v), (55, .int .i64 (s.n : Int)), (56, .int .i64 (i : Int)), (155, .bool (nodeB mm x.k))] ∧   Γ' = blk b16 71 (roC x).toArray :: riX c mm cs us rs (MI b mm :: MI b2 mw :: RI c2 mw :: old W :: Γ)) ?_ ?_
                    · refine S.draw ([blk b16 71 (roC x).toArray, blk c 55 #[cs.v, us.v]]) [] Tryd.mixed ?_
                      refine S.dr_take 0 [] rfl (by kernel_rfl) rfl rfl rfl (q_field Tryd.fo71_2 rfl) Sub.ent ?_
                      refine S.dr_take 1 [] rfl (by kernel_rfl) rfl rfl rfl (q_load Tryd.at3 rfl rfl) Sub.ent ?_
                      refine S.dr_take 2 [] rfl (by kernel_rfl) rfl rfl rfl (q_ge rfl rfl) Sub.ent ?_
                      refine S.dr_take 3 [] rfl (by kernel_rfl) rfl rfl rfl (q_move rfl) Sub.ent ?_
                      by_cases hg29_3 : (0 : Int) ≤ x.k
                      · refine S.dr_takeY 4 [] rfl (by kernel_rfl) rfl rfl rfl (decide_eq_true hg29_3) rfl rfl (q_field Tryd.fo71_2 rfl) Sub.ent ?_
                        refine S.dr_takeY 5 [] rfl (by kernel_rfl) rfl rfl rfl (decide_eq_true hg29_3) rfl rfl (q_load Tryd.at3 rfl rfl) Sub.ent ?_
                        refine S.dr_takeY 6 [] rfl (by kernel_rfl) rfl rfl rfl (decide_eq_true hg29_3) rfl rfl (q_move rfl) Sub.ent ?_
                        refine S.dr_takeY 7 [] rfl (by kernel_rfl) rfl rfl rfl (decide_eq_true hg29_3) rfl rfl (q_nilCheck rfl) Sub.ent ?_
                        refine S.dr_takeY 8 [] rfl (by kernel_rfl) rfl rfl rfl (decide_eq_true hg29_3) rfl rfl (q_field Tryd.fo55_1 rfl) Sub.ent ?_
                        refine S.dr_takeY 9 [] rfl (by kernel_rfl) rfl rfl rfl (decide_eq_true hg29_3) rfl rfl (q_load Tryd.at53 rfl rfl) Sub.ent ?_
                        refine S.dr_takeY 10 [] rfl (by kernel_rfl) rfl rfl rfl (decide_eq_true hg29_3) rfl rfl (q_len Tryd.underlying53 rfl) Sub.ent ?_
                        refine S.dr_takeY 11 [] rfl (by kernel_rfl) rfl rfl rfl (decide_eq_true hg29_3) rfl rfl (q_lt rfl rfl) Sub.ent ?_
                        refine S.dr_take 12 [] rfl (by kernel_rfl) rfl rfl rfl (q_pickT rfl (decide_eq_true hg29_3) rfl) Sub.ent ?_
                        first | with_reducible refine S.dr_doneK (by kernel_rfl) ?_ | refine S.dr_done (by kernel_rfl) ?_
                        with_reducible repeat (first | refine S.then_n ?_ | refine S.then_x ?_ | refine S.then_r ?_ | refine S.inBlock_n ?_ | refine S.inBlock_r ?_ | refine S.inBlock_x rfl ?_ | refine S.noGoto_r ?_ | refine S.noGoto_n ?_ | refine S.noGoto_x ?_)
                        first | (rw [show nodeB mm x.k = decide (x.k < (us.n : Int)) by rw [nodeB, decide_eq_true hg29_3, Bool.true_and, hun]]; exact S.meet ⟨rfl, rfl⟩ ⟨rfl, rfl, rfl, rfl, rfl, rfl, rfl, rfl, rfl, rfl, rfl, rfl, trivial⟩ Sub.ent) | (rw [show nodeB mm x.k = false by rw [nodeB, decide_eq_false hg29_3]; rfl]; exact S.meet ⟨rfl, rfl⟩ ⟨rfl, rfl, rfl, rfl, rfl, rfl, rfl, rfl, rfl, rfl, rfl, rfl, trivial⟩ Sub.ent)
                      · refine S.dr_takeN 4 [] rfl (by kernel_rfl) rfl rfl rfl (decide_eq_false hg29_3) rfl rfl Sub.ent ?_
                        refine S.dr_takeN 5 [] rfl (by kernel_rfl) rfl rfl rfl (decide_eq_false hg29_3) rfl rfl Sub.ent ?_
                        refine S.dr_takeN 6 [] rfl (by kernel_rfl) rfl rfl rfl (decide_eq_false hg29_3) rfl rfl Sub.ent ?_
                        refine S.dr_takeN 7 [] rfl (by kernel_rfl) rfl rfl rfl (decide_eq_false hg29_3) rfl rfl Sub.ent ?_
                        refine S.dr_takeN 8 [] rfl (by kernel_rfl) rfl rfl rfl (decide_eq_false hg29_3) rfl rfl Sub.ent ?_
                        refine S.dr_takeN 9 [] rfl (by kernel_rfl) rfl rfl rfl (decide_eq_false hg29_3) rfl rfl Sub.ent ?_
                        refine S.dr_takeN 10 [] rfl (by kernel_rfl) rfl rfl rfl (decide_eq_false hg29_3) rfl rfl Sub.ent ?_
                        refine S.dr_takeN 11 [] rfl (by kernel_rfl) rfl rfl rfl (decide_eq_false hg29_3) rfl rfl Sub.ent ?_
                        refine S.dr_take 12 [] rfl (by kernel_rfl) rfl rfl rfl (q_pickF rfl (decide_eq_false hg29_3) rfl) Sub.ent ?_
                        first | with_reducible refine S.dr_doneK (by kernel_rfl) ?_ | refine S.dr_done (by kernel_rfl) ?_
                        with_reducible repeat (first | refine S.then_n ?_ | refine S.then_x ?_ | refine S.then_r ?_ | refine S.inBlock_n ?_ | refine S.inBlock_r ?_ | refine S.inBlock_x rfl ?_ | refine S.noGoto_r ?_ | refine S.noGoto_n ?_ | refine S.noGoto_x ?_)
                        first | (rw [show nodeB mm x.k = decide (x.k < (us.n : Int)) by rw [nodeB, decide_eq_true hg29_3, Bool.true_and, hun]]; exact S.meet ⟨rfl, rfl⟩ ⟨rfl, rfl, rfl, rfl, rfl, rfl, rfl, rfl, rfl, rfl, rfl, rfl, trivial⟩ Sub.ent) | (rw [show nodeB mm x.k = false by rw [nodeB, decide_eq_false hg29_3]; rfl]; exact S.meet ⟨rfl, rfl⟩ ⟨rfl, rfl, rfl, rfl, rfl, rfl, rfl, rfl, rfl, rfl, rfl, rfl, trivial⟩ Sub.ent)
                    · rintro ρ' Γ' ⟨rfl, rfl⟩
                      refine hK33 _ _ ?_
                      refine S.cut (fun ρ' Γ' => ρ' = [(3, .int .i64 far), (9, .pointer (some ⟨b, 0, none⟩)), (11, .pointer (some ⟨c, 0, none⟩)), (13, .pointer (some ⟨b2, 0, none⟩)), (14, .pointer (some ⟨c2, 0, none⟩)), (15, .int .i64 (i : Int)), (16, .pointer (some ⟨b16, 0, none⟩)), (25, .int .i64 (upR mm x.k x.on).1), (54, s.v), (55, .int .i64 (s.n : Int)), (56, .int .i64 (i : Int))] ∧   Γ' = RI c m2 :: blk b16 71 (roC x).toArray :: MI b mm :: MI b2 mw :: RI c2 mw :: old W :: Γ) ?_ ?_
                      · refine S.cond rfl (fun h12 => ?_) (fun h12 => ?_)
                        · have hk2 := nodeB_iff.1 h12
                          obtain ⟨kn, hkn⟩ : ∃ kn : Nat, x.k = kn := ⟨x.k.toNat, by omega⟩
                          have hup : upR mm x.k x.on = (0, mm.setUp kn x.on) := by rw [upR, if_pos h12, hkn, Int.toNat_natCast]
                          have hm4 : mm.setUp kn x.on = m2 := by rw [hop, hup]
                          refine S.ownSome us (by have := hmm.N1; omega) fun ub uo hua hul _ _ => ?_
                          refine S.seq fun K34 hK34 => ?_
                          refine S.draw ([blk b16 71 (roC x).toArray, blk c 55 #[cs.v, us.v]]) [9] Tryd.mixed ?_
                          refine S.dr_take 0 [1, 2, 3, 8, 9] rfl (by kernel_rfl) rfl rfl rfl (q_move rfl) Sub.ent ?_
                          refine S.dr_take 1 [2, 3, 8, 9] rfl (by kernel_rfl) rfl rfl rfl (q_nilCheck rfl) Sub.ent ?_
                          refine S.dr_take 2 [3, 8, 9] rfl (by kernel_rfl) rfl rfl rfl (q_field Tryd.fo55_1 rfl) Sub.ent ?_
                          refine S.dr_take 3 [8, 9] rfl (by kernel_rfl) rfl rfl rfl (q_load Tryd.at53 rfl rfl) Sub.ent ?_
                          refine S.dr_take 4 [5, 8, 9] rfl (by kernel_rfl) rfl rfl rfl (q_field Tryd.fo71_2 rfl) Sub.ent ?_
                          refine S.dr_take 5 [8, 9] rfl (by kernel_rfl) rfl rfl rfl (q_load Tryd.at3 rfl rfl) Sub.ent ?_
                          refine S.dr_take 6 [7, 8, 9] rfl (by kernel_rfl) rfl rfl rfl (q_field Tryd.fo71_4 rfl) Sub.ent ?_
                          refine S.dr_take 7 [8, 9] rfl (by kernel_rfl) rfl rfl rfl (q_load Tryd.at4 rfl rfl) Sub.ent ?_
                          refine S.dr_take 8 [9] rfl (by kernel_rfl) rfl rfl rfl (q_indexO (kn) Tryd.el53 rfl hua rfl hkn (by omega)) Sub.ent ?_
                          refine S.dr_1 (i := 9) (by kernel_rfl) rfl rfl ?_
                          refine  (S.storeOw (us) (kn) Tryd.at4 rfl rfl rfl hua (by first | rfl | exact Nat.add_assoc _ _ _ | omega) (by show kn < (upC mm).length; rw [List.length_map, List.length_range]; omega) (upC_set2 hmN (by omega) x.on) ?_)
                          refine S.dr_late ([]) [] rfl ?_
                          first | with_reducible refine S.dr_doneK (by kernel_rfl) ?_ | refine S.dr_done (by kernel_rfl) ?_
                          refine hK34 _ _ ?_
                          refine S.region rfl ?_
                          refine S.op (S.q (q_assign rfl) rfl rfl ?_)
                          first | with_reducible refine S.nilK ?_ | refine S.nil ?_
                          with_reducible repeat (first | refine S.then_n ?_ | refine S.then_x ?_ | refine S.then_r ?_ | refine S.inBlock_n ?_ | refine S.inBlock_r ?_ | refine S.inBlock_x rfl ?_ | refine S.noGoto_r ?_ | refine S.noGoto_n ?_ | refine S.noGoto_x ?_)
                          first | (refine S.riClose c (mm.setUp kn x.on) cs us rs (hri.setUp2 (by omega) x.on) ?_; rw [hup, hm4]; exact S.meet ⟨rfl, rfl⟩ ⟨rfl, rfl, rfl, rfl, rfl, rfl, rfl, rfl, rfl, rfl, rfl, trivial⟩ Sub.ent) | (refine S.riClose c mm cs us rs hri ?_; rw [hup, hm4]; exact S.meet ⟨rfl, rfl⟩ ⟨rfl, rfl, rfl, rfl, rfl, rfl, rfl, rfl, rfl, rfl, rfl, trivial⟩ Sub.ent)
                        · have hup : upR mm x.k x.on = (1, mm) := by rw [upR, if_neg (by rw [h12]; decide)]
                          have hm4 : mm = m2 := by rw [hop, hup]
                          refine S.skip ?_
                          with_reducible repeat (first | refine S.then_n ?_ | refine S.then_x ?_ | refine S.then_r ?_ | refine S.inBlock_n ?_ | refine S.inBlock_r ?_ | refine S.inBlock_x rfl ?_ | refine S.noGoto_r ?_ | refine S.noGoto_n ?_ | refine S.noGoto_x ?_)
                          with_reducible repeat (first | refine S.then_n ?_ | refine S.then_x ?_ | refine S.then_r ?_ | refine S.inBlock_n ?_ | refine S.inBlock_r ?_ | refine S.inBlock_x rfl ?_ | refine S.noGoto_r ?_ | refine S.noGoto_n ?_ | refine S.noGoto_x ?_)
                          first | (refine S.riClose c (mm.setUp kn x.on) cs us rs (hri.setUp2 (by omega) x.on) ?_; rw [hup, hm4]; exact S.meet ⟨rfl, rfl⟩ ⟨rfl, rfl, rfl, rfl, rfl, rfl, rfl, rfl, rfl, rfl, rfl, trivial⟩ Sub.ent) | (refine S.riClose c mm cs us rs hri ?_; rw [hup, hm4]; exact S.meet ⟨rfl, rfl⟩ ⟨rfl, rfl, rfl, rfl, rfl, rfl, rfl, rfl, rfl, rfl, rfl, trivial⟩ Sub.ent)
                      · rintro ρ' Γ' ⟨rfl, rfl⟩
                        refine hK30 _ _ ?_
                        refine S.regionG ?_
                        refine S.g_op rfl (S.q (q_move rfl) rfl rfl ?_)
                        refine S.g_op rfl (S.q (q_field Tryd.fo71_2 rfl) rfl rfl ?_)
                        refine S.g_op rfl (S.q (q_load Tryd.at3 rfl rfl) rfl rfl ?_)
                        refine S.g_op rfl (S.q (q_field Tryd.fo71_4 rfl) rfl rfl ?_)
                        refine S.g_op rfl (S.q (q_load Tryd.at4 rfl rfl) rfl rfl ?_)
                        refine S.g_op rfl (S.call Tryd.en34 (vs := [_, _, _]) ⟨rfl, rfl, rfl, trivial⟩ (Up_S b mm x.k x.on) rfl ?_)
                        rintro v Θ ⟨rfl, rfl⟩
                        rw [← hop]
                        refine S.g_op rfl (S.q (q_move rfl) rfl rfl ?_)
                        refine S.g_op rfl (S.q (q_eq rfl rfl) rfl rfl ?_)
                        refine S.g_op rfl (S.q (q_move rfl) rfl rfl ?_)
                        refine S.g_yes rfl rfl rfl ((decide_eq_true rfl)) (S.q (q_move rfl) rfl rfl ?_)
                        refine S.g_yes rfl rfl rfl ((decide_eq_true rfl)) (S.q (q_field Tryd.fo71_2 rfl) rfl rfl ?_)
                        refine S.g_yes rfl rfl rfl ((decide_eq_true rfl)) (S.q (q_load Tryd.at3 rfl rfl) rfl rfl ?_)
                        refine S.g_yes rfl rfl rfl ((decide_eq_true rfl)) (S.call Tryd.en35 (vs := [_, _]) ⟨rfl, rfl, trivial⟩ (IsUp_S b m2 x.k) rfl ?_)
                        rintro v Θ ⟨rfl, rfl⟩
                        refine S.g_yes rfl rfl rfl ((decide_eq_true rfl)) (S.q (q_move rfl) rfl rfl ?_)
                        refine S.g_yes rfl rfl rfl ((decide_eq_true rfl)) (S.q (q_eq rfl rfl) rfl rfl ?_)
                        refine S.g_yes rfl rfl rfl ((decide_eq_true rfl)) (S.q (q_move rfl) rfl rfl ?_)
                        by_cases hg32_15 : (upR mm x.k x.on).1 = 0
                        · have htrue : (isUpB m2 x.k == x.on) = true := by rw [hiu, if_pos hg32_15]; exact beq_self_eq_true _
                          refine S.g_yes rfl rfl rfl (decide_eq_true hg32_15) (S.q (q_field Tryd.fo71_4 rfl) rfl rfl ?_)
                          refine S.g_yes rfl rfl rfl (decide_eq_true hg32_15) (S.q (q_load Tryd.at4 rfl rfl) rfl rfl ?_)
                          refine S.g_yes rfl rfl rfl ((decide_eq_true rfl)) (S.q (q_pickT rfl (decide_eq_true hg32_15) rfl) rfl rfl ?_)
                          refine S.g_yes rfl rfl rfl ((decide_eq_true rfl)) (S.q (q_eqB Tryd.underlying4 rfl rfl) rfl rfl ?_)
                          refine S.g_op rfl (S.q (q_pickT rfl ((decide_eq_true rfl)) rfl) rfl rfl ?_)
                          refine S.g_op rfl (S.q (q_assign rfl) rfl rfl ?_)
                          first | with_reducible refine S.g_nilK ?_ | refine S.g_nil ?_
                          with_reducible repeat (first | refine S.then_n ?_ | refine S.then_x ?_ | refine S.then_r ?_ | refine S.inBlock_n ?_ | refine S.inBlock_r ?_ | refine S.inBlock_x rfl ?_ | refine S.noGoto_r ?_ | refine S.noGoto_n ?_ | refine S.noGoto_x ?_)
                          with_reducible repeat (first | refine S.then_n ?_ | refine S.then_x ?_ | refine S.then_r ?_ | refine S.inBlock_n ?_ | refine S.inBlock_r ?_ | refine S.inBlock_x rfl ?_ | refine S.noGoto_r ?_ | refine S.noGoto_n ?_ | refine S.noGoto_x ?_)
                          first | (rw [hm3]; rw [decide_eq_true (show g = g from rfl)]; exact S.meet ⟨hok2, rfl, rfl⟩ ⟨rfl, rfl, rfl, rfl, rfl, rfl, rfl, rfl, rfl, rfl, trivial⟩ Sub.ent) | (rw [← hop]; rw [decide_eq_true (show g = g from rfl)]; exact S.meet ⟨hok2, rfl, rfl⟩ ⟨rfl, rfl, rfl, rfl, rfl, rfl, rfl, rfl, rfl, rfl, trivial⟩ Sub.ent) | (rw [htrue]; exact S.meet ⟨hok2, rfl, rfl⟩ ⟨rfl, rfl, rfl, rfl, rfl, rfl, rfl, rfl, rfl, rfl, trivial⟩ Sub.ent) | (rw [hop]; exact S.meet ⟨hmm, rfl, rfl⟩ ⟨rfl, rfl, rfl, rfl, rfl, rfl, rfl, rfl, rfl, rfl, trivial⟩ Sub.ent)
                        · have htrue : (isUpB m2 x.k == false) = true := by rw [hiu, if_neg hg32_15]; rfl
                          refine S.g_no rfl rfl rfl (decide_eq_false hg32_15) rfl rfl ?_
                          refine S.g_no rfl rfl rfl (decide_eq_false hg32_15) rfl rfl ?_
                          refine S.g_yes rfl rfl rfl ((decide_eq_true rfl)) (S.q (q_pickF rfl (decide_eq_false hg32_15) rfl) rfl rfl ?_)
                          refine S.g_yes rfl rfl rfl ((decide_eq_true rfl)) (S.q (q_eqB Tryd.underlying4 rfl rfl) rfl rfl ?_)
                          refine S.g_op rfl (S.q (q_pickT rfl ((decide_eq_true rfl)) rfl) rfl rfl ?_)
                          refine S.g_op rfl (S.q (q_assign rfl) rfl rfl ?_)
                          first | with_reducible refine S.g_nilK ?_ | refine S.g_nil ?_
                          with_reducible repeat (first | refine S.then_n ?_ | refine S.then_x ?_ | refine S.then_r ?_ | refine S.inBlock_n ?_ | refine S.inBlock_r ?_ | refine S.inBlock_x rfl ?_ | refine S.noGoto_r ?_ | refine S.noGoto_n ?_ | refine S.noGoto_x ?_)
                          with_reducible repeat (first | refine S.then_n ?_ | refine S.then_x ?_ | refine S.then_r ?_ | refine S.inBlock_n ?_ | refine S.inBlock_r ?_ | refine S.inBlock_x rfl ?_ | refine S.noGoto_r ?_ | refine S.noGoto_n ?_ | refine S.noGoto_x ?_)
                          first | (rw [hm3]; rw [decide_eq_true (show g = g from rfl)]; exact S.meet ⟨hok2, rfl, rfl⟩ ⟨rfl, rfl, rfl, rfl, rfl, rfl, rfl, rfl, rfl, rfl, trivial⟩ Sub.ent) | (rw [← hop]; rw [decide_eq_true (show g = g from rfl)]; exact S.meet ⟨hok2, rfl, rfl⟩ ⟨rfl, rfl, rfl, rfl, rfl, rfl, rfl, rfl, rfl, rfl, trivial⟩ Sub.ent) | (rw [htrue]; exact S.meet ⟨hok2, rfl, rfl⟩ ⟨rfl, rfl, rfl, rfl, rfl, rfl, rfl, rfl, rfl, rfl, trivial⟩ Sub.ent) | (rw [hop]; exact S.meet ⟨hmm, rfl, rfl⟩ ⟨rfl, rfl, rfl, rfl, rfl, rfl, rfl, rfl, rfl, rfl, trivial⟩ Sub.ent)
                  · have hop : m2 = mm := by rw [hm2, opR, if_neg h7, if_neg h8, if_neg h9, if_neg h10]
                    refine S.skip ?_
                    with_reducible repeat (first | refine S.then_n ?_ | refine S.then_x ?_ | refine S.then_r ?_ | refine S.inBlock_n ?_ | refine S.inBlock_r ?_ | refine S.inBlock_x rfl ?_ | refine S.noGoto_r ?_ | refine S.noGoto_n ?_ | refine S.noGoto_x ?_)
                    with_reducible repeat (first | refine S.then_n ?_ | refine S.then_x ?_ | refine S.then_r ?_ | refine S.inBlock_n ?_ | refine S.inBlock_r ?_ | refine S.inBlock_x rfl ?_ | refine S.noGoto_r ?_ | refine S.noGoto_n ?_ | refine S.noGoto_x ?_)
                    with_reducible repeat (first | refine S.then_n ?_ | refine S.then_x ?_ | refine S.then_r ?_ | refine S.inBlock_n ?_ | refine S.inBlock_r ?_ | refine S.inBlock_x rfl ?_ | refine S.noGoto_r ?_ | refine S.noGoto_n ?_ | refine S.noGoto_x ?_)
                    first | (rw [hm3]; rw [decide_eq_true (show g = g from rfl)]; exact S.meet ⟨hok2, rfl, rfl⟩ ⟨rfl, rfl, rfl, rfl, rfl, rfl, rfl, rfl, rfl, rfl, trivial⟩ Sub.ent) | (rw [← hop]; rw [decide_eq_true (show g = g from rfl)]; exact S.meet ⟨hok2, rfl, rfl⟩ ⟨rfl, rfl, rfl, rfl, rfl, rfl, rfl, rfl, rfl, rfl, trivial⟩ Sub.ent) | (rw [htrue]; exact S.meet ⟨hok2, rfl, rfl⟩ ⟨rfl, rfl, rfl, rfl, rfl, rfl, rfl, rfl, rfl, rfl, trivial⟩ Sub.ent) | (rw [hop]; exact S.meet ⟨hmm, rfl, rfl⟩ ⟨rfl, rfl, rfl, rfl, rfl, rfl, rfl, rfl, rfl, rfl, trivial⟩ Sub.ent)
        · rintro ρ' Γ' ⟨hok2, rfl, rfl⟩
          refine hK19 _ _ ?_
          refine S.seq fun K35 hK35 => ?_
          refine S.seq fun K36 hK36 => ?_
          refine S.regionG ?_
          refine S.g_op rfl (S.q (q_move rfl) rfl rfl ?_)
          refine S.g_op rfl (S.q (q_not rfl) rfl rfl ?_)
          refine S.g_op rfl (S.q (q_move rfl) rfl rfl ?_)
          refine S.g_yes rfl rfl rfl (rfl) (S.q (q_move rfl) rfl rfl ?_)
          refine S.g_yes rfl rfl rfl (rfl) (S.q (q_move rfl) rfl rfl ?_)
          refine S.g_yes rfl rfl rfl (rfl) (S.q (q_move rfl) rfl rfl ?_)
          refine S.g_yes rfl rfl rfl (rfl) (S.call Tryd.en36 (vs := [_, _, _]) ⟨rfl, rfl, rfl, trivial⟩ (alike_S b c m2 far hW) rfl ?_)
          rintro v Θ ⟨rfl, rfl⟩
          refine S.g_yes rfl rfl rfl (rfl) (S.q (q_not rfl) rfl rfl ?_)
          refine S.g_op rfl (S.q (q_pickF rfl (rfl) rfl) rfl rfl ?_)
          first | with_reducible refine S.g_nilK ?_ | refine S.g_nil ?_
          refine hK36 _ _ ?_
          refine S.condF rfl ?_
          refine S.skip ?_
          with_reducible repeat (first | refine S.then_n ?_ | refine S.then_x ?_ | refine S.then_r ?_ | refine S.inBlock_n ?_ | refine S.inBlock_r ?_ | refine S.inBlock_x rfl ?_ | refine S.noGoto_r ?_ | refine S.noGoto_n ?_ | refine S.noGoto_x ?_)
          refine hK35 _ _ ?_
          refine S.seq fun K37 hK37 => ?_
          refine S.region rfl ?_
          refine S.op (S.q (q_move rfl) rfl rfl ?_)
          refine S.op (S.q (q_eq rfl rfl) rfl rfl ?_)
          first | with_reducible refine S.nilK ?_ | refine S.nil ?_
          refine hK37 _ _ ?_
          refine S.condD rfl (fun h14 => ?_) (fun h14 => ?_)
          · refine S.region rfl ?_
            refine S.op (S.q (q_move rfl) rfl rfl ?_)
            refine S.op (S.call Tryd.en25 (vs := [_]) ⟨rfl, trivial⟩ (Copy_S b m2) rfl ?_)
            rintro v Θ ⟨b3, rfl, rfl⟩
            refine S.op (S.q (q_move rfl) rfl rfl ?_)
            refine S.op (S.call Tryd.en26 (vs := [_]) ⟨rfl, trivial⟩ (rCopy_S c m2) rfl ?_)
            rintro v Θ ⟨c3, rfl, rfl⟩
            refine S.op (S.q (q_assign rfl) rfl rfl ?_)
            refine S.op (S.q (q_assign rfl) rfl rfl ?_)
            first | with_reducible refine S.nilK ?_ | refine S.nil ?_
            with_reducible repeat (first | refine S.then_n ?_ | refine S.then_x ?_ | refine S.then_r ?_ | refine S.inBlock_n ?_ | refine S.inBlock_r ?_ | refine S.inBlock_x rfl ?_ | refine S.noGoto_r ?_ | refine S.noGoto_n ?_ | refine S.noGoto_x ?_)
            refine hK13 _ _ ?_
            refine S.region rfl ?_
            refine S.op (S.q (q_add rfl rfl (inI64 (by omega) (by omega))) rfl rfl ?_)
            refine S.op (S.q (q_move rfl) rfl rfl ?_)
            first | with_reducible refine S.nilK ?_ | refine S.nil ?_
            with_reducible repeat (first | refine S.then_n ?_ | refine S.then_x ?_ | refine S.then_r ?_ | refine S.inBlock_n ?_ | refine S.inBlock_r ?_ | refine S.inBlock_x rfl ?_ | refine S.noGoto_r ?_ | refine S.noGoto_n ?_ | refine S.noGoto_x ?_)
            first | exact S.next (q - 1) ⟨i + 1, m2, m2, b3, c3, by omega, by omega, hok2, rfl, rfl⟩ (by omega) (by repeat (first | exact trivial | refine ⟨rfl, ?_⟩)) Sub.ent | exact S.next (q - 1) ⟨i + 1, m2, mw, b2, c2, by omega, by omega, hok2, rfl, rfl⟩ (by omega) (by repeat (first | exact trivial | refine ⟨rfl, ?_⟩)) Sub.ent
          · refine S.skip ?_
            with_reducible repeat (first | refine S.then_n ?_ | refine S.then_x ?_ | refine S.then_r ?_ | refine S.inBlock_n ?_ | refine S.inBlock_r ?_ | refine S.inBlock_x rfl ?_ | refine S.noGoto_r ?_ | refine S.noGoto_n ?_ | refine S.noGoto_x ?_)
            with_reducible repeat (first | refine S.then_n ?_ | refine S.then_x ?_ | refine S.then_r ?_ | refine S.inBlock_n ?_ | refine S.inBlock_r ?_ | refine S.inBlock_x rfl ?_ | refine S.noGoto_r ?_ | refine S.noGoto_n ?_ | refine S.noGoto_x ?_)
            refine hK13 _ _ ?_
            refine S.region rfl ?_
            refine S.op (S.q (q_add rfl rfl (inI64 (by omega) (by omega))) rfl rfl ?_)
            refine S.op (S.q (q_move rfl) rfl rfl ?_)
            first | with_reducible refine S.nilK ?_ | refine S.nil ?_
            with_reducible repeat (first | refine S.then_n ?_ | refine S.then_x ?_ | refine S.then_r ?_ | refine S.inBlock_n ?_ | refine S.inBlock_r ?_ | refine S.inBlock_x rfl ?_ | refine S.noGoto_r ?_ | refine S.noGoto_n ?_ | refine S.noGoto_x ?_)
            first | exact S.next (q - 1) ⟨i + 1, m2, m2, b3, c3, by omega, by omega, hok2, rfl, rfl⟩ (by omega) (by repeat (first | exact trivial | refine ⟨rfl, ?_⟩)) Sub.ent | exact S.next (q - 1) ⟨i + 1, m2, mw, b2, c2, by omega, by omega, hok2, rfl, rfl⟩ (by omega) (by repeat (first | exact trivial | refine ⟨rfl, ?_⟩)) Sub.ent
    · refine S.exit ?_
      with_reducible repeat (first | refine S.then_n ?_ | refine S.then_x ?_ | refine S.then_r ?_ | refine S.inBlock_n ?_ | refine S.inBlock_r ?_ | refine S.inBlock_x rfl ?_ | refine S.noGoto_r ?_ | refine S.noGoto_n ?_ | refine S.noGoto_x ?_)
      with_reducible refine S.inBlock_s ?_
      with_reducible repeat (first | refine S.then_n ?_ | refine S.then_x ?_ | refine S.then_r ?_ | refine S.inBlock_n ?_ | refine S.inBlock_r ?_ | refine S.inBlock_x rfl ?_ | refine S.noGoto_r ?_ | refine S.noGoto_n ?_ | refine S.noGoto_x ?_)
      with_reducible repeat (first | refine S.then_n ?_ | refine S.then_x ?_ | refine S.then_r ?_ | refine S.inBlock_n ?_ | refine S.inBlock_r ?_ | refine S.inBlock_x rfl ?_ | refine S.noGoto_r ?_ | refine S.noGoto_n ?_ | refine S.noGoto_x ?_)
      exact S.meet ⟨mw, b2, c2, rfl, rfl⟩ ⟨rfl, rfl, rfl, trivial⟩ Sub.ent
  · rintro ρ' Γ' ⟨mw, b2, c2, rfl, rfl⟩
    refine hK9 _ _ ?_
    refine S.seq fun K38 hK38 => ?_
    refine S.region rfl ?_
    refine S.op (S.q (q_move rfl) rfl rfl ?_)
    refine S.op (S.q (q_move rfl) rfl rfl ?_)
    refine S.op (S.q (q_move rfl) rfl rfl ?_)
    refine S.op (S.call Tryd.en36 (vs := [_, _, _]) ⟨rfl, rfl, rfl, trivial⟩ (alike_S b2 c2 mw far hW) rfl ?_)
    rintro v Θ ⟨rfl, rfl⟩
    refine S.op (S.q (q_assign rfl) rfl rfl ?_)
    first | with_reducible refine S.nilK ?_ | refine S.nil ?_
    refine hK38 _ _ ?_
    refine S.ret ?_
    with_reducible repeat (first | refine S.then_n ?_ | refine S.then_x ?_ | refine S.then_r ?_ | refine S.inBlock_n ?_ | refine S.inBlock_r ?_ | refine S.inBlock_x rfl ?_ | refine S.noGoto_r ?_ | refine S.noGoto_n ?_ | refine S.noGoto_x ?_)
    exact S.fin (rs := [_]) (vs := [_]) Tryd.results5 (⟨rfl, trivial⟩)  (⟨rfl, rfl⟩) Sub.ent
set_option maxHeartbeats 4000000 in
theorem RowsPlays_B (r n far : Int) (l : List Ro) (s : SV) (hbad : ¬ (1 ≤ r ∧ r ≤ 8 ∧ 1 ≤ n ∧ n ≤ 16)) {W : World} (hW : TabW W) (hs : RoW W s l) : LawS 5 [.int .i64 r, .int .i64 n, s.v, .int .i64 far] W := by
  refine Spec.of_body Tryd.func5 rfl Tryd.ntmps5 rfl ?_
  intro w0 Γ
  show S _ w0 [(0, .int .i64 r), (1, .int .i64 n), (2, s.v), (3, .int .i64 far)] (old W :: Γ) _
  have hRs : RdS (old W) s l.length 5 (l.flatMap roC) := RdS.old hs.at_
  have hsn := hs.len
  refine S.rCap hRs fun _ hc1 hc2 => ?_
  refine S.seq fun K1 hK1 => ?_
  refine S.region rfl ?_
  refine S.op (S.q (q_assign rfl) rfl rfl ?_)
  first | with_reducible refine S.nilK ?_ | refine S.nil ?_
  refine hK1 _ _ ?_
  refine S.seq fun K2 hK2 => ?_
  refine S.seq fun K3 hK3 => ?_
  refine S.region rfl ?_
  refine S.op (S.call Tryd.en22 (vs := []) trivial (awake_S hW) rfl ?_)
  rintro v Θ ⟨rfl, rfl⟩
  refine S.op (S.q (q_not rfl) rfl rfl ?_)
  first | with_reducible refine S.nilK ?_ | refine S.nil ?_
  refine hK3 _ _ ?_
  refine S.condF rfl ?_
  refine S.skip ?_
  with_reducible repeat (first | refine S.then_n ?_ | refine S.then_x ?_ | refine S.then_r ?_ | refine S.inBlock_n ?_ | refine S.inBlock_r ?_ | refine S.inBlock_x rfl ?_ | refine S.noGoto_r ?_ | refine S.noGoto_n ?_ | refine S.noGoto_x ?_)
  refine hK2 _ _ ?_
  refine S.seq fun K4 hK4 => ?_
  refine S.region rfl ?_
  refine S.op (S.q (q_move rfl) rfl rfl ?_)
  refine S.op (S.q (q_move rfl) rfl rfl ?_)
  refine S.op (S.call Tryd.en23 (vs := [_, _]) ⟨rfl, rfl, trivial⟩ (NewBad_S r n hbad) rfl ?_)
  rintro v Θ ⟨rfl, rfl⟩
  refine S.op (S.q (q_move rfl) rfl rfl ?_)
  refine S.op (S.q (q_extract rfl rfl) rfl rfl ?_)
  refine S.op (S.q (q_extract rfl rfl) rfl rfl ?_)
  refine S.op (S.q (q_assign rfl) rfl rfl ?_)
  refine S.op (S.q (q_assign rfl) rfl rfl ?_)
  first | with_reducible refine S.nilK ?_ | refine S.nil ?_
  refine hK4 _ _ ?_
  refine S.seq fun K5 hK5 => ?_
  refine S.region rfl ?_
  refine S.op (S.q (q_move rfl) rfl rfl ?_)
  refine S.op (S.q (q_move rfl) rfl rfl ?_)
  refine S.op (S.call Tryd.en24 (vs := [_, _]) ⟨rfl, rfl, trivial⟩ (rNewBad_S r n hbad) rfl ?_)
  rintro v Θ ⟨rfl, rfl⟩
  refine S.op (S.q (q_move rfl) rfl rfl ?_)
  refine S.op (S.q (q_extract rfl rfl) rfl rfl ?_)
  refine S.op (S.q (q_extract rfl rfl) rfl rfl ?_)
  refine S.op (S.q (q_assign rfl) rfl rfl ?_)
  refine S.op (S.q (q_assign rfl) rfl rfl ?_)
  first | with_reducible refine S.nilK ?_ | refine S.nil ?_
  refine hK5 _ _ ?_
  refine S.seq fun K6 hK6 => ?_
  refine S.seq fun K7 hK7 => ?_
  refine S.regionG ?_
  refine S.g_op rfl (S.q (q_move rfl) rfl rfl ?_)
  refine S.g_op rfl (S.q (q_move rfl) rfl rfl ?_)
  refine S.g_op rfl (S.q (q_ne rfl rfl) rfl rfl ?_)
  refine S.g_op rfl (S.q (q_move rfl) rfl rfl ?_)
  refine S.g_yes rfl rfl rfl ((decide_eq_false (fun h => h rfl))) (S.q (q_move rfl) rfl rfl ?_)
  refine S.g_yes rfl rfl rfl ((decide_eq_false (fun h => h rfl))) (S.q (q_eqN Tryd.underlying25 rfl rfl) rfl rfl ?_)
  refine S.g_yes rfl rfl rfl ((decide_eq_false (fun h => h rfl))) (S.q (q_move rfl) rfl rfl ?_)
  refine S.g_yes rfl rfl rfl ((decide_eq_false (fun h => h rfl))) (S.q (q_eqN Tryd.underlying26 rfl rfl) rfl rfl ?_)
  refine S.g_yes rfl rfl rfl ((decide_eq_false (fun h => h rfl))) (S.q (q_neB Tryd.underlying4 rfl rfl) rfl rfl ?_)
  refine S.g_op rfl (S.q (q_pickF rfl ((decide_eq_false (fun h => h rfl))) rfl) rfl rfl ?_)
  first | with_reducible refine S.g_nilK ?_ | refine S.g_nil ?_
  refine hK7 _ _ ?_
  refine S.condF rfl ?_
  refine S.skip ?_
  with_reducible repeat (first | refine S.then_n ?_ | refine S.then_x ?_ | refine S.then_r ?_ | refine S.inBlock_n ?_ | refine S.inBlock_r ?_ | refine S.inBlock_x rfl ?_ | refine S.noGoto_r ?_ | refine S.noGoto_n ?_ | refine S.noGoto_x ?_)
  refine hK6 _ _ ?_
  refine S.seq fun K8 hK8 => ?_
  refine S.region rfl ?_
  refine S.op (S.q (q_move rfl) rfl rfl ?_)
  refine S.op (S.call Tryd.en25 (vs := [_]) ⟨rfl, trivial⟩ (NCopy_S) rfl ?_)
  rintro v Θ ⟨rfl, rfl⟩
  refine S.op (S.q (q_move rfl) rfl rfl ?_)
  refine S.op (S.call Tryd.en26 (vs := [_]) ⟨rfl, trivial⟩ (rCopyNil_S) rfl ?_)
  rintro v Θ ⟨rfl, rfl⟩
  refine S.op (S.q (q_assign rfl) rfl rfl ?_)
  refine S.op (S.q (q_assign rfl) rfl rfl ?_)
  first | with_reducible refine S.nilK ?_ | refine S.nil ?_
  refine hK8 _ _ ?_
  refine S.seq fun K9 hK9 => ?_
  refine S.seq fun K10 hK10 => ?_
  refine S.region rfl ?_
  refine S.op (S.q (q_move rfl) rfl rfl ?_)
  refine S.op (S.q (q_len Tryd.underlying60 rfl) rfl rfl ?_)
  refine S.op (S.q (q_move rfl) rfl rfl ?_)
  first | with_reducible refine S.nilK ?_ | refine S.nil ?_
  refine hK10 _ _ ?_
  refine S.cut (fun ρ' Γ' => ρ' = [(3, .int .i64 far), (13, .pointer none), (14, .pointer none)] ∧ Γ' = old W :: Γ) ?_ ?_
  · refine S.block ?_
    refine S.loop (fun q ρ' Γ' => ∃ i : Nat, q = l.length - i ∧ i ≤ l.length ∧ ρ' = [(3, .int .i64 far), (9, .pointer none), (11, .pointer none), (13, .pointer none), (14, .pointer none), (54, s.v), (55, .int .i64 (s.n : Int)), (56, .int .i64 (i : Int))] ∧ Γ' = old W :: Γ) (m := _) (ρ0 := _) (Γ0 := _) (⟨0, rfl, by omega, rfl, rfl⟩) (by repeat (first | exact trivial | refine ⟨rfl, ?_⟩)) Sub.ent ?_
    rintro q ρ' Γ' ⟨i, hq, hi, rfl, rfl⟩
    refine S.seq fun K11 hK11 => ?_
    refine S.region rfl ?_
    refine S.op (S.q (q_lt rfl rfl) rfl rfl ?_)
    first | with_reducible refine S.nilK ?_ | refine S.nil ?_
    refine hK11 _ _ ?_
    refine S.seq fun K12 hK12 => ?_
    refine S.condD rfl (fun h3 => ?_) (fun h3 => ?_)
    · refine S.rSome hRs (by omega) fun sb so hsa => ?_
      obtain ⟨x, hx⟩ := getE (show i < l.length by omega)
      obtain ⟨hj, hk, hns, hnn⟩ := hs.each x (List.mem_of_getElem? hx)
      refine S.rCap (RdS.old hns) fun _ hn1 hn2 => ?_
      obtain ⟨nl, hnl⟩ : ∃ nl, nl = x.nl.take (min x.nl.length 20) := ⟨_, rfl⟩
      obtain ⟨kk, hkk⟩ : ∃ kk, kk = min x.nl.length 20 := ⟨_, rfl⟩
      refine S.skip ?_
      with_reducible repeat (first | refine S.then_n ?_ | refine S.then_x ?_ | refine S.then_r ?_ | refine S.inBlock_n ?_ | refine S.inBlock_r ?_ | refine S.inBlock_x rfl ?_ | refine S.noGoto_r ?_ | refine S.noGoto_n ?_ | refine S.noGoto_x ?_)
      refine hK12 _ _ ?_
      refine S.seq fun K13 hK13 => ?_
      refine S.block ?_
      refine S.seq fun K14 hK14 => ?_
      refine S.region rfl ?_
      refine S.op (S.q (q_move rfl) rfl rfl ?_)
      refine S.op (S.q (q_indexO (i) Tryd.el60 rfl hsa rfl rfl (by omega)) rfl rfl ?_)
      refine S.op (S.q (q_loadRS hRs (i * 5) (roC x) Tryd.ag71 rfl hsa (by omega) rfl rfl (flat_seg (enc := roC) (sz := 5) (fun _ => rfl) hx)) rfl rfl ?_)
      refine S.op (S.alloc Tryd.z71 rfl ?_)
      intro b16
      refine S.op (S.q (q_assign rfl) rfl rfl ?_)
      refine S.op (S.storeS (cs' := [_, _, _, _, _]) Tryd.ag71 rfl rfl rfl rfl rfl rfl ?_)
      first | with_reducible refine S.nilK ?_ | refine S.nil ?_
      refine hK14 _ _ ?_
      refine S.seq fun K15 hK15 => ?_
      refine S.seq fun K16 hK16 => ?_
      refine S.region rfl ?_
      refine S.op (S.q (q_move rfl) rfl rfl ?_)
      refine S.op (S.q (q_ge rfl rfl) rfl rfl ?_)
      first | with_reducible refine S.nilK ?_ | refine S.nil ?_
      refine hK16 _ _ ?_
      refine S.condD rfl (fun h4 => ?_) (fun h4 => ?_)
      · refine S.exit ?_
        with_reducible repeat (first | refine S.then_n ?_ | refine S.then_x ?_ | refine S.then_r ?_ | refine S.inBlock_n ?_ | refine S.inBlock_r ?_ | refine S.inBlock_x rfl ?_ | refine S.noGoto_r ?_ | refine S.noGoto_n ?_ | refine S.noGoto_x ?_)
        with_reducible refine S.inBlock_s ?_
        with_reducible repeat (first | refine S.then_n ?_ | refine S.then_x ?_ | refine S.then_r ?_ | refine S.inBlock_n ?_ | refine S.inBlock_r ?_ | refine S.inBlock_x rfl ?_ | refine S.noGoto_r ?_ | refine S.noGoto_n ?_ | refine S.noGoto_x ?_)
        with_reducible repeat (first | refine S.then_n ?_ | refine S.then_x ?_ | refine S.then_r ?_ | refine S.inBlock_n ?_ | refine S.inBlock_r ?_ | refine S.inBlock_x rfl ?_ | refine S.noGoto_r ?_ | refine S.noGoto_n ?_ | refine S.noGoto_x ?_)
        exact S.meet ⟨rfl, rfl⟩ ⟨rfl, rfl, rfl, trivial⟩ Sub.ent
      · refine S.skip ?_
        with_reducible repeat (first | refine S.then_n ?_ | refine S.then_x ?_ | refine S.then_r ?_ | refine S.inBlock_n ?_ | refine S.inBlock_r ?_ | refine S.inBlock_x rfl ?_ | refine S.noGoto_r ?_ | refine S.noGoto_n ?_ | refine S.noGoto_x ?_)
        refine hK15 _ _ ?_
        refine S.seq fun K17 hK17 => ?_
        refine S.region rfl ?_
        with_reducible refine S.opH fun KH12_0 hKH12_0 => ?_
        refine  (S.buildSlice0 Tryd.underlying69 Tryd.inf3 rfl ?_)
        intro b63 hb63
        refine hKH12_0 _ _ ?_
        with_reducible refine S.opH fun KH12_1 hKH12_1 => ?_
        refine  (S.q (q_field Tryd.fo71_3 rfl) rfl rfl ?_)
        refine hKH12_1 _ _ ?_
        with_reducible refine S.opH fun KH12_2 hKH12_2 => ?_
        refine  (S.q (q_load Tryd.at69 rfl rfl) rfl rfl ?_)
        refine hKH12_2 _ _ ?_
        with_reducible refine S.opH fun KH12_3 hKH12_3 => ?_
        refine  (S.q (q_field Tryd.fo71_3 rfl) rfl rfl ?_)
        refine hKH12_3 _ _ ?_
        with_reducible refine S.opH fun KH12_4 hKH12_4 => ?_
        refine  (S.q (q_load Tryd.at69 rfl rfl) rfl rfl ?_)
        refine hKH12_4 _ _ ?_
        with_reducible refine S.opH fun KH12_5 hKH12_5 => ?_
        refine  (S.q (q_len Tryd.underlying69 rfl) rfl rfl ?_)
        refine hKH12_5 _ _ ?_
        with_reducible refine S.opH fun KH12_6 hKH12_6 => ?_
        refine  (S.q (q_min ((kk : Int)) rfl rfl (⟨by omega, by omega, by omega⟩)) rfl rfl ?_)
        refine hKH12_6 _ _ ?_
        refine S.op (S.q (q_sliceTo (kk) Tryd.el69 rfl rfl rfl (by omega)) rfl rfl ?_)
        refine S.op (S.appendOw (s := b63) (kk) (ints nl) Tryd.underlying69 Tryd.inf3 rfl rfl rfl (fun w hs => (by rw [hnl, ← hkk]; exact rd_take hns hnn (by omega) hs)) (ints_one _) (⟨by omega, by omega⟩) rfl ?_)
        intro nv hnv
        rw [List.nil_append]
        refine S.op (S.q (q_assign rfl) rfl rfl ?_)
        first | with_reducible refine S.nilK ?_ | refine S.nil ?_
        refine hK17 _ _ ?_
        refine S.seq fun K18 hK18 => ?_
        refine S.region rfl ?_
        refine S.op (S.q (q_assign rfl) rfl rfl ?_)
        first | with_reducible refine S.nilK ?_ | refine S.nil ?_
        refine hK18 _ _ ?_
        refine S.seq fun K19 hK19 => ?_
        refine S.seq fun K20 hK20 => ?_
        refine S.region rfl ?_
        refine S.op (S.q (q_field Tryd.fo71_0 rfl) rfl rfl ?_)
        refine S.op (S.q (q_load Tryd.at5 rfl rfl) rfl rfl ?_)
        first | with_reducible refine S.nilK ?_ | refine S.nil ?_
        refine hK20 _ _ ?_
        refine S.cut (fun ρ' Γ' => ρ' = [(3, .int .i64 far), (9, .pointer none), (11, .pointer none), (13, .pointer none), (14, .pointer none), (15, .int .i64 (i : Int)), (18, .bool true), (54, s.v), (55, .int .i64 (s.n : Int)), (56, .int .i64 (i : Int))] ∧   Γ' = old W :: Γ) ?_ ?_
        · refine S.block ?_
          refine S.seq fun K21 hK21 => ?_
          refine S.seq fun K22 hK22 => ?_
          refine S.region rfl ?_
          refine S.op (S.q (q_eq rfl rfl) rfl rfl ?_)
          refine S.op (S.q (q_assign rfl) rfl rfl ?_)
          first | with_reducible refine S.nilK ?_ | refine S.nil ?_
          refine hK22 _ _ ?_
          refine S.cut (fun ρ' Γ' => ∃ t : Bool, ρ' = [(3, .int .i64 far), (9, .pointer none), (11, .pointer none), (13, .pointer none), (14, .pointer none), (15, .int .i64 (i : Int)), (16, .pointer (some ⟨b16, 0, none⟩)), (17, nv.v), (18, .bool true), (54, s.v), (55, .int .i64 (s.n : Int)), (56, .int .i64 (i : Int)), (73, .int .u8 x.od), (74, .bool t)] ∧   Γ' = own nv 3 1 (ints nl) :: blk b16 71 (roC x).toArray :: old W :: Γ) ?_ ?_
          · refine S.condD rfl (fun h5 => ?_) (fun h5 => ?_)
            · refine S.skip ?_
              with_reducible repeat (first | refine S.then_n ?_ | refine S.then_x ?_ | refine S.then_r ?_ | refine S.inBlock_n ?_ | refine S.inBlock_r ?_ | refine S.inBlock_x rfl ?_ | refine S.noGoto_r ?_ | refine S.noGoto_n ?_ | refine S.noGoto_x ?_)
              with_reducible repeat (first | refine S.then_n ?_ | refine S.then_x ?_ | refine S.then_r ?_ | refine S.inBlock_n ?_ | refine S.inBlock_r ?_ | refine S.inBlock_x rfl ?_ | refine S.noGoto_r ?_ | refine S.noGoto_n ?_ | refine S.noGoto_x ?_)
              exact S.meet ⟨_, rfl, rfl⟩ ⟨rfl, rfl, rfl, rfl, rfl, rfl, rfl, rfl, rfl, rfl, rfl, rfl, rfl, rfl, trivial⟩ Sub.ent
            · refine S.seq fun K23 hK23 => ?_
              refine S.region rfl ?_
              refine S.op (S.q (q_eq rfl rfl) rfl rfl ?_)
              refine S.op (S.q (q_assign rfl) rfl rfl ?_)
              first | with_reducible refine S.nilK ?_ | refine S.nil ?_
              refine hK23 _ _ ?_
              refine S.condD rfl (fun h6 => ?_) (fun h6 => ?_)
              · refine S.skip ?_
                with_reducible repeat (first | refine S.then_n ?_ | refine S.then_x ?_ | refine S.then_r ?_ | refine S.inBlock_n ?_ | refine S.inBlock_r ?_ | refine S.inBlock_x rfl ?_ | refine S.noGoto_r ?_ | refine S.noGoto_n ?_ | refine S.noGoto_x ?_)
                with_reducible repeat (first | refine S.then_n ?_ | refine S.then_x ?_ | refine S.then_r ?_ | refine S.inBlock_n ?_ | refine S.inBlock_r ?_ | refine S.inBlock_x rfl ?_ | refine S.noGoto_r ?_ | refine S.noGoto_n ?_ | refine S.noGoto_x ?_)
                exact S.meet ⟨_, rfl, rfl⟩ ⟨rfl, rfl, rfl, rfl, rfl, rfl, rfl, rfl, rfl, rfl, rfl, rfl, rfl, rfl, trivial⟩ Sub.ent
              · refine S.region rfl ?_
                refine S.op (S.q (q_eq rfl rfl) rfl rfl ?_)
                refine S.op (S.q (q_assign rfl) rfl rfl ?_)
                first | with_reducible refine S.nilK ?_ | refine S.nil ?_
                with_reducible repeat (first | refine S.then_n ?_ | refine S.then_x ?_ | refine S.then_r ?_ | refine S.inBlock_n ?_ | refine S.inBlock_r ?_ | refine S.inBlock_x rfl ?_ | refine S.noGoto_r ?_ | refine S.noGoto_n ?_ | refine S.noGoto_x ?_)
                exact S.meet ⟨_, rfl, rfl⟩ ⟨rfl, rfl, rfl, rfl, rfl, rfl, rfl, rfl, rfl, rfl, rfl, rfl, rfl, rfl, trivial⟩ Sub.ent
          · rintro ρ' Γ' ⟨t, rfl, rfl⟩
            refine hK21 _ _ ?_
            refine S.cond rfl (fun h7 => ?_) (fun h7 => ?_)
            · refine S.seq fun K24 hK24 => ?_
              refine S.region rfl ?_
              refine S.op (S.q (q_move rfl) rfl rfl ?_)
              refine S.op (S.q (q_field Tryd.fo71_1 rfl) rfl rfl ?_)
              refine S.op (S.q (q_load Tryd.at68 rfl rfl) rfl rfl ?_)
              refine S.op (S.q (q_field Tryd.fo71_2 rfl) rfl rfl ?_)
              refine S.op (S.q (q_load Tryd.at3 rfl rfl) rfl rfl ?_)
              refine S.op (S.call Tryd.en27 (vs := [_, _, _]) ⟨rfl, rfl, rfl, trivial⟩ (NPlace_S x.job x.k) rfl ?_)
              rintro v Θ ⟨rfl, rfl⟩
              refine S.op (S.q (q_move rfl) rfl rfl ?_)
              refine S.op (S.q (q_extract rfl rfl) rfl rfl ?_)
              refine S.op (S.q (q_extract rfl rfl) rfl rfl ?_)
              refine S.op (S.q (q_extract rfl rfl) rfl rfl ?_)
              refine S.op (S.q (q_assign rfl) rfl rfl ?_)
              refine S.op (S.q (q_assign rfl) rfl rfl ?_)
              refine S.op (S.q (q_assign rfl) rfl rfl ?_)
              first | with_reducible refine S.nilK ?_ | refine S.nil ?_
              refine hK24 _ _ ?_
              refine S.seq fun K25 hK25 => ?_
              refine S.region rfl ?_
              refine S.op (S.q (q_move rfl) rfl rfl ?_)
              refine S.op (S.q (q_field Tryd.fo71_1 rfl) rfl rfl ?_)
              refine S.op (S.q (q_load Tryd.at68 rfl rfl) rfl rfl ?_)
              refine S.op (S.q (q_field Tryd.fo71_2 rfl) rfl rfl ?_)
              refine S.op (S.q (q_load Tryd.at3 rfl rfl) rfl rfl ?_)
              refine S.op (S.call Tryd.en28 (vs := [_, _, _]) ⟨rfl, rfl, rfl, trivial⟩ (rPlaceNil_S x.job x.k) rfl ?_)
              rintro v Θ ⟨rfl, rfl⟩
              refine S.op (S.q (q_move rfl) rfl rfl ?_)
              refine S.op (S.q (q_extract rfl rfl) rfl rfl ?_)
              refine S.op (S.q (q_extract rfl rfl) rfl rfl ?_)
              refine S.op (S.q (q_extract rfl rfl) rfl rfl ?_)
              refine S.op (S.q (q_assign rfl) rfl rfl ?_)
              refine S.op (S.q (q_assign rfl) rfl rfl ?_)
              refine S.op (S.q (q_assign rfl) rfl rfl ?_)
              first | with_reducible refine S.nilK ?_ | refine S.nil ?_
              refine hK25 _ _ ?_
              refine S.regionG ?_
              refine S.g_op rfl (S.q (q_move rfl) rfl rfl ?_)
              refine S.g_op rfl (S.q (q_move rfl) rfl rfl ?_)
              refine S.g_op rfl (S.q (q_eq rfl rfl) rfl rfl ?_)
              refine S.g_op rfl (S.q (q_move rfl) rfl rfl ?_)
              refine S.g_yes rfl rfl rfl ((decide_eq_true rfl)) (S.q (q_move rfl) rfl rfl ?_)
              refine S.g_yes rfl rfl rfl ((decide_eq_true rfl)) (S.q (q_move rfl) rfl rfl ?_)
              refine S.ent (Ent.ownNil 3 1) ?_
              refine S.ent (Ent.ownNil 4 1) ?_
              show S _ w0 _ (own SV.nil 4 1 (nds []) :: own SV.nil 3 1 (nds []) :: _) _
              refine S.g_yes rfl rfl rfl ((decide_eq_true rfl)) (S.call Tryd.en29 (vs := [_, _]) ⟨rfl, rfl, trivial⟩ (SameInts_S (own SV.nil 3 1 (nds [])) (own SV.nil 4 1 (nds [])) SV.nil SV.nil (casts []) (casts []) (rdNds SV.nil 3 []) (rdNds SV.nil 4 []) rfl rfl) rfl ?_)
              rintro v Θ ⟨rfl, rfl⟩
              refine S.g_op rfl (S.q (q_pickT rfl ((decide_eq_true rfl)) rfl) rfl rfl ?_)
              refine S.g_op rfl (S.q (q_move rfl) rfl rfl ?_)
              refine S.g_yes rfl rfl rfl ((decide_eq_true rfl)) (S.q (q_move rfl) rfl rfl ?_)
              refine S.g_yes rfl rfl rfl ((decide_eq_true rfl)) (S.q (q_move rfl) rfl rfl ?_)
              refine S.g_yes rfl rfl rfl ((decide_eq_true rfl)) (S.q (q_eq rfl rfl) rfl rfl ?_)
              refine S.g_op rfl (S.q (q_pickT rfl ((decide_eq_true rfl)) rfl) rfl rfl ?_)
              refine S.g_op rfl (S.q (q_assign rfl) rfl rfl ?_)
              first | with_reducible refine S.g_nilK ?_ | refine S.g_nil ?_
              with_reducible repeat (first | refine S.then_n ?_ | refine S.then_x ?_ | refine S.then_r ?_ | refine S.inBlock_n ?_ | refine S.inBlock_r ?_ | refine S.inBlock_x rfl ?_ | refine S.noGoto_r ?_ | refine S.noGoto_n ?_ | refine S.noGoto_x ?_)
              with_reducible repeat (first | refine S.then_n ?_ | refine S.then_x ?_ | refine S.then_r ?_ | refine S.inBlock_n ?_ | refine S.inBlock_r ?_ | refine S.inBlock_x rfl ?_ | refine S.noGoto_r ?_ | refine S.noGoto_n ?_ | refine S.noGoto_x ?_)
              exact S.meet ⟨rfl, rfl⟩ ⟨rfl, rfl, rfl, rfl, rfl, rfl, rfl, rfl, rfl, rfl, trivial⟩ Sub.ent
            · refine S.seq fun K26 hK26 => ?_
              refine S.region rfl ?_
              refine S.op (S.q (q_eq rfl rfl) rfl rfl ?_)
              refine S.op (S.q (q_assign rfl) rfl rfl ?_)
              first | with_reducible refine S.nilK ?_ | refine S.nil ?_
              refine hK26 _ _ ?_
              refine S.condD rfl (fun h8 => ?_) (fun h8 => ?_)
              · refine S.draw ([blk b16 71 (roC x).toArray]) [] Tryd.mixed ?_
                refine S.dr_take 0 [] rfl (by kernel_rfl) rfl rfl rfl (q_move rfl) Sub.ent ?_
                refine S.dr_take 1 [] rfl (by kernel_rfl) rfl rfl rfl (q_field Tryd.fo71_1 rfl) Sub.ent ?_
                refine S.dr_take 2 [] rfl (by kernel_rfl) rfl rfl rfl (q_load Tryd.at68 rfl rfl) Sub.ent ?_
                refine S.dr_take 3 [] rfl (by kernel_rfl) rfl rfl rfl (q_field Tryd.fo71_2 rfl) Sub.ent ?_
                refine S.dr_take 4 [] rfl (by kernel_rfl) rfl rfl rfl (q_load Tryd.at3 rfl rfl) Sub.ent ?_
                refine S.dr_take 5 [] rfl (by kernel_rfl) rfl rfl rfl (q_move rfl) Sub.ent ?_
                refine S.dr_take 7 [] rfl (by kernel_rfl) rfl rfl rfl (q_move rfl) Sub.ent ?_
                refine S.dr_take 8 [] rfl (by kernel_rfl) rfl rfl rfl (q_field Tryd.fo71_1 rfl) Sub.ent ?_
                refine S.dr_take 9 [] rfl (by kernel_rfl) rfl rfl rfl (q_load Tryd.at68 rfl rfl) Sub.ent ?_
                refine S.dr_take 10 [] rfl (by kernel_rfl) rfl rfl rfl (q_field Tryd.fo71_2 rfl) Sub.ent ?_
                refine S.dr_take 11 [] rfl (by kernel_rfl) rfl rfl rfl (q_load Tryd.at3 rfl rfl) Sub.ent ?_
                refine S.dr_take 12 [] rfl (by kernel_rfl) rfl rfl rfl (q_move rfl) Sub.ent ?_
                refine S.dr_1 (i := 6) (by kernel_rfl) rfl rfl ?_
                refine  (S.call Tryd.en30 (vs := [_, _, _, _]) ⟨rfl, rfl, rfl, rfl, trivial⟩ (NPut_S x.job x.k nv) rfl ?_)
                rintro v Θ ⟨rfl, rfl⟩
                refine S.dr_k rfl Sub.ent ?_
                refine S.dr_1 (i := 13) (by kernel_rfl) rfl rfl ?_
                refine  (S.call Tryd.en31 (vs := [_, _, _, _]) ⟨rfl, rfl, rfl, rfl, trivial⟩ (rPutNil_S x.job x.k nv) rfl ?_)
                rintro v Θ ⟨rfl, rfl⟩
                refine S.dr_k rfl Sub.ent ?_
                refine S.dr_take 14 [] rfl (by kernel_rfl) rfl rfl rfl (q_eq rfl rfl) Sub.ent ?_
                refine S.dr_take 15 [] rfl (by kernel_rfl) rfl rfl rfl (q_assign rfl) Sub.ent ?_
                first | with_reducible refine S.dr_doneK (by kernel_rfl) ?_ | refine S.dr_done (by kernel_rfl) ?_
                with_reducible repeat (first | refine S.then_n ?_ | refine S.then_x ?_ | refine S.then_r ?_ | refine S.inBlock_n ?_ | refine S.inBlock_r ?_ | refine S.inBlock_x rfl ?_ | refine S.noGoto_r ?_ | refine S.noGoto_n ?_ | refine S.noGoto_x ?_)
                with_reducible repeat (first | refine S.then_n ?_ | refine S.then_x ?_ | refine S.then_r ?_ | refine S.inBlock_n ?_ | refine S.inBlock_r ?_ | refine S.inBlock_x rfl ?_ | refine S.noGoto_r ?_ | refine S.noGoto_n ?_ | refine S.noGoto_x ?_)
                exact S.meet ⟨rfl, rfl⟩ ⟨rfl, rfl, rfl, rfl, rfl, rfl, rfl, rfl, rfl, rfl, trivial⟩ Sub.ent
              · refine S.seq fun K27 hK27 => ?_
                refine S.region rfl ?_
                refine S.op (S.q (q_eq rfl rfl) rfl rfl ?_)
                refine S.op (S.q (q_assign rfl) rfl rfl ?_)
                first | with_reducible refine S.nilK ?_ | refine S.nil ?_
                refine hK27 _ _ ?_
                refine S.condD rfl (fun h9 => ?_) (fun h9 => ?_)
                · refine S.draw ([blk b16 71 (roC x).toArray]) [] Tryd.mixed ?_
                  refine S.dr_take 0 [] rfl (by kernel_rfl) rfl rfl rfl (q_move rfl) Sub.ent ?_
                  refine S.dr_take 1 [] rfl (by kernel_rfl) rfl rfl rfl (q_field Tryd.fo71_1 rfl) Sub.ent ?_
                  refine S.dr_take 2 [] rfl (by kernel_rfl) rfl rfl rfl (q_load Tryd.at68 rfl rfl) Sub.ent ?_
                  refine S.dr_take 4 [] rfl (by kernel_rfl) rfl rfl rfl (q_move rfl) Sub.ent ?_
                  refine S.dr_take 5 [] rfl (by kernel_rfl) rfl rfl rfl (q_field Tryd.fo71_1 rfl) Sub.ent ?_
                  refine S.dr_take 6 [] rfl (by kernel_rfl) rfl rfl rfl (q_load Tryd.at68 rfl rfl) Sub.ent ?_
                  refine S.dr_1 (i := 3) (by kernel_rfl) rfl rfl ?_
                  refine  (S.call Tryd.en32 (vs := [_, _]) ⟨rfl, rfl, trivial⟩ (NRemove_S x.job) rfl ?_)
                  rintro v Θ ⟨rfl, rfl⟩
                  refine S.dr_k rfl Sub.ent ?_
                  refine S.dr_1 (i := 7) (by kernel_rfl) rfl rfl ?_
                  refine  (S.call Tryd.en33 (vs := [_, _]) ⟨rfl, rfl, trivial⟩ (rRemoveNil_S x.job) rfl ?_)
                  rintro v Θ ⟨rfl, rfl⟩
                  refine S.dr_k rfl Sub.ent ?_
                  refine S.dr_take 8 [] rfl (by kernel_rfl) rfl rfl rfl (q_eq rfl rfl) Sub.ent ?_
                  refine S.dr_take 9 [] rfl (by kernel_rfl) rfl rfl rfl (q_assign rfl) Sub.ent ?_
                  first | with_reducible refine S.dr_doneK (by kernel_rfl) ?_ | refine S.dr_done (by kernel_rfl) ?_
                  with_reducible repeat (first | refine S.then_n ?_ | refine S.then_x ?_ | refine S.then_r ?_ | refine S.inBlock_n ?_ | refine S.inBlock_r ?_ | refine S.inBlock_x rfl ?_ | refine S.noGoto_r ?_ | refine S.noGoto_n ?_ | refine S.noGoto_x ?_)
                  with_reducible repeat (first | refine S.then_n ?_ | refine S.then_x ?_ | refine S.then_r ?_ | refine S.inBlock_n ?_ | refine S.inBlock_r ?_ | refine S.inBlock_x rfl ?_ | refine S.noGoto_r ?_ | refine S.noGoto_n ?_ | refine S.noGoto_x ?_)
                  exact S.meet ⟨rfl, rfl⟩ ⟨rfl, rfl, rfl, rfl, rfl, rfl, rfl, rfl, rfl, rfl, trivial⟩ Sub.ent
                · refine S.seq fun K28 hK28 => ?_
                  refine S.region rfl ?_
                  refine S.op (S.q (q_eq rfl rfl) rfl rfl ?_)
                  refine S.op (S.q (q_assign rfl) rfl rfl ?_)
                  first | with_reducible refine S.nilK ?_ | refine S.nil ?_
                  refine hK28 _ _ ?_
                  refine S.condD rfl (fun h10 => ?_) (fun h10 => ?_)
                  · refine S.seq fun K29 hK29 => ?_
                    refine S.region rfl ?_
                    refine S.op (S.q (q_assign rfl) rfl rfl ?_)
                    first | with_reducible refine S.nilK ?_ | refine S.nil ?_
                    refine hK29 _ _ ?_
                    refine S.seq fun K30 hK30 => ?_
                    refine S.seq fun K31 hK31 => ?_
                    refine S.region rfl ?_
                    refine S.op (S.q (q_move rfl) rfl rfl ?_)
                    refine S.op (S.q (q_neN Tryd.underlying26 rfl rfl) rfl rfl ?_)
                    first | with_reducible refine S.nilK ?_ | refine S.nil ?_
                    refine hK31 _ _ ?_
                    refine S.condF rfl ?_
                    refine S.skip ?_
                    with_reducible repeat (first | refine S.then_n ?_ | refine S.then_x ?_ | refine S.then_r ?_ | refine S.inBlock_n ?_ | refine S.inBlock_r ?_ | refine S.inBlock_x rfl ?_ | refine S.noGoto_r ?_ | refine S.noGoto_n ?_ | refine S.noGoto_x ?_)
                    refine hK30 _ _ ?_
                    refine S.regionG ?_
                    refine S.g_op rfl (S.q (q_move rfl) rfl rfl ?_)
                    refine S.g_op rfl (S.q (q_field Tryd.fo71_2 rfl) rfl rfl ?_)
                    refine S.g_op rfl (S.q (q_load Tryd.at3 rfl rfl) rfl rfl ?_)
                    refine S.g_op rfl (S.q (q_field Tryd.fo71_4 rfl) rfl rfl ?_)
                    refine S.g_op rfl (S.q (q_load Tryd.at4 rfl rfl) rfl rfl ?_)
                    refine S.g_op rfl (S.call Tryd.en34 (vs := [_, _, _]) ⟨rfl, rfl, rfl, trivial⟩ (NUp_S x.k x.on) rfl ?_)
                    rintro v Θ ⟨rfl, rfl⟩
                    refine S.g_op rfl (S.q (q_move rfl) rfl rfl ?_)
                    refine S.g_op rfl (S.q (q_eq rfl rfl) rfl rfl ?_)
                    refine S.g_op rfl (S.q (q_move rfl) rfl rfl ?_)
                    refine S.g_yes rfl rfl rfl ((decide_eq_true rfl)) (S.q (q_move rfl) rfl rfl ?_)
                    refine S.g_yes rfl rfl rfl ((decide_eq_true rfl)) (S.q (q_field Tryd.fo71_2 rfl) rfl rfl ?_)
                    refine S.g_yes rfl rfl rfl ((decide_eq_true rfl)) (S.q (q_load Tryd.at3 rfl rfl) rfl rfl ?_)
                    refine S.g_yes rfl rfl rfl ((decide_eq_true rfl)) (S.call Tryd.en35 (vs := [_, _]) ⟨rfl, rfl, trivial⟩ (NIsUp_S x.k) rfl ?_)
                    rintro v Θ ⟨rfl, rfl⟩
                    refine S.g_yes rfl rfl rfl ((decide_eq_true rfl)) (S.q (q_move rfl) rfl rfl ?_)
                    refine S.g_yes rfl rfl rfl ((decide_eq_true rfl)) (S.q (q_eq rfl rfl) rfl rfl ?_)
                    refine S.g_yes rfl rfl rfl ((decide_eq_true rfl)) (S.q (q_move rfl) rfl rfl ?_)
                    refine S.g_no rfl rfl rfl ((decide_eq_false (by decide))) rfl rfl ?_
                    refine S.g_no rfl rfl rfl ((decide_eq_false (by decide))) rfl rfl ?_
                    refine S.g_yes rfl rfl rfl ((decide_eq_true rfl)) (S.q (q_pickF rfl ((decide_eq_false (by decide))) rfl) rfl rfl ?_)
                    refine S.g_yes rfl rfl rfl ((decide_eq_true rfl)) (S.q (q_eqB Tryd.underlying4 rfl rfl) rfl rfl ?_)
                    refine S.g_op rfl (S.q (q_pickT rfl ((decide_eq_true rfl)) rfl) rfl rfl ?_)
                    refine S.g_op rfl (S.q (q_assign rfl) rfl rfl ?_)
                    first | with_reducible refine S.g_nilK ?_ | refine S.g_nil ?_
                    with_reducible repeat (first | refine S.then_n ?_ | refine S.then_x ?_ | refine S.then_r ?_ | refine S.inBlock_n ?_ | refine S.inBlock_r ?_ | refine S.inBlock_x rfl ?_ | refine S.noGoto_r ?_ | refine S.noGoto_n ?_ | refine S.noGoto_x ?_)
                    with_reducible repeat (first | refine S.then_n ?_ | refine S.then_x ?_ | refine S.then_r ?_ | refine S.inBlock_n ?_ | refine S.inBlock_r ?_ | refine S.inBlock_x rfl ?_ | refine S.noGoto_r ?_ | refine S.noGoto_n ?_ | refine S.noGoto_x ?_)
                    exact S.meet ⟨rfl, rfl⟩ ⟨rfl, rfl, rfl, rfl, rfl, rfl, rfl, rfl, rfl, rfl, trivial⟩ Sub.ent
                  · refine S.skip ?_
                    with_reducible repeat (first | refine S.then_n ?_ | refine S.then_x ?_ | refine S.then_r ?_ | refine S.inBlock_n ?_ | refine S.inBlock_r ?_ | refine S.inBlock_x rfl ?_ | refine S.noGoto_r ?_ | refine S.noGoto_n ?_ | refine S.noGoto_x ?_)
                    with_reducible repeat (first | refine S.then_n ?_ | refine S.then_x ?_ | refine S.then_r ?_ | refine S.inBlock_n ?_ | refine S.inBlock_r ?_ | refine S.inBlock_x rfl ?_ | refine S.noGoto_r ?_ | refine S.noGoto_n ?_ | refine S.noGoto_x ?_)
                    with_reducible repeat (first | refine S.then_n ?_ | refine S.then_x ?_ | refine S.then_r ?_ | refine S.inBlock_n ?_ | refine S.inBlock_r ?_ | refine S.inBlock_x rfl ?_ | refine S.noGoto_r ?_ | refine S.noGoto_n ?_ | refine S.noGoto_x ?_)
                    exact S.meet ⟨rfl, rfl⟩ ⟨rfl, rfl, rfl, rfl, rfl, rfl, rfl, rfl, rfl, rfl, trivial⟩ Sub.ent
        · rintro ρ' Γ' ⟨rfl, rfl⟩
          refine hK19 _ _ ?_
          refine S.seq fun K32 hK32 => ?_
          refine S.seq fun K33 hK33 => ?_
          refine S.regionG ?_
          refine S.g_op rfl (S.q (q_move rfl) rfl rfl ?_)
          refine S.g_op rfl (S.q (q_not rfl) rfl rfl ?_)
          refine S.g_op rfl (S.q (q_move rfl) rfl rfl ?_)
          refine S.g_yes rfl rfl rfl (rfl) (S.q (q_move rfl) rfl rfl ?_)
          refine S.g_yes rfl rfl rfl (rfl) (S.q (q_move rfl) rfl rfl ?_)
          refine S.g_yes rfl rfl rfl (rfl) (S.q (q_move rfl) rfl rfl ?_)
          refine S.g_yes rfl rfl rfl (rfl) (S.call Tryd.en36 (vs := [_, _, _]) ⟨rfl, rfl, rfl, trivial⟩ (alikeNil_S far) rfl ?_)
          rintro v Θ ⟨rfl, rfl⟩
          refine S.g_yes rfl rfl rfl (rfl) (S.q (q_not rfl) rfl rfl ?_)
          refine S.g_op rfl (S.q (q_pickF rfl (rfl) rfl) rfl rfl ?_)
          first | with_reducible refine S.g_nilK ?_ | refine S.g_nil ?_
          refine hK33 _ _ ?_
          refine S.condF rfl ?_
          refine S.skip ?_
          with_reducible repeat (first | refine S.then_n ?_ | refine S.then_x ?_ | refine S.then_r ?_ | refine S.inBlock_n ?_ | refine S.inBlock_r ?_ | refine S.inBlock_x rfl ?_ | refine S.noGoto_r ?_ | refine S.noGoto_n ?_ | refine S.noGoto_x ?_)
          refine hK32 _ _ ?_
          refine S.seq fun K34 hK34 => ?_
          refine S.region rfl ?_
          refine S.op (S.q (q_move rfl) rfl rfl ?_)
          refine S.op (S.q (q_eq rfl rfl) rfl rfl ?_)
          first | with_reducible refine S.nilK ?_ | refine S.nil ?_
          refine hK34 _ _ ?_
          refine S.condD rfl (fun h14 => ?_) (fun h14 => ?_)
          · refine S.region rfl ?_
            refine S.op (S.q (q_move rfl) rfl rfl ?_)
            refine S.op (S.call Tryd.en25 (vs := [_]) ⟨rfl, trivial⟩ (NCopy_S) rfl ?_)
            rintro v Θ ⟨rfl, rfl⟩
            refine S.op (S.q (q_move rfl) rfl rfl ?_)
            refine S.op (S.call Tryd.en26 (vs := [_]) ⟨rfl, trivial⟩ (rCopyNil_S) rfl ?_)
            rintro v Θ ⟨rfl, rfl⟩
            refine S.op (S.q (q_assign rfl) rfl rfl ?_)
            refine S.op (S.q (q_assign rfl) rfl rfl ?_)
            first | with_reducible refine S.nilK ?_ | refine S.nil ?_
            with_reducible repeat (first | refine S.then_n ?_ | refine S.then_x ?_ | refine S.then_r ?_ | refine S.inBlock_n ?_ | refine S.inBlock_r ?_ | refine S.inBlock_x rfl ?_ | refine S.noGoto_r ?_ | refine S.noGoto_n ?_ | refine S.noGoto_x ?_)
            refine hK13 _ _ ?_
            refine S.region rfl ?_
            refine S.op (S.q (q_add rfl rfl (inI64 (by omega) (by omega))) rfl rfl ?_)
            refine S.op (S.q (q_move rfl) rfl rfl ?_)
            first | with_reducible refine S.nilK ?_ | refine S.nil ?_
            with_reducible repeat (first | refine S.then_n ?_ | refine S.then_x ?_ | refine S.then_r ?_ | refine S.inBlock_n ?_ | refine S.inBlock_r ?_ | refine S.inBlock_x rfl ?_ | refine S.noGoto_r ?_ | refine S.noGoto_n ?_ | refine S.noGoto_x ?_)
            exact S.next (q - 1) ⟨i + 1, by omega, by omega, rfl, rfl⟩ (by omega) (by repeat (first | exact trivial | refine ⟨rfl, ?_⟩)) Sub.ent
          · refine S.skip ?_
            with_reducible repeat (first | refine S.then_n ?_ | refine S.then_x ?_ | refine S.then_r ?_ | refine S.inBlock_n ?_ | refine S.inBlock_r ?_ | refine S.inBlock_x rfl ?_ | refine S.noGoto_r ?_ | refine S.noGoto_n ?_ | refine S.noGoto_x ?_)
            with_reducible repeat (first | refine S.then_n ?_ | refine S.then_x ?_ | refine S.then_r ?_ | refine S.inBlock_n ?_ | refine S.inBlock_r ?_ | refine S.inBlock_x rfl ?_ | refine S.noGoto_r ?_ | refine S.noGoto_n ?_ | refine S.noGoto_x ?_)
            refine hK13 _ _ ?_
            refine S.region rfl ?_
            refine S.op (S.q (q_add rfl rfl (inI64 (by omega) (by omega))) rfl rfl ?_)
            refine S.op (S.q (q_move rfl) rfl rfl ?_)
            first | with_reducible refine S.nilK ?_ | refine S.nil ?_
            with_reducible repeat (first | refine S.then_n ?_ | refine S.then_x ?_ | refine S.then_r ?_ | refine S.inBlock_n ?_ | refine S.inBlock_r ?_ | refine S.inBlock_x rfl ?_ | refine S.noGoto_r ?_ | refine S.noGoto_n ?_ | refine S.noGoto_x ?_)
            exact S.next (q - 1) ⟨i + 1, by omega, by omega, rfl, rfl⟩ (by omega) (by repeat (first | exact trivial | refine ⟨rfl, ?_⟩)) Sub.ent
    · refine S.exit ?_
      with_reducible repeat (first | refine S.then_n ?_ | refine S.then_x ?_ | refine S.then_r ?_ | refine S.inBlock_n ?_ | refine S.inBlock_r ?_ | refine S.inBlock_x rfl ?_ | refine S.noGoto_r ?_ | refine S.noGoto_n ?_ | refine S.noGoto_x ?_)
      with_reducible refine S.inBlock_s ?_
      with_reducible repeat (first | refine S.then_n ?_ | refine S.then_x ?_ | refine S.then_r ?_ | refine S.inBlock_n ?_ | refine S.inBlock_r ?_ | refine S.inBlock_x rfl ?_ | refine S.noGoto_r ?_ | refine S.noGoto_n ?_ | refine S.noGoto_x ?_)
      with_reducible repeat (first | refine S.then_n ?_ | refine S.then_x ?_ | refine S.then_r ?_ | refine S.inBlock_n ?_ | refine S.inBlock_r ?_ | refine S.inBlock_x rfl ?_ | refine S.noGoto_r ?_ | refine S.noGoto_n ?_ | refine S.noGoto_x ?_)
      exact S.meet ⟨rfl, rfl⟩ ⟨rfl, rfl, rfl, trivial⟩ Sub.ent
  · rintro ρ' Γ' ⟨rfl, rfl⟩
    refine hK9 _ _ ?_
    refine S.seq fun K35 hK35 => ?_
    refine S.region rfl ?_
    refine S.op (S.q (q_move rfl) rfl rfl ?_)
    refine S.op (S.q (q_move rfl) rfl rfl ?_)
    refine S.op (S.q (q_move rfl) rfl rfl ?_)
    refine S.op (S.call Tryd.en36 (vs := [_, _, _]) ⟨rfl, rfl, rfl, trivial⟩ (alikeNil_S far) rfl ?_)
    rintro v Θ ⟨rfl, rfl⟩
    refine S.op (S.q (q_assign rfl) rfl rfl ?_)
    first | with_reducible refine S.nilK ?_ | refine S.nil ?_
    refine hK35 _ _ ?_
    refine S.ret ?_
    with_reducible repeat (first | refine S.then_n ?_ | refine S.then_x ?_ | refine S.then_r ?_ | refine S.inBlock_n ?_ | refine S.inBlock_r ?_ | refine S.inBlock_x rfl ?_ | refine S.noGoto_r ?_ | refine S.noGoto_n ?_ | refine S.noGoto_x ?_)
    exact S.fin (rs := [_]) (vs := [_]) Tryd.results5 (⟨rfl, trivial⟩)  (⟨rfl, rfl⟩) Sub.ent
open Go.ChangeShapes Go.WideShapes Go.ChangeAt
theorem RowsPlays_law {H : Type} (enc : TypeId × Value → H) : LawWalkT enc Rows.rowsPlaysRow.laid 5 Tryd.f5 := by
  intro W base args ds before hval hA _ _ hL
  rw [Tryd.params5] at hA hval
  obtain ⟨v0, vs0, d0, ds0, p0, q0, hargs, rfl, rfl, h0, r0⟩ := trodAll_cons hA
  obtain ⟨v1, vs1, d1, ds1, p1, q1, rfl, rfl, rfl, h1, r1⟩ := trodAll_cons r0
  obtain ⟨v2, vs2, d2, ds2, p2, q2, rfl, rfl, rfl, h2, r2⟩ := trodAll_cons r1
  obtain ⟨v3, vs3, d3, ds3, p3, q3, rfl, rfl, rfl, h3, r3⟩ := trodAll_cons r2
  obtain ⟨rfl, rfl, rfl⟩ := trodAll_nil r3
  obtain rfl : args = #[v0, v1, v2, v3] := by cases args; simp_all
  obtain ⟨r, rfl, hr⟩ := arg_int Tryd.underlying3 (hval 0 3 v0 rfl rfl) h0
  obtain ⟨n, rfl, hn⟩ := arg_int Tryd.underlying3 (hval 1 3 v1 rfl rfl) h1
  obtain ⟨s, l, e2, hs⟩ := rd_ros (arg_slice 8 Tryd.underlying60 (by kernel_rfl) (hval 2 60 v2 rfl rfl) h2)
  simp only [List.cons.injEq, and_true] at e2
  subst e2
  obtain ⟨far, rfl, _⟩ := arg_int Tryd.underlying3 (hval 3 3 v3 rfl rfl) h3
  by_cases hv : 1 ≤ r ∧ r ≤ 8 ∧ 1 ≤ n ∧ n ≤ 16
  · obtain ⟨R, rfl⟩ : ∃ R : Nat, r = R := ⟨r.toNat, by omega⟩
    obtain ⟨N, rfl⟩ : ∃ N : Nat, n = N := ⟨n.toNat, by omega⟩
    exact law_run (RowsPlays_A R N far l s (by omega) (by omega) (by omega) (by omega) (tabW_of rfl hL) hs)
  · exact law_run (RowsPlays_B r n far l s hv (tabW_of rfl hL) hs)
set_option maxRecDepth 100000 in
theorem RowsPlays_met (os : Os) (args : Array Value) : laidMetH Tryd.prog Rows.rowsPlaysRow.laid ((World.doorLaid Tryd.prog 14 os).forCall (fun _ _ => 0) ⟨#[], args, []⟩).memory :=
  laidMetH_of_parts3 (fuel := 8) (laidMet_of_run' 8 (by kernel_rfl) (by kernel_rfl)) (by kernel_rfl) (by kernel_rfl)
set_option maxRecDepth 100000 in
theorem RowsPlays_lifted (os : Os) (started : os.Started) (H : Type) (enc : TypeId × Value → H) :
    ReturnsInHanded {} Tryd.checked os 5 .any (fun w args => (Rows.rowsPlaysSpec.pre enc Tryd.prog Tryd.f5 [] false w args ∧ laidMetH Tryd.prog Rows.rowsPlaysRow.laid w) ∧ sizedMet enc Tryd.prog Tryd.f5 (OpenSpec.ofChange Rows.rowsPlaysSpec) false w args) (Rows.rowsPlaysSpec.post enc Tryd.prog Tryd.f5 false true false false) :=
  lift_trueT started Tryd.func5 (by kernel_rfl)
    (ChangeSpec.witness_shaped (enc := enc) (C := Tryd.checked) (os := os) (X := fun w _ => laidMetH Tryd.prog Rows.rowsPlaysRow.laid w) false (World.doorLaid Tryd.prog 14 os) #[.int .i64 0, .int .i64 0, .slice none 0 0, .int .i64 0] 8 rfl (World.shaped_of_RefB (by kernel_rfl) (by kernel_rfl)) (by kernel_rfl) (by kernel_rfl) (by kernel_rfl) (RowsPlays_met os _))
    rfl rfl (by kernel_rfl) (fun ds h => by match ds, h with | [a0, a1, a2, a3], _ => rfl) (RowsPlays_law enc)
theorem RowsPlays_over : Rows.rowsPlaysRow.holds Tryd.pinned (OpenSpec.ofChange Rows.rowsPlaysSpec) :=
  OpenClaim.holds_of_wide 5 Tryd.f5 rfl rfl rfl rfl rfl rfl rfl ⟨rfl, rfl, rfl, rfl, rfl⟩ rfl rfl rfl rfl rfl (by kernel_rfl) Tryd.func5 (by kernel_rfl)
    (of_decide_eq_true (by kernel_rfl)) (by unfold Func.isWrapper; first | (rw [if_pos (by decide +kernel)]; kernel_rfl) | (rw [if_neg (by decide +kernel)]; exact ⟨rfl, rfl⟩))
    (fun os started H enc _ => RowsPlays_lifted os started H enc)
theorem RowsPlays_holds : Rows.RowsPlaysCardSaid :=
  Claim7.holds_tied_plain_at .later [] [.data] true (true, "d82cf9a8b09ce163cf9661778cc21f6eeb0c8c5bd78b509f1c907566ac05aee4") true
    RowsPlays_over (fun _ h => by cases h) (by kernel_rfl) (fun _ h => by cases h) rowsPlays_row_tie rfl ⟨rfl, rfl⟩ (by kernel_rfl) rfl
    (fun f fn hf hfn => by
      obtain rfl : f = 5 := Option.some.inj ((show Tryd.prog.funcNamed "quadrille/quadrillelaw12.RowsPlays" = some 5 by kernel_rfl).symm.trans hf) |>.symm
      obtain rfl : fn = Tryd.f5 := (Option.some.inj (Tryd.func5.symm.trans hfn)).symm
      exact ⟨by kernel_rfl, fun j t ht => by
        rw [Tryd.params5] at ht
        have hm : t ∈ [3, 3, 60, 3] := by simpa using Array.mem_of_getElem? ht
        have hall : ([3, 3, 60, 3].all fun u => !Tryd.prog.wantsStandIn u) = true := by kernel_rfl
        exact (show Tryd.prog.wantsStandIn t = false by simpa using List.all_eq_true.1 hall t hm)⟩)
    (by kernel_rfl)
#print axioms RowsPlays_holds
end Go.Proofs.YtegjmmocnffpiaaDoor
