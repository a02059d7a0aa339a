/- slices.Sort at whole numbers of 32 bits: what chooses, what scatters, what is partly in order. -/
import Derived.Sort.AssemblyPlain
import Derived.Sort.LotD1
import Derived.Test.YtegjmmocnffpiaaDoorMJ4
/- The document's matrix: Fill, Jobs, Copy. -/
namespace Go.Proofs.YtegjmmocnffpiaaDoor
open Go.RowKit
set_option maxRecDepth 20000
theorem idsV_one (l : List Nat) : allOne (idsV l) = true := List.all_eq_true.2 fun v hv => by
  obtain ⟨j, _, rfl⟩ := List.mem_map.1 hv
  rfl
theorem rIds_len (m : Mx) (z : Int) : (rowIds m z).length ≤ 16 := by
  unfold rowIds
  split
  · rw [List.length_map]; exact rowJ_len m _
  · simp
theorem insJ_len (j : Nat) (l : List Nat) : (insJ j l).length = l.length + 1 := by rw [(insJ_perm j l).length_eq]; rfl
theorem insAll_len (js : List Nat) : ∀ l, (insAll l js).length = l.length + js.length := by
  induction js with
  | nil => intro l; rfl
  | cons j js ih => intro l; have := ih (insJ j l); rw [insJ_len] at this; rw [List.length_cons]; show (insAll (insJ j l) js).length = _; omega
theorem insAll_snoc (l js : List Nat) (j : Nat) : insAll l (js ++ [j]) = insJ j (insAll l js) := by rw [insAll, List.foldl_append]; rfl
theorem insAll_app (l js ks : List Nat) : insAll l (js ++ ks) = insAll (insAll l js) ks := by rw [insAll, List.foldl_append]; rfl
theorem rowsIds_len (m : Mx) : ∀ r, (rowsIds m r).length ≤ 16 * r
  | 0 => Nat.le_refl _
  | r + 1 => by have := rowsIds_len m r; have := rIds_len m r; rw [rowsIds, List.length_append]; omega
set_option maxHeartbeats 1000000 in
theorem rJobs_S (b : Nat) (m : Mx) : Spec Tryd.prog 68 [.pointer (some ⟨b, 0, none⟩)] [RI b m] fun Γ v Θ => ∃ sv : SV, v = sv.v ∧ sv.n = (m.js.map (·.id)).length ∧ Θ = own sv 68 1 (idsV (m.js.map (·.id))) :: RI b m :: Γ := by
  refine Spec.riOk fun hm => ?_
  refine Spec.of_body Tryd.func68 rfl Tryd.ntmps68 rfl ?_
  intro w0 Γ
  show S _ w0 [(0, .pointer (some ⟨b, 0, none⟩))] (RI b m :: Γ) _
  have hR8 := hm.R8
  refine S.riOpen b m fun cs us rs hri => ?_
  have hcn := hri.cn
  refine S.seq fun K1 hK1 => ?_
  refine S.region rfl ?_
  refine S.op (S.q (q_assign rfl) rfl rfl ?_)
  first | with_reducible refine S.nilK ?_ | refine S.nil ?_
  refine hK1 _ _ ?_
  refine S.seq fun K2 hK2 => ?_
  refine S.region rfl ?_
  refine S.op (S.q (q_assign rfl) rfl rfl ?_)
  first | with_reducible refine S.nilK ?_ | refine S.nil ?_
  refine hK2 _ _ ?_
  refine S.seq fun K3 hK3 => ?_
  refine S.seq fun K4 hK4 => ?_
  refine S.region rfl ?_
  refine S.op (S.q (q_move rfl) rfl rfl ?_)
  refine S.op (S.q (q_eqN Tryd.underlying26 rfl rfl) rfl rfl ?_)
  first | with_reducible refine S.nilK ?_ | refine S.nil ?_
  refine hK4 _ _ ?_
  refine S.condF rfl ?_
  refine S.skip ?_
  with_reducible repeat (first | refine S.then_n ?_ | refine S.then_x ?_ | refine S.then_r ?_ | refine S.inBlock_n ?_ | refine S.inBlock_r ?_ | refine S.inBlock_x rfl ?_ | refine S.noGoto_r ?_ | refine S.noGoto_n ?_ | refine S.noGoto_x ?_)
  refine hK3 _ _ ?_
  refine S.seq fun K5 hK5 => ?_
  refine S.seq fun K6 hK6 => ?_
  refine S.region rfl ?_
  refine S.op (S.q (q_move rfl) rfl rfl ?_)
  refine S.op (S.q (q_nilCheck rfl) rfl rfl ?_)
  refine S.op (S.q (q_field Tryd.fo55_0 rfl) rfl rfl ?_)
  refine S.op (S.q (q_load Tryd.at52 rfl rfl) rfl rfl ?_)
  refine S.op (S.q (q_len Tryd.underlying52 rfl) rfl rfl ?_)
  refine S.riClose b m cs us rs hri ?_
  refine S.ent (Ent.ownNil 68 1) ?_
  show S _ w0 _ (own SV.nil 68 1 (idsV []) :: _) _
  refine S.op (S.q (q_move rfl) rfl rfl ?_)
  first | with_reducible refine S.nilK ?_ | refine S.nil ?_
  refine hK6 _ _ ?_
  refine S.block ?_
  refine S.loop (fun q ρ' Γ' => ∃ (r : Nat) (ov : SV) (L : List Nat), q = m.R - r ∧ r ≤ m.R ∧ L = insAll [] (rowsIds m r) ∧ ov.n = L.length ∧ ρ' = [(0, .pointer (some ⟨b, 0, none⟩)), (3, ov.v), (17, .int .i64 (cs.n : Int)), (18, .int .i64 (r : Int))] ∧ Γ' = own ov 68 1 (idsV L) :: RI b m :: Γ) (m := _) (ρ0 := _) (Γ0 := _) (⟨0, SV.nil, [], rfl, by omega, rfl, rfl, rfl, rfl⟩) (by repeat (first | exact trivial | refine ⟨rfl, ?_⟩)) Sub.ent ?_
  rintro q ρ' Γ' ⟨r, ov, L, hq, hr, hL, hov, rfl, rfl⟩
  have hLl := insAll_len (rowsIds m r) []
  have hrl := rowsIds_len m r
  rw [← hL, List.length_nil] at hLl
  refine S.seq fun K7 hK7 => ?_
  refine S.region rfl ?_
  refine S.op (S.q (q_lt rfl rfl) rfl rfl ?_)
  first | with_reducible refine S.nilK ?_ | refine S.nil ?_
  refine hK7 _ _ ?_
  refine S.seq fun K8 hK8 => ?_
  refine S.condD rfl (fun h2 => ?_) (fun h2 => ?_)
  · refine S.skip ?_
    with_reducible repeat (first | refine S.then_n ?_ | refine S.then_x ?_ | refine S.then_r ?_ | refine S.inBlock_n ?_ | refine S.inBlock_r ?_ | refine S.inBlock_x rfl ?_ | refine S.noGoto_r ?_ | refine S.noGoto_n ?_ | refine S.noGoto_x ?_)
    refine hK8 _ _ ?_
    refine S.seq fun K9 hK9 => ?_
    refine S.block ?_
    refine S.seq fun K10 hK10 => ?_
    refine S.region rfl ?_
    refine S.op (S.q (q_move rfl) rfl rfl ?_)
    refine S.op (S.q (q_assign rfl) rfl rfl ?_)
    first | with_reducible refine S.nilK ?_ | refine S.nil ?_
    refine hK10 _ _ ?_
    refine S.seq fun K11 hK11 => ?_
    refine S.region rfl ?_
    refine S.op (S.q (q_move rfl) rfl rfl ?_)
    refine S.op (S.q (q_move rfl) rfl rfl ?_)
    refine S.op (S.call Tryd.en19 (vs := [_, _]) ⟨rfl, rfl, trivial⟩ (rRow_S b m r) rfl ?_)
    rintro v Θ ⟨rv, rfl, hrv, rfl⟩
    have hr16 := rIds_len m r
    refine S.op (S.q (q_len Tryd.underlying31 rfl) rfl rfl ?_)
    refine S.op (S.q (q_move rfl) rfl rfl ?_)
    first | with_reducible refine S.nilK ?_ | refine S.nil ?_
    refine hK11 _ _ ?_
    refine S.block ?_
    refine S.loop (fun q2 ρ' Γ' => ∃ (i : Nat) (o2 : SV) (L2 : List Nat), q2 = (rowIds m r).length - i ∧ i ≤ (rowIds m r).length ∧ L2 = insAll L ((rowIds m r).take i) ∧ o2.n = L2.length ∧ ρ' = [(0, .pointer (some ⟨b, 0, none⟩)), (3, o2.v), (17, .int .i64 (cs.n : Int)), (18, .int .i64 (r : Int)), (23, rv.v), (24, .int .i64 rv.n), (25, .int .i64 (i : Int))] ∧ Γ' = own o2 68 1 (idsV L2) :: own rv 68 1 (idsV (rowIds m r)) :: RI b m :: Γ) (m := _) (ρ0 := _) (Γ0 := _) (⟨0, ov, L, rfl, by omega, rfl, hov, rfl, rfl⟩) (by repeat (first | exact trivial | refine ⟨rfl, ?_⟩)) Sub.ent ?_
    rintro q2 ρ' Γ' ⟨i, o2, L2, hq2, hi, hL2, ho2, rfl, rfl⟩
    have hL2l := insAll_len ((rowIds m r).take i) L
    rw [← hL2, List.length_take] at hL2l
    refine S.seq fun K12 hK12 => ?_
    refine S.region rfl ?_
    refine S.op (S.q (q_lt rfl rfl) rfl rfl ?_)
    first | with_reducible refine S.nilK ?_ | refine S.nil ?_
    refine hK12 _ _ ?_
    refine S.seq fun K13 hK13 => ?_
    refine S.condD rfl (fun h3 => ?_) (fun h3 => ?_)
    · refine S.ownSome rv (by omega) fun rb ro hra _ _ _ => ?_
      obtain ⟨j, hj⟩ := getE (show i < (rowIds m r).length by omega)
      have hnx : insJ j L2 = insAll L ((rowIds m r).take (i + 1)) := by rw [List.take_add_one, hj, hL2]; exact (insAll_snoc L _ j).symm
      refine S.skip ?_
      with_reducible repeat (first | refine S.then_n ?_ | refine S.then_x ?_ | refine S.then_r ?_ | refine S.inBlock_n ?_ | refine S.inBlock_r ?_ | refine S.inBlock_x rfl ?_ | refine S.noGoto_r ?_ | refine S.noGoto_n ?_ | refine S.noGoto_x ?_)
      refine hK13 _ _ ?_
      refine S.seq fun K14 hK14 => ?_
      refine S.block ?_
      refine S.seq fun K15 hK15 => ?_
      refine S.region rfl ?_
      refine S.op (S.q (q_indexO (i) Tryd.el31 rfl hra rfl rfl (by omega)) rfl rfl ?_)
      refine S.op (S.q (q_loadOw (rv) (i) Tryd.at68 rfl hra (by first | rfl | exact Nat.add_assoc _ _ _ | omega) (idsV_get hj)) rfl rfl ?_)
      refine S.op (S.q (q_assign rfl) rfl rfl ?_)
      first | with_reducible refine S.nilK ?_ | refine S.nil ?_
      refine hK15 _ _ ?_
      refine S.seq fun K16 hK16 => ?_
      refine S.region rfl ?_
      refine S.op (S.q (q_assign rfl) rfl rfl ?_)
      first | with_reducible refine S.nilK ?_ | refine S.nil ?_
      refine hK16 _ _ ?_
      refine S.seq fun K17 hK17 => ?_
      refine S.region rfl ?_
      refine S.op (S.q (q_assign rfl) rfl rfl ?_)
      first | with_reducible refine S.nilK ?_ | refine S.nil ?_
      refine hK17 _ _ ?_
      refine S.seq fun K18 hK18 => ?_
      refine S.seq fun K19 hK19 => ?_
      refine S.region rfl ?_
      refine S.op (S.q (q_move rfl) rfl rfl ?_)
      refine S.op (S.q (q_len Tryd.underlying31 rfl) rfl rfl ?_)
      refine S.ent (Ent.ownNil 68 1) ?_
      show S _ w0 _ (own SV.nil 68 1 (idsV []) :: _) _
      refine S.op (S.q (q_move rfl) rfl rfl ?_)
      first | with_reducible refine S.nilK ?_ | refine S.nil ?_
      refine hK19 _ _ ?_
      refine S.block ?_
      refine S.loop (fun q3 ρ' Γ' => ∃ (k : Nat) (sv : SV) (nl : List Nat) (dn : Bool), q3 = L2.length - k ∧ k ≤ L2.length ∧ insU j false L2 k = (nl, dn) ∧ sv.n = nl.length ∧ ρ' = [(0, .pointer (some ⟨b, 0, none⟩)), (6, .int .u32 (j : Int)), (7, sv.v), (8, .bool dn), (17, .int .i64 (cs.n : Int)), (18, .int .i64 (r : Int)), (23, rv.v), (24, .int .i64 rv.n), (25, .int .i64 (i : Int)), (29, o2.v), (30, .int .i64 o2.n), (31, .int .i64 (k : Int))] ∧   Γ' = own sv 68 1 (idsV nl) :: own o2 68 1 (idsV L2) :: own rv 68 1 (idsV (rowIds m r)) :: RI b m :: Γ) (m := _) (ρ0 := _) (Γ0 := _) (⟨0, SV.nil, [], false, rfl, by omega, rfl, rfl, rfl, rfl⟩) (by repeat (first | exact trivial | refine ⟨rfl, ?_⟩)) Sub.ent ?_
      rintro q3 ρ' Γ' ⟨k, sv, nl, dn, hq3, hk, hiu, hsv, rfl, rfl⟩
      have hnl := insU_len j L2 k
      rw [hiu] at hnl
      have hnl : nl.length ≤ k + 1 := by simp only at hnl; rw [hnl]; split <;> omega
      refine S.seq fun K20 hK20 => ?_
      refine S.region rfl ?_
      refine S.op (S.q (q_lt rfl rfl) rfl rfl ?_)
      first | with_reducible refine S.nilK ?_ | refine S.nil ?_
      refine hK20 _ _ ?_
      refine S.seq fun K21 hK21 => ?_
      refine S.condD rfl (fun h4 => ?_) (fun h4 => ?_)
      · refine S.ownSome o2 (by omega) fun ob oo hoa _ _ _ => ?_
        obtain ⟨x, hx⟩ := getE (show k < L2.length by omega)
        have hxd : L2.getD k 0 = x := by simp [List.getD, hx]
        refine S.skip ?_
        with_reducible repeat (first | refine S.then_n ?_ | refine S.then_x ?_ | refine S.then_r ?_ | refine S.inBlock_n ?_ | refine S.inBlock_r ?_ | refine S.inBlock_x rfl ?_ | refine S.noGoto_r ?_ | refine S.noGoto_n ?_ | refine S.noGoto_x ?_)
        refine hK21 _ _ ?_
        refine S.seq fun K22 hK22 => ?_
        refine S.block ?_
        refine S.seq fun K23 hK23 => ?_
        refine S.region rfl ?_
        refine S.op (S.q (q_indexO (k) Tryd.el31 rfl hoa rfl rfl (by omega)) rfl rfl ?_)
        refine S.op (S.q (q_loadOw (o2) (k) Tryd.at68 rfl hoa (by first | rfl | exact Nat.add_assoc _ _ _ | omega) (idsV_get hx)) rfl rfl ?_)
        refine S.op (S.q (q_assign rfl) rfl rfl ?_)
        first | with_reducible refine S.nilK ?_ | refine S.nil ?_
        refine hK23 _ _ ?_
        refine S.seq fun K24 hK24 => ?_
        refine S.seq fun K25 hK25 => ?_
        refine S.cut (fun ρ' Γ' => ρ' = [(0, .pointer (some ⟨b, 0, none⟩)), (6, .int .u32 (j : Int)), (7, sv.v), (8, .bool dn), (10, .int .u32 (x : Int)), (17, .int .i64 (cs.n : Int)), (18, .int .i64 (r : Int)), (23, rv.v), (24, .int .i64 rv.n), (25, .int .i64 (i : Int)), (29, o2.v), (30, .int .i64 o2.n), (31, .int .i64 (k : Int)), (41, .bool (!dn && decide (j < x)))] ∧   Γ' = own sv 68 1 (idsV nl) :: own o2 68 1 (idsV L2) :: own rv 68 1 (idsV (rowIds m r)) :: RI b m :: Γ) ?_ ?_
        · refine S.regionG ?_
          refine S.g_op rfl (S.q (q_move rfl) rfl rfl ?_)
          refine S.g_op rfl (S.q (q_not rfl) rfl rfl ?_)
          refine S.g_op rfl (S.q (q_move rfl) rfl rfl ?_)
          rcases Bool.eq_false_or_eq_true ((!dn)) with hg15_2 | hg15_2
          · refine S.g_yes rfl rfl rfl (hg15_2) (S.q (q_move rfl) rfl rfl ?_)
            refine S.g_yes rfl rfl rfl (hg15_2) (S.q (q_move rfl) rfl rfl ?_)
            refine S.g_yes rfl rfl rfl (hg15_2) (S.q (q_gt rfl rfl) rfl rfl ?_)
            refine S.g_op rfl (S.q (q_pickT rfl (hg15_2) rfl) rfl rfl ?_)
            first | with_reducible refine S.g_nilK ?_ | refine S.g_nil ?_
            with_reducible repeat (first | refine S.then_n ?_ | refine S.then_x ?_ | refine S.then_r ?_ | refine S.inBlock_n ?_ | refine S.inBlock_r ?_ | refine S.inBlock_x rfl ?_ | refine S.noGoto_r ?_ | refine S.noGoto_n ?_ | refine S.noGoto_x ?_)
            first | (rw [show (!dn && decide (j < x)) = decide ((j : Int) < (x : Int)) by rw [hg15_2, Bool.true_and]; exact decide_eq_decide.2 (by omega)]; exact S.meet ⟨rfl, rfl⟩ ⟨rfl, rfl, rfl, rfl, rfl, rfl, rfl, rfl, rfl, rfl, rfl, rfl, rfl, rfl, trivial⟩ Sub.ent) | (rw [show (!dn && decide (j < x)) = false by rw [hg15_2]; rfl]; exact S.meet ⟨rfl, rfl⟩ ⟨rfl, rfl, rfl, rfl, rfl, rfl, rfl, rfl, rfl, rfl, rfl, rfl, rfl, rfl, trivial⟩ Sub.ent)
          · refine S.g_no rfl rfl rfl (hg15_2) rfl rfl ?_
            refine S.g_no rfl rfl rfl (hg15_2) rfl rfl ?_
            refine S.g_no rfl rfl rfl (hg15_2) rfl rfl ?_
            refine S.g_op rfl (S.q (q_pickF rfl (hg15_2) rfl) rfl rfl ?_)
            first | with_reducible refine S.g_nilK ?_ | refine S.g_nil ?_
            with_reducible repeat (first | refine S.then_n ?_ | refine S.then_x ?_ | refine S.then_r ?_ | refine S.inBlock_n ?_ | refine S.inBlock_r ?_ | refine S.inBlock_x rfl ?_ | refine S.noGoto_r ?_ | refine S.noGoto_n ?_ | refine S.noGoto_x ?_)
            first | (rw [show (!dn && decide (j < x)) = decide ((j : Int) < (x : Int)) by rw [hg15_2, Bool.true_and]; exact decide_eq_decide.2 (by omega)]; exact S.meet ⟨rfl, rfl⟩ ⟨rfl, rfl, rfl, rfl, rfl, rfl, rfl, rfl, rfl, rfl, rfl, rfl, rfl, rfl, trivial⟩ Sub.ent) | (rw [show (!dn && decide (j < x)) = false by rw [hg15_2]; rfl]; exact S.meet ⟨rfl, rfl⟩ ⟨rfl, rfl, rfl, rfl, rfl, rfl, rfl, rfl, rfl, rfl, rfl, rfl, rfl, rfl, trivial⟩ Sub.ent)
        · rintro ρ' Γ' ⟨rfl, rfl⟩
          refine hK25 _ _ ?_
          refine S.cut (fun ρ' Γ' => ∃ (sv2 : SV) (n2 : List Nat) (d2 : Bool), sv2.n = n2.length ∧ n2.length ≤ k + 2 ∧ insU j false L2 (k + 1) = (n2 ++ [x], d2) ∧ ρ' = [(0, .pointer (some ⟨b, 0, none⟩)), (6, .int .u32 (j : Int)), (7, sv2.v), (8, .bool d2), (10, .int .u32 (x : Int)), (17, .int .i64 (cs.n : Int)), (18, .int .i64 (r : Int)), (23, rv.v), (24, .int .i64 rv.n), (25, .int .i64 (i : Int)), (29, o2.v), (30, .int .i64 o2.n), (31, .int .i64 (k : Int))] ∧   Γ' = own sv2 68 1 (idsV n2) :: own o2 68 1 (idsV L2) :: own rv 68 1 (idsV (rowIds m r)) :: RI b m :: Γ) ?_ ?_
          · refine S.cond rfl (fun h5 => ?_) (fun h5 => ?_)
            · have hst : insU j false L2 (k + 1) = ((nl ++ [j]) ++ [x], true) := by rw [insU_t (by rw [hiu, hxd]; exact h5), hiu, hxd]
              have hl5 : (nl ++ [j]).length = nl.length + 1 := by simp
              have hd5 : idsV nl ++ [.int .u32 (j : Int)] = idsV (nl ++ [j]) := by simp
              refine S.seq fun K26 hK26 => ?_
              refine S.region rfl ?_
              refine S.op (S.q (q_move rfl) rfl rfl ?_)
              refine S.op (S.q (q_move rfl) rfl rfl ?_)
              refine S.op (S.buildSlice (pvs := [(_, _)]) [_] Tryd.underlying31 Tryd.inf68 rfl rfl ⟨⟨rfl, rfl⟩, trivial⟩ rfl rfl ?_)
              intro b44
              refine S.op (S.appendOw (s := sv) (1) ([.int .u32 (j : Int)]) Tryd.underlying31 Tryd.inf68 rfl rfl rfl (blk_slAt (b := b44) rfl (by unfold maxLen; omega)) (by first | rfl | exact allOne_bcells _) (⟨by omega, by omega⟩) rfl ?_)
              intro sv2 hsv2
              refine S.op (S.q (q_assign rfl) rfl rfl ?_)
              first | with_reducible refine S.nilK ?_ | refine S.nil ?_
              refine hK26 _ _ ?_
              refine S.region rfl ?_
              refine S.op (S.q (q_assign rfl) rfl rfl ?_)
              first | with_reducible refine S.nilK ?_ | refine S.nil ?_
              with_reducible repeat (first | refine S.then_n ?_ | refine S.then_x ?_ | refine S.then_r ?_ | refine S.inBlock_n ?_ | refine S.inBlock_r ?_ | refine S.inBlock_x rfl ?_ | refine S.noGoto_r ?_ | refine S.noGoto_n ?_ | refine S.noGoto_x ?_)
              first | (rw [hd5]; exact S.meet ⟨sv2, nl ++ [j], true, by omega, by omega, hst, rfl, rfl⟩ ⟨rfl, rfl, rfl, rfl, rfl, rfl, rfl, rfl, rfl, rfl, rfl, rfl, rfl, trivial⟩ Sub.ent) | exact S.meet ⟨sv, nl, dn, hsv, by omega, hst, rfl, rfl⟩ ⟨rfl, rfl, rfl, rfl, rfl, rfl, rfl, rfl, rfl, rfl, rfl, rfl, rfl, trivial⟩ Sub.ent
            · have hst : insU j false L2 (k + 1) = (nl ++ [x], dn) := by rw [insU_f (by rw [hiu, hxd, h5]; decide), hiu, hxd]
              refine S.skip ?_
              with_reducible repeat (first | refine S.then_n ?_ | refine S.then_x ?_ | refine S.then_r ?_ | refine S.inBlock_n ?_ | refine S.inBlock_r ?_ | refine S.inBlock_x rfl ?_ | refine S.noGoto_r ?_ | refine S.noGoto_n ?_ | refine S.noGoto_x ?_)
              with_reducible repeat (first | refine S.then_n ?_ | refine S.then_x ?_ | refine S.then_r ?_ | refine S.inBlock_n ?_ | refine S.inBlock_r ?_ | refine S.inBlock_x rfl ?_ | refine S.noGoto_r ?_ | refine S.noGoto_n ?_ | refine S.noGoto_x ?_)
              first | (rw [hd5]; exact S.meet ⟨sv2, nl ++ [j], true, by omega, by omega, hst, rfl, rfl⟩ ⟨rfl, rfl, rfl, rfl, rfl, rfl, rfl, rfl, rfl, rfl, rfl, rfl, rfl, trivial⟩ Sub.ent) | exact S.meet ⟨sv, nl, dn, hsv, by omega, hst, rfl, rfl⟩ ⟨rfl, rfl, rfl, rfl, rfl, rfl, rfl, rfl, rfl, rfl, rfl, rfl, rfl, trivial⟩ Sub.ent
          · rintro ρ' Γ' ⟨sv2, n2, d2, hsv2, hn2, hst, rfl, rfl⟩
            refine hK24 _ _ ?_
            refine S.region rfl ?_
            refine S.op (S.q (q_move rfl) rfl rfl ?_)
            refine S.op (S.q (q_move rfl) rfl rfl ?_)
            refine S.op (S.buildSlice (pvs := [(_, _)]) [_] Tryd.underlying31 Tryd.inf68 rfl rfl ⟨⟨rfl, rfl⟩, trivial⟩ rfl rfl ?_)
            intro b48
            refine S.op (S.appendOw (s := sv2) (1) ([.int .u32 (x : Int)]) Tryd.underlying31 Tryd.inf68 rfl rfl rfl (blk_slAt (b := b48) rfl (by unfold maxLen; omega)) (by first | rfl | exact allOne_bcells _) (⟨by omega, by omega⟩) rfl ?_)
            intro sv3 hsv3
            refine S.op (S.q (q_assign rfl) rfl rfl ?_)
            first | with_reducible refine S.nilK ?_ | refine S.nil ?_
            with_reducible repeat (first | refine S.then_n ?_ | refine S.then_x ?_ | refine S.then_r ?_ | refine S.inBlock_n ?_ | refine S.inBlock_r ?_ | refine S.inBlock_x rfl ?_ | refine S.noGoto_r ?_ | refine S.noGoto_n ?_ | refine S.noGoto_x ?_)
            refine hK22 _ _ ?_
            refine S.region rfl ?_
            refine S.op (S.q (q_add rfl rfl (inI64 (by omega) (by omega))) rfl rfl ?_)
            refine S.op (S.q (q_move rfl) rfl rfl ?_)
            first | with_reducible refine S.nilK ?_ | refine S.nil ?_
            with_reducible repeat (first | refine S.then_n ?_ | refine S.then_x ?_ | refine S.then_r ?_ | refine S.inBlock_n ?_ | refine S.inBlock_r ?_ | refine S.inBlock_x rfl ?_ | refine S.noGoto_r ?_ | refine S.noGoto_n ?_ | refine S.noGoto_x ?_)
            rw [show idsV n2 ++ [Value.int .u32 (x : Int)] = idsV (n2 ++ [x]) by simp]
            exact S.next (q3 - 1) (⟨k + 1, sv3, n2 ++ [x], d2, by omega, by omega, hst, by rw [List.length_append, List.length_singleton]; omega, rfl, rfl⟩) (by omega) (by repeat (first | exact trivial | refine ⟨rfl, ?_⟩)) Sub.ent
      · have hke : k = L2.length := by omega
        rw [hke] at hiu
        refine S.exit ?_
        with_reducible repeat (first | refine S.then_n ?_ | refine S.then_x ?_ | refine S.then_r ?_ | refine S.inBlock_n ?_ | refine S.inBlock_r ?_ | refine S.inBlock_x rfl ?_ | refine S.noGoto_r ?_ | refine S.noGoto_n ?_ | refine S.noGoto_x ?_)
        with_reducible refine S.inBlock_s ?_
        with_reducible repeat (first | refine S.then_n ?_ | refine S.then_x ?_ | refine S.then_r ?_ | refine S.inBlock_n ?_ | refine S.inBlock_r ?_ | refine S.inBlock_x rfl ?_ | refine S.noGoto_r ?_ | refine S.noGoto_n ?_ | refine S.noGoto_x ?_)
        refine hK18 _ _ ?_
        refine S.seq fun K27 hK27 => ?_
        refine S.seq fun K28 hK28 => ?_
        refine S.region rfl ?_
        refine S.op (S.q (q_move rfl) rfl rfl ?_)
        refine S.op (S.q (q_not rfl) rfl rfl ?_)
        first | with_reducible refine S.nilK ?_ | refine S.nil ?_
        refine hK28 _ _ ?_
        refine S.cond rfl (fun h6 => ?_) (fun h6 => ?_)
        · have hdn : dn = false := by simpa using h6
          have hfin : insJ j L2 = nl ++ [j] := by rw [insJ, hiu, hdn]; rfl
          have hd6 : idsV nl ++ [.int .u32 (j : Int)] = idsV (nl ++ [j]) := by simp
          have hl6 : (nl ++ [j]).length = nl.length + 1 := by simp
          refine S.region rfl ?_
          refine S.op (S.q (q_move rfl) rfl rfl ?_)
          refine S.op (S.q (q_move rfl) rfl rfl ?_)
          refine S.op (S.buildSlice (pvs := [(_, _)]) [_] Tryd.underlying31 Tryd.inf68 rfl rfl ⟨⟨rfl, rfl⟩, trivial⟩ rfl rfl ?_)
          intro b55
          refine S.op (S.appendOw (s := sv) (1) ([.int .u32 (j : Int)]) Tryd.underlying31 Tryd.inf68 rfl rfl rfl (blk_slAt (b := b55) rfl (by unfold maxLen; omega)) (by first | rfl | exact allOne_bcells _) (⟨by omega, by omega⟩) rfl ?_)
          intro sv2 hsv2
          refine S.op (S.q (q_assign rfl) rfl rfl ?_)
          first | with_reducible refine S.nilK ?_ | refine S.nil ?_
          refine hK27 _ _ ?_
          refine S.region rfl ?_
          refine S.op (S.q (q_move rfl) rfl rfl ?_)
          refine S.op (S.q (q_assign rfl) rfl rfl ?_)
          first | with_reducible refine S.nilK ?_ | refine S.nil ?_
          with_reducible repeat (first | refine S.then_n ?_ | refine S.then_x ?_ | refine S.then_r ?_ | refine S.inBlock_n ?_ | refine S.inBlock_r ?_ | refine S.inBlock_x rfl ?_ | refine S.noGoto_r ?_ | refine S.noGoto_n ?_ | refine S.noGoto_x ?_)
          refine hK14 _ _ ?_
          refine S.region rfl ?_
          refine S.op (S.q (q_add rfl rfl (inI64 (by omega) (by omega))) rfl rfl ?_)
          refine S.op (S.q (q_move rfl) rfl rfl ?_)
          first | with_reducible refine S.nilK ?_ | refine S.nil ?_
          with_reducible repeat (first | refine S.then_n ?_ | refine S.then_x ?_ | refine S.then_r ?_ | refine S.inBlock_n ?_ | refine S.inBlock_r ?_ | refine S.inBlock_x rfl ?_ | refine S.noGoto_r ?_ | refine S.noGoto_n ?_ | refine S.noGoto_x ?_)
          first | (rw [hd6]; exact S.next (q2 - 1) ⟨i + 1, sv2, nl ++ [j], by omega, by omega, hfin.symm.trans hnx, by omega, rfl, rfl⟩ (by omega) (by repeat (first | exact trivial | refine ⟨rfl, ?_⟩)) Sub.ent) | exact S.next (q2 - 1) ⟨i + 1, sv, nl, by omega, by omega, hfin.symm.trans hnx, hsv, rfl, rfl⟩ (by omega) (by repeat (first | exact trivial | refine ⟨rfl, ?_⟩)) Sub.ent
        · have hdn : dn = true := by simpa using h6
          have hfin : insJ j L2 = nl := by rw [insJ, hiu, hdn]; rfl
          refine S.skip ?_
          with_reducible repeat (first | refine S.then_n ?_ | refine S.then_x ?_ | refine S.then_r ?_ | refine S.inBlock_n ?_ | refine S.inBlock_r ?_ | refine S.inBlock_x rfl ?_ | refine S.noGoto_r ?_ | refine S.noGoto_n ?_ | refine S.noGoto_x ?_)
          refine hK27 _ _ ?_
          refine S.region rfl ?_
          refine S.op (S.q (q_move rfl) rfl rfl ?_)
          refine S.op (S.q (q_assign rfl) rfl rfl ?_)
          first | with_reducible refine S.nilK ?_ | refine S.nil ?_
          with_reducible repeat (first | refine S.then_n ?_ | refine S.then_x ?_ | refine S.then_r ?_ | refine S.inBlock_n ?_ | refine S.inBlock_r ?_ | refine S.inBlock_x rfl ?_ | refine S.noGoto_r ?_ | refine S.noGoto_n ?_ | refine S.noGoto_x ?_)
          refine hK14 _ _ ?_
          refine S.region rfl ?_
          refine S.op (S.q (q_add rfl rfl (inI64 (by omega) (by omega))) rfl rfl ?_)
          refine S.op (S.q (q_move rfl) rfl rfl ?_)
          first | with_reducible refine S.nilK ?_ | refine S.nil ?_
          with_reducible repeat (first | refine S.then_n ?_ | refine S.then_x ?_ | refine S.then_r ?_ | refine S.inBlock_n ?_ | refine S.inBlock_r ?_ | refine S.inBlock_x rfl ?_ | refine S.noGoto_r ?_ | refine S.noGoto_n ?_ | refine S.noGoto_x ?_)
          first | (rw [hd6]; exact S.next (q2 - 1) ⟨i + 1, sv2, nl ++ [j], by omega, by omega, hfin.symm.trans hnx, by omega, rfl, rfl⟩ (by omega) (by repeat (first | exact trivial | refine ⟨rfl, ?_⟩)) Sub.ent) | exact S.next (q2 - 1) ⟨i + 1, sv, nl, by omega, by omega, hfin.symm.trans hnx, hsv, rfl, rfl⟩ (by omega) (by repeat (first | exact trivial | refine ⟨rfl, ?_⟩)) Sub.ent
    · have hie : i = (rowIds m r).length := by omega
      rw [hie, List.take_length] at hL2
      have hL3 : L2 = insAll [] (rowsIds m (r + 1)) := by rw [rowsIds, insAll_app, ← hL, hL2]
      refine S.exit ?_
      with_reducible repeat (first | refine S.then_n ?_ | refine S.then_x ?_ | refine S.then_r ?_ | refine S.inBlock_n ?_ | refine S.inBlock_r ?_ | refine S.inBlock_x rfl ?_ | refine S.noGoto_r ?_ | refine S.noGoto_n ?_ | refine S.noGoto_x ?_)
      with_reducible refine S.inBlock_s ?_
      with_reducible repeat (first | refine S.then_n ?_ | refine S.then_x ?_ | refine S.then_r ?_ | refine S.inBlock_n ?_ | refine S.inBlock_r ?_ | refine S.inBlock_x rfl ?_ | refine S.noGoto_r ?_ | refine S.noGoto_n ?_ | refine S.noGoto_x ?_)
      with_reducible repeat (first | refine S.then_n ?_ | refine S.then_x ?_ | refine S.then_r ?_ | refine S.inBlock_n ?_ | refine S.inBlock_r ?_ | refine S.inBlock_x rfl ?_ | refine S.noGoto_r ?_ | refine S.noGoto_n ?_ | refine S.noGoto_x ?_)
      refine hK9 _ _ ?_
      refine S.region rfl ?_
      refine S.op (S.q (q_add rfl rfl (inI64 (by omega) (by omega))) rfl rfl ?_)
      refine S.op (S.q (q_move rfl) rfl rfl ?_)
      first | with_reducible refine S.nilK ?_ | refine S.nil ?_
      with_reducible repeat (first | refine S.then_n ?_ | refine S.then_x ?_ | refine S.then_r ?_ | refine S.inBlock_n ?_ | refine S.inBlock_r ?_ | refine S.inBlock_x rfl ?_ | refine S.noGoto_r ?_ | refine S.noGoto_n ?_ | refine S.noGoto_x ?_)
      exact S.next (q - 1) (⟨r + 1, o2, L2, by omega, by omega, hL3, ho2, rfl, rfl⟩) (by omega) (by repeat (first | exact trivial | refine ⟨rfl, ?_⟩)) Sub.ent
  · rw [show r = m.R by omega, insAll_rows hm] at hL
    subst hL
    refine S.exit ?_
    with_reducible repeat (first | refine S.then_n ?_ | refine S.then_x ?_ | refine S.then_r ?_ | refine S.inBlock_n ?_ | refine S.inBlock_r ?_ | refine S.inBlock_x rfl ?_ | refine S.noGoto_r ?_ | refine S.noGoto_n ?_ | refine S.noGoto_x ?_)
    with_reducible refine S.inBlock_s ?_
    with_reducible repeat (first | refine S.then_n ?_ | refine S.then_x ?_ | refine S.then_r ?_ | refine S.inBlock_n ?_ | refine S.inBlock_r ?_ | refine S.inBlock_x rfl ?_ | refine S.noGoto_r ?_ | refine S.noGoto_n ?_ | refine S.noGoto_x ?_)
    refine hK5 _ _ ?_
    refine S.seq fun K29 hK29 => ?_
    refine S.region rfl ?_
    refine S.op (S.q (q_move rfl) rfl rfl ?_)
    refine S.op (S.q (q_assign rfl) rfl rfl ?_)
    first | with_reducible refine S.nilK ?_ | refine S.nil ?_
    refine hK29 _ _ ?_
    refine S.ret ?_
    with_reducible repeat (first | refine S.then_n ?_ | refine S.then_x ?_ | refine S.then_r ?_ | refine S.inBlock_n ?_ | refine S.inBlock_r ?_ | refine S.inBlock_x rfl ?_ | refine S.noGoto_r ?_ | refine S.noGoto_n ?_ | refine S.noGoto_x ?_)
    exact S.fin (rs := [_]) (vs := [_]) Tryd.results68 (⟨rfl, trivial⟩)  (⟨ov, rfl, hov, rfl⟩) Sub.ent
theorem rCopy_S (b : Nat) (m : Mx) : Spec Tryd.prog 26 [.pointer (some ⟨b, 0, none⟩)] [RI b m] fun Γ v Θ => ∃ c, v = .pointer (some ⟨c, 0, none⟩) ∧ Θ = RI c m :: RI b m :: Γ := by
  refine Spec.riOk fun hm => ?_
  refine Spec.of_body Tryd.func26 rfl Tryd.ntmps26 rfl ?_
  intro w0 Γ
  show S _ w0 [(0, .pointer (some ⟨b, 0, none⟩))] (RI b m :: Γ) _
  have hR8 := hm.R8
  have hN16 := hm.N16
  have hN1 := hm.N1
  have hR1 := hm.R1
  refine S.riOpen b m fun cs us rs hri => ?_
  have hcn := hri.cn
  have hun := hri.un
  refine S.ownSome cs (by omega) fun cb co hca _ _ _ => ?_
  have hupo : allOne (upC m) = true := List.all_eq_true.2 fun v hv => by
    obtain ⟨i, _, rfl⟩ := List.mem_map.1 hv
    rfl
  refine S.seq fun K1 hK1 => ?_
  refine S.region rfl ?_
  refine S.op (S.q (q_assign rfl) rfl rfl ?_)
  first | with_reducible refine S.nilK ?_ | refine S.nil ?_
  refine hK1 _ _ ?_
  refine S.seq fun K2 hK2 => ?_
  refine S.seq fun K3 hK3 => ?_
  refine S.region rfl ?_
  refine S.op (S.q (q_move rfl) rfl rfl ?_)
  refine S.op (S.q (q_eqN Tryd.underlying26 rfl rfl) rfl rfl ?_)
  first | with_reducible refine S.nilK ?_ | refine S.nil ?_
  refine hK3 _ _ ?_
  refine S.condF rfl ?_
  refine S.skip ?_
  with_reducible repeat (first | refine S.then_n ?_ | refine S.then_x ?_ | refine S.then_r ?_ | refine S.inBlock_n ?_ | refine S.inBlock_r ?_ | refine S.inBlock_x rfl ?_ | refine S.noGoto_r ?_ | refine S.noGoto_n ?_ | refine S.noGoto_x ?_)
  refine hK2 _ _ ?_
  refine S.seq fun K4 hK4 => ?_
  refine S.region rfl ?_
  refine S.op (S.buildSlice0 Tryd.underlying53 Tryd.inf4 rfl ?_)
  intro b8 hb8
  refine S.op (S.q (q_move rfl) rfl rfl ?_)
  refine S.op (S.q (q_nilCheck rfl) rfl rfl ?_)
  refine S.op (S.q (q_field Tryd.fo55_1 rfl) rfl rfl ?_)
  refine S.op (S.q (q_load Tryd.at53 rfl rfl) rfl rfl ?_)
  refine S.op (S.appendOw (s := b8) (us.n) (upC m) Tryd.underlying53 Tryd.inf4 rfl rfl rfl (fun w hs => (RdS.own (s := us) (e := 4) (sz := 1) (xs := upC m)).at_ hs) (hupo) (⟨by omega, by omega⟩) rfl ?_)
  intro u2 hu2
  rw [List.nil_append]
  refine S.op (S.q (q_build (pvs := [(_, _)]) [_, _] Tryd.z55 Tryd.p55 ⟨⟨rfl, rfl⟩, trivial⟩ rfl) rfl rfl ?_)
  refine S.op (S.box (cs := [_, _]) rfl rfl rfl ?_)
  intro b15
  refine S.op (S.q (q_assign rfl) rfl rfl ?_)
  first | with_reducible refine S.nilK ?_ | refine S.nil ?_
  refine hK4 _ _ ?_
  refine S.seq fun K5 hK5 => ?_
  refine S.seq fun K6 hK6 => ?_
  refine S.region rfl ?_
  refine S.op (S.q (q_move rfl) rfl rfl ?_)
  refine S.op (S.q (q_nilCheck rfl) rfl rfl ?_)
  refine S.op (S.q (q_field Tryd.fo55_0 rfl) rfl rfl ?_)
  refine S.op (S.q (q_load Tryd.at52 rfl rfl) rfl rfl ?_)
  refine S.op (S.q (q_len Tryd.underlying52 rfl) rfl rfl ?_)
  show S _ w0 _ (blk b15 55 #[SV.nil.v, u2.v] :: own u2 4 1 (upC m) :: _) _
  refine S.ent (Ent.ownNil 31 1) ?_
  refine S.ent (Ent.allsNil rrB _) ?_
  show S _ w0 _ (alls [] rrB :: own SV.nil 31 1 (([] : List Rr).map rrV) :: blk b15 55 #[SV.nil.v, u2.v] :: own u2 4 1 (upC m) :: riX b m cs us rs Γ) _
  refine S.op (S.q (q_move rfl) rfl rfl ?_)
  first | with_reducible refine S.nilK ?_ | refine S.nil ?_
  refine hK6 _ _ ?_
  refine S.block ?_
  refine S.loop (fun q ρ' Γ' => ∃ (i : Nat) (r2 : List Rr) (c2 : SV), q = m.R - i ∧ i ≤ m.R ∧ r2.map (·.2) = (List.range i).map (rowN m) ∧ c2.n = i ∧ (∀ p ∈ r2, p.1.n = m.N) ∧ ρ' = [(0, .pointer (some ⟨b, 0, none⟩)), (3, .pointer (some ⟨b15, 0, none⟩)), (19, cs.v), (20, .int .i64 (cs.n : Int)), (21, .int .i64 (i : Int))] ∧   Γ' = alls r2 rrB :: own c2 31 1 (r2.map rrV) :: blk b15 55 #[c2.v, u2.v] :: own u2 4 1 (upC m) :: riX b m cs us rs Γ) (m := _) (ρ0 := _) (Γ0 := _) (⟨0, [], SV.nil, rfl, by omega, rfl, rfl, fun _ h => (by cases h), rfl, rfl⟩) (by repeat (first | exact trivial | refine ⟨rfl, ?_⟩)) Sub.ent ?_
  rintro q ρ' Γ' ⟨i, r2, c2, hq, hi, hdat, hc2, hlen, rfl, rfl⟩
  refine S.seq fun K7 hK7 => ?_
  refine S.region rfl ?_
  refine S.op (S.q (q_lt rfl rfl) rfl rfl ?_)
  first | with_reducible refine S.nilK ?_ | refine S.nil ?_
  refine hK7 _ _ ?_
  refine S.seq fun K8 hK8 => ?_
  refine S.condD rfl (fun h2 => ?_) (fun h2 => ?_)
  · obtain ⟨p, hp, hpd, hpn⟩ := hri.at_ (show i < m.R by omega)
    have hRp : RdS (alls rs rrB) p.1 p.1.n 1 (idsV p.2) := RdS.alls hp RdS.own
    refine S.skip ?_
    with_reducible repeat (first | refine S.then_n ?_ | refine S.then_x ?_ | refine S.then_r ?_ | refine S.inBlock_n ?_ | refine S.inBlock_r ?_ | refine S.inBlock_x rfl ?_ | refine S.noGoto_r ?_ | refine S.noGoto_n ?_ | refine S.noGoto_x ?_)
    refine hK8 _ _ ?_
    refine S.seq fun K9 hK9 => ?_
    refine S.block ?_
    refine S.seq fun K10 hK10 => ?_
    refine S.region rfl ?_
    refine S.op (S.q (q_indexO (i) Tryd.el52 rfl hca rfl rfl (by omega)) rfl rfl ?_)
    refine S.op (S.q (q_loadOw (cs) (i) Tryd.at31 rfl hca (by first | rfl | exact Nat.add_assoc _ _ _ | omega) (by rw [List.getElem?_map, hp]; rfl)) rfl rfl ?_)
    refine S.op (S.q (q_assign rfl) rfl rfl ?_)
    first | with_reducible refine S.nilK ?_ | refine S.nil ?_
    refine hK10 _ _ ?_
    refine S.draw ([blk b15 55 #[c2.v, u2.v]]) [12] Tryd.mixed ?_
    refine S.dr_take 0 [10, 11, 12] rfl (by kernel_rfl) rfl rfl rfl (q_move rfl) Sub.ent ?_
    refine S.dr_take 1 [2, 3, 4, 9, 10, 11, 12] rfl (by kernel_rfl) rfl rfl rfl (q_move rfl) Sub.ent ?_
    refine S.dr_take 2 [3, 4, 9, 10, 11, 12] rfl (by kernel_rfl) rfl rfl rfl (q_nilCheck rfl) Sub.ent ?_
    refine S.dr_take 3 [4, 9, 10, 11, 12] rfl (by kernel_rfl) rfl rfl rfl (q_field Tryd.fo55_0 rfl) Sub.ent ?_
    refine S.dr_take 4 [9, 10, 11, 12] rfl (by kernel_rfl) rfl rfl rfl (q_load Tryd.at52 rfl rfl) Sub.ent ?_
    refine S.dr_take 6 [7, 8, 9, 10, 11, 12] rfl (by kernel_rfl) rfl rfl rfl (q_move rfl) Sub.ent ?_
    refine S.dr_1 (i := 5) (by kernel_rfl) rfl rfl ?_
    refine  (S.buildSlice0 Tryd.underlying31 Tryd.inf68 rfl ?_)
    intro b30 hb30
    refine S.dr_k rfl Sub.ent ?_
    refine S.dr_1 (i := 7) (by kernel_rfl) rfl rfl ?_
    refine  (S.appendOw (s := b30) (p.1.n) (idsV p.2) Tryd.underlying31 Tryd.inf68 rfl rfl rfl (fun w hs => hRp.at_ hs) (idsV_one p.2) (⟨by omega, by omega⟩) rfl ?_)
    intro nv1 hnv1
    rw [List.nil_append]
    refine S.dr_k rfl Sub.ent ?_
    refine S.dr_1 (i := 8) (by kernel_rfl) rfl rfl ?_
    refine  (S.buildSlice (pvs := [(_, _)]) [_] Tryd.underlying52 Tryd.inf31 rfl rfl ⟨⟨rfl, rfl⟩, trivial⟩ rfl rfl ?_)
    intro b33
    refine S.dr_k rfl Sub.ent ?_
    refine S.dr_1 (i := 9) (by kernel_rfl) rfl rfl ?_
    refine  (S.appendOw (s := c2) (1) ([nv1.v]) Tryd.underlying52 Tryd.inf31 rfl rfl rfl (blk_slAt (b := b33) rfl (by unfold maxLen; omega)) (by first | rfl | exact allOne_bcells _) (⟨by omega, by omega⟩) rfl ?_)
    intro c3 hc3
    refine S.dr_k rfl Sub.ent ?_
    refine S.dr_take 10 [11, 12] rfl (by kernel_rfl) rfl rfl rfl (q_nilCheck rfl) Sub.ent ?_
    refine S.dr_take 11 [12] rfl (by kernel_rfl) rfl rfl rfl (q_field Tryd.fo55_0 rfl) Sub.ent ?_
    refine S.dr_1 (i := 12) (by kernel_rfl) rfl rfl ?_
    refine  (S.store (cs' := [_, _]) Tryd.at52 rfl rfl rfl rfl rfl ?_)
    refine S.dr_late ([]) [] rfl ?_
    first | with_reducible refine S.dr_doneK (by kernel_rfl) ?_ | refine S.dr_done (by kernel_rfl) ?_
    with_reducible repeat (first | refine S.then_n ?_ | refine S.then_x ?_ | refine S.then_r ?_ | refine S.inBlock_n ?_ | refine S.inBlock_r ?_ | refine S.inBlock_x rfl ?_ | refine S.noGoto_r ?_ | refine S.noGoto_n ?_ | refine S.noGoto_x ?_)
    refine hK9 _ _ ?_
    refine S.region rfl ?_
    refine S.op (S.q (q_add rfl rfl (inI64 (by omega) (by omega))) rfl rfl ?_)
    refine S.op (S.q (q_move rfl) rfl rfl ?_)
    first | with_reducible refine S.nilK ?_ | refine S.nil ?_
    with_reducible repeat (first | refine S.then_n ?_ | refine S.then_x ?_ | refine S.then_r ?_ | refine S.inBlock_n ?_ | refine S.inBlock_r ?_ | refine S.inBlock_x rfl ?_ | refine S.noGoto_r ?_ | refine S.noGoto_n ?_ | refine S.noGoto_x ?_)
    have hdat2 : (r2 ++ [((nv1, p.2) : Rr)]).map (·.2) = (List.range (i + 1)).map (rowN m) := by rw [List.map_append, hdat, List.range_succ, List.map_append, hpd]; rfl
    have hlen2 : ∀ z ∈ r2 ++ [((nv1, p.2) : Rr)], z.1.n = m.N := fun z hz => by
      rcases List.mem_append.1 hz with h9 | h9
      · exact hlen z h9
      · rw [List.mem_singleton] at h9
        rw [h9]
        show nv1.n = m.N
        omega
    have hmap : r2.map rrV ++ [nv1.v] = (r2 ++ [((nv1, p.2) : Rr)]).map rrV := by rw [List.map_append]; rfl
    rw [hmap]
    refine S.conv2 (own nv1 68 1 (idsV p.2)) (alls r2 rrB) (Ent.allsSnoc rrB r2 ((nv1, p.2) : Rr) _) ?_
    exact S.next (q - 1) (⟨i + 1, r2 ++ [(nv1, p.2)], c3, by omega, by omega, hdat2, by omega, hlen2, rfl, rfl⟩) (by omega) (by repeat (first | exact trivial | refine ⟨rfl, ?_⟩)) Sub.ent
  · rw [show i = m.R by omega] at hdat
    have hri2 : RiOk m c2 u2 r2 := ⟨hm, by omega, by omega, hdat, hlen⟩
    refine S.exit ?_
    with_reducible repeat (first | refine S.then_n ?_ | refine S.then_x ?_ | refine S.then_r ?_ | refine S.inBlock_n ?_ | refine S.inBlock_r ?_ | refine S.inBlock_x rfl ?_ | refine S.noGoto_r ?_ | refine S.noGoto_n ?_ | refine S.noGoto_x ?_)
    with_reducible refine S.inBlock_s ?_
    with_reducible repeat (first | refine S.then_n ?_ | refine S.then_x ?_ | refine S.then_r ?_ | refine S.inBlock_n ?_ | refine S.inBlock_r ?_ | refine S.inBlock_x rfl ?_ | refine S.noGoto_r ?_ | refine S.noGoto_n ?_ | refine S.noGoto_x ?_)
    refine hK5 _ _ ?_
    refine S.seq fun K11 hK11 => ?_
    refine S.region rfl ?_
    refine S.op (S.q (q_move rfl) rfl rfl ?_)
    refine S.op (S.q (q_assign rfl) rfl rfl ?_)
    first | with_reducible refine S.nilK ?_ | refine S.nil ?_
    refine hK11 _ _ ?_
    refine S.ret ?_
    with_reducible repeat (first | refine S.then_n ?_ | refine S.then_x ?_ | refine S.then_r ?_ | refine S.inBlock_n ?_ | refine S.inBlock_r ?_ | refine S.inBlock_x rfl ?_ | refine S.noGoto_r ?_ | refine S.noGoto_n ?_ | refine S.noGoto_x ?_)
    refine S.riClose b15 m c2 u2 r2 hri2 ?_
    refine S.riClose b m cs us rs hri ?_
    refine S.sub (RI b15 m :: RI b m :: Γ) ?_
    exact S.fin (rs := [_]) (vs := [_]) Tryd.results26 (⟨rfl, trivial⟩)  (⟨b15, rfl, rfl⟩) Sub.ent
end Go.Proofs.YtegjmmocnffpiaaDoor
/- The document's matrix: Fill; Put of what may not be. -/
namespace Go.Proofs.YtegjmmocnffpiaaDoor
open Go.RowKit
set_option maxRecDepth 20000
/-- The cells that are taken. -/
def Tkn (m : Mx) (tn : Bs) (d : List Nat) : Prop := d.length = m.N ∧ ∀ i x, d[i]? = some x → (x = 0 ↔ tn.getLsbD i = false)
theorem Tkn.zero {m : Mx} (hm : MxOk m) (r : Nat) : Tkn m (tk m.js r) (rowN m r) := ⟨rowN_len m r, fun i x hx => by
  have hi : i < m.N := by have := (List.getElem?_eq_some_iff.1 hx).1; rwa [rowN_len] at this
  rw [rowN_get hi] at hx
  cases hx
  exact busy_iff hm⟩
theorem Tkn.add {m : Mx} {tn : Bs} {d : List Nat} (h : Tkn m tn d) {x : Jb} (hx0 : x.id ≠ 0) : Tkn m (tn ||| x.ns) (setAll d (lst x.ns) x.id) := ⟨by rw [setAll_len]; exact h.1, fun i y hy => by
  have hi : i < d.length := by have := (List.getElem?_eq_some_iff.1 hy).1; rwa [setAll_len] at this
  rw [setAll_get _ _ _ _ hi] at hy
  rw [BitVec.getLsbD_or]
  by_cases e : i ∈ lst x.ns
  · rw [if_pos e] at hy
    cases hy
    rw [mem_lst.1 e]
    simp [hx0]
  · rw [if_neg e] at hy
    have hb : x.ns.getLsbD i = false := by
      cases hb : x.ns.getLsbD i with
      | false => rfl
      | true => exact absurd (mem_lst.2 hb) e
    rw [hb, Bool.or_false]
    exact h.2 i y hy⟩
def goU (d nl : List Nat) : Nat → Bool
  | 0 => true
  | k + 1 => goU d nl k && decide (d.getD (nl.getD k 0) 0 = 0)
theorem goU_all {d nl : List Nat} : ∀ {k}, goU d nl k = true ↔ ∀ q, q < k → d.getD (nl.getD q 0) 0 = 0
  | 0 => ⟨fun _ q hq => by omega, fun _ => rfl⟩
  | k + 1 => by
    rw [goU, Bool.and_eq_true, goU_all, decide_eq_true_eq]
    constructor
    · rintro ⟨h1, h2⟩ q hq
      by_cases e : q = k
      · rw [e]; exact h2
      · exact h1 q (by omega)
    · intro h
      exact ⟨fun q hq => h q (by omega), h k (by omega)⟩
theorem goU_iff {m : Mx} {tn : Bs} {d : List Nat} (h : Tkn m tn d) {x : Jb} (hlt : ∀ i, x.ns.getLsbD i = true → i < m.N) : goU d (lst x.ns) (lst x.ns).length = true ↔ x.ns &&& tn = 0#16 := by
  have hd : ∀ i, i < m.N → (d.getD i 0 = 0 ↔ tn.getLsbD i = false) := fun i hi => by
    have e := List.getElem?_eq_getElem (show i < d.length by rw [h.1]; exact hi)
    have e2 : d.getD i 0 = d[i]'(by rw [h.1]; exact hi) := by simp [List.getD, e]
    rw [e2]
    exact h.2 i _ e
  rw [goU_all]
  constructor
  · intro hg
    refine BitVec.eq_of_getLsbD_eq fun i _ => ?_
    rw [BitVec.getLsbD_and]
    cases hb : x.ns.getLsbD i with
    | false => simp
    | true =>
      obtain ⟨q, hq, e⟩ := List.getElem_of_mem (mem_lst.2 hb)
      have h1 := hg q hq
      have e2 : (lst x.ns).getD q 0 = i := by simp [List.getD, List.getElem?_eq_getElem hq, e]
      rw [e2] at h1
      rw [(hd i (hlt i hb)).1 h1]
      simp
  · intro hz q hq
    have e2 : (lst x.ns).getD q 0 = (lst x.ns)[q] := by simp [List.getD, List.getElem?_eq_getElem hq]
    have hb := mem_lst.1 (List.getElem_mem hq)
    rw [e2]
    refine (hd _ (hlt _ hb)).2 ?_
    have h9 := congrArg (fun s => s.getLsbD (lst x.ns)[q]) hz
    simp only [BitVec.getLsbD_and, hb] at h9
    simpa using h9
set_option maxHeartbeats 2000000 in
theorem rFill_S (c : Nat) (m : Mx) (z : Int) : Spec Tryd.prog 71 [.pointer (some ⟨c, 0, none⟩), .int .i64 z] [RI c m] fun Γ v Θ => ∃ sv : SV, v = sv.v ∧ sv.n = (fillIds m z).length ∧ Θ = own sv 68 1 (idsV (fillIds m z)) :: RI c m :: Γ := by
  refine Spec.riOk fun hm => ?_
  refine Spec.of_body Tryd.func71 rfl Tryd.ntmps71 rfl ?_
  intro w0 Γ
  show S _ w0 [(0, .pointer (some ⟨c, 0, none⟩)), (1, .int .i64 z)] (RI c m :: Γ) _
  have hR8 := hm.R8
  have hR1 := hm.R1
  have hN16 := hm.N16
  have hN1 := hm.N1
  refine S.riOpen c m fun cs us rs hri => ?_
  have hcn := hri.cn
  refine S.ownSome cs (by omega) fun cb co hca _ _ _ => ?_
  refine S.seq fun K1 hK1 => ?_
  refine S.region rfl ?_
  refine S.op (S.q (q_assign rfl) rfl rfl ?_)
  first | with_reducible refine S.nilK ?_ | refine S.nil ?_
  refine hK1 _ _ ?_
  refine S.seq fun K2 hK2 => ?_
  refine S.seq fun K3 hK3 => ?_
  refine S.cut (fun ρ' Γ' => ρ' = [(0, .pointer (some ⟨c, 0, none⟩)), (1, .int .i64 z), (32, .bool (!rowB m z))] ∧ Γ' = riX c m cs us rs Γ) ?_ ?_
  · refine S.regionG ?_
    refine S.g_op rfl (S.q (q_move rfl) rfl rfl ?_)
    refine S.g_op rfl (S.q (q_eqN Tryd.underlying26 rfl rfl) rfl rfl ?_)
    refine S.g_op rfl (S.q (q_move rfl) rfl rfl ?_)
    refine S.g_yes rfl rfl rfl (rfl) (S.q (q_move rfl) rfl rfl ?_)
    refine S.g_yes rfl rfl rfl (rfl) (S.q (q_lt rfl rfl) rfl rfl ?_)
    refine S.g_op rfl (S.q (q_pickF rfl (rfl) rfl) rfl rfl ?_)
    refine S.g_op rfl (S.q (q_move rfl) rfl rfl ?_)
    by_cases hg1_6 : z < 0
    · refine S.g_no rfl rfl rfl (decide_eq_true hg1_6) rfl rfl ?_
      refine S.g_no rfl rfl rfl (decide_eq_true hg1_6) rfl rfl ?_
      refine S.g_no rfl rfl rfl (decide_eq_true hg1_6) rfl rfl ?_
      refine S.g_no rfl rfl rfl (decide_eq_true hg1_6) rfl rfl ?_
      refine S.g_no rfl rfl rfl (decide_eq_true hg1_6) rfl rfl ?_
      refine S.g_no rfl rfl rfl (decide_eq_true hg1_6) rfl rfl ?_
      refine S.g_no rfl rfl rfl (decide_eq_true hg1_6) rfl rfl ?_
      refine S.g_op rfl (S.q (q_pickT rfl (decide_eq_true hg1_6) rfl) rfl rfl ?_)
      first | with_reducible refine S.g_nilK ?_ | refine S.g_nil ?_
      with_reducible repeat (first | refine S.then_n ?_ | refine S.then_x ?_ | refine S.then_r ?_ | refine S.inBlock_n ?_ | refine S.inBlock_r ?_ | refine S.inBlock_x rfl ?_ | refine S.noGoto_r ?_ | refine S.noGoto_n ?_ | refine S.noGoto_x ?_)
      first | (rw [show (!rowB m z) = true by rw [rowB, decide_eq_false (by omega)]; rfl]; exact S.meet ⟨rfl, rfl⟩ ⟨rfl, rfl, rfl, trivial⟩ Sub.ent) | (rw [show (!rowB m z) = decide ((cs.n : Int) ≤ z) by rw [rowB, decide_eq_true (show (0 : Int) ≤ z by omega), Bool.true_and, ← decide_not]; exact decide_eq_decide.2 (by omega)]; exact S.meet ⟨rfl, rfl⟩ ⟨rfl, rfl, rfl, trivial⟩ Sub.ent)
    · refine S.g_yes rfl rfl rfl (decide_eq_false hg1_6) (S.q (q_move rfl) rfl rfl ?_)
      refine S.g_yes rfl rfl rfl (decide_eq_false hg1_6) (S.q (q_move rfl) rfl rfl ?_)
      refine S.g_yes rfl rfl rfl (decide_eq_false hg1_6) (S.q (q_nilCheck rfl) rfl rfl ?_)
      refine S.g_yes rfl rfl rfl (decide_eq_false hg1_6) (S.q (q_field Tryd.fo55_0 rfl) rfl rfl ?_)
      refine S.g_yes rfl rfl rfl (decide_eq_false hg1_6) (S.q (q_load Tryd.at52 rfl rfl) rfl rfl ?_)
      refine S.g_yes rfl rfl rfl (decide_eq_false hg1_6) (S.q (q_len Tryd.underlying52 rfl) rfl rfl ?_)
      refine S.g_yes rfl rfl rfl (decide_eq_false hg1_6) (S.q (q_ge rfl rfl) rfl rfl ?_)
      refine S.g_op rfl (S.q (q_pickF rfl (decide_eq_false hg1_6) rfl) rfl rfl ?_)
      first | with_reducible refine S.g_nilK ?_ | refine S.g_nil ?_
      with_reducible repeat (first | refine S.then_n ?_ | refine S.then_x ?_ | refine S.then_r ?_ | refine S.inBlock_n ?_ | refine S.inBlock_r ?_ | refine S.inBlock_x rfl ?_ | refine S.noGoto_r ?_ | refine S.noGoto_n ?_ | refine S.noGoto_x ?_)
      first | (rw [show (!rowB m z) = true by rw [rowB, decide_eq_false (by omega)]; rfl]; exact S.meet ⟨rfl, rfl⟩ ⟨rfl, rfl, rfl, trivial⟩ Sub.ent) | (rw [show (!rowB m z) = decide ((cs.n : Int) ≤ z) by rw [rowB, decide_eq_true (show (0 : Int) ≤ z by omega), Bool.true_and, ← decide_not]; exact decide_eq_decide.2 (by omega)]; exact S.meet ⟨rfl, rfl⟩ ⟨rfl, rfl, rfl, trivial⟩ Sub.ent)
  · rintro ρ' Γ' ⟨rfl, rfl⟩
    refine hK3 _ _ ?_
    refine S.cond rfl (fun h1 => ?_) (fun h1 => ?_)
    · have hn : fillIds m z = [] := by rw [fillIds, show rowB m z = false by simpa using h1]; rfl
      refine S.riClose c m cs us rs hri ?_
      refine S.seq fun K4 hK4 => ?_
      refine S.region rfl ?_
      refine S.op (S.q (q_assign rfl) rfl rfl ?_)
      first | with_reducible refine S.nilK ?_ | refine S.nil ?_
      refine hK4 _ _ ?_
      refine S.ret ?_
      with_reducible repeat (first | refine S.then_n ?_ | refine S.then_x ?_ | refine S.then_r ?_ | refine S.inBlock_n ?_ | refine S.inBlock_r ?_ | refine S.inBlock_x rfl ?_ | refine S.noGoto_r ?_ | refine S.noGoto_n ?_ | refine S.noGoto_x ?_)
      refine S.ent (Δ := own SV.nil 68 1 (idsV (fillIds m z)) :: RI c m :: Γ) (by rw [hn]; exact Ent.ownNil _ _) ?_
      exact S.fin (rs := [_]) (vs := [_]) Tryd.results71 (⟨rfl, trivial⟩)  (⟨SV.nil, rfl, by rw [hn]; rfl, rfl⟩) Sub.ent
    · have hrb : rowB m z = true := by simpa using h1
      have hrr := rowB_iff.1 hrb
      obtain ⟨r, rfl⟩ : ∃ r : Nat, z = r := ⟨z.toNat, by omega⟩
      have hrR : r < m.R := by omega
      have hn : fillIds m r = (fillUp m r m.R).2.map (·.id) := by rw [fillIds, if_pos hrb, Int.toNat_natCast]
      obtain ⟨p, hp, hpd, hpn⟩ := hri.at_ hrR
      have hRp : RdS (alls rs rrB) p.1 p.1.n 1 (idsV p.2) := RdS.alls hp RdS.own
      refine S.skip ?_
      with_reducible repeat (first | refine S.then_n ?_ | refine S.then_x ?_ | refine S.then_r ?_ | refine S.inBlock_n ?_ | refine S.inBlock_r ?_ | refine S.inBlock_x rfl ?_ | refine S.noGoto_r ?_ | refine S.noGoto_n ?_ | refine S.noGoto_x ?_)
      refine hK2 _ _ ?_
      refine S.seq fun K5 hK5 => ?_
      refine S.region rfl ?_
      refine S.op (S.q (q_assign rfl) rfl rfl ?_)
      first | with_reducible refine S.nilK ?_ | refine S.nil ?_
      refine hK5 _ _ ?_
      refine S.seq fun K6 hK6 => ?_
      refine S.region rfl ?_
      refine S.op (S.buildSlice0 Tryd.underlying31 Tryd.inf68 rfl ?_)
      intro b33 hb33
      refine S.op (S.q (q_move rfl) rfl rfl ?_)
      refine S.op (S.q (q_nilCheck rfl) rfl rfl ?_)
      refine S.op (S.q (q_field Tryd.fo55_0 rfl) rfl rfl ?_)
      refine S.op (S.q (q_load Tryd.at52 rfl rfl) rfl rfl ?_)
      refine S.op (S.q (q_move rfl) rfl rfl ?_)
      refine S.op (S.q (q_indexO (r) Tryd.el52 rfl hca rfl rfl (by omega)) rfl rfl ?_)
      refine S.op (S.q (q_loadOw (cs) (r) Tryd.at31 rfl hca (by first | rfl | exact Nat.add_assoc _ _ _ | omega) (by rw [List.getElem?_map, hp]; rfl)) rfl rfl ?_)
      refine S.op (S.appendOw (s := b33) (p.1.n) (idsV p.2) Tryd.underlying31 Tryd.inf68 rfl rfl rfl (fun w hs => hRp.at_ hs) (idsV_one p.2) (⟨by omega, by omega⟩) rfl ?_)
      intro dv hdv
      rw [List.nil_append, hpd]
      refine S.op (S.q (q_assign rfl) rfl rfl ?_)
      first | with_reducible refine S.nilK ?_ | refine S.nil ?_
      refine hK6 _ _ ?_
      refine S.seq fun K7 hK7 => ?_
      refine S.seq fun K8 hK8 => ?_
      refine S.region rfl ?_
      refine S.op (S.q (q_move rfl) rfl rfl ?_)
      refine S.op (S.q (q_nilCheck rfl) rfl rfl ?_)
      refine S.op (S.q (q_field Tryd.fo55_0 rfl) rfl rfl ?_)
      refine S.op (S.q (q_load Tryd.at52 rfl rfl) rfl rfl ?_)
      refine S.op (S.q (q_len Tryd.underlying52 rfl) rfl rfl ?_)
      refine S.riClose c m cs us rs hri ?_
      refine S.ent (Ent.ownNil 68 1) ?_
      show S _ w0 _ (own SV.nil 68 1 (idsV (([] : List Jb).map (·.id))) :: _) _
      refine S.op (S.q (q_move rfl) rfl rfl ?_)
      first | with_reducible refine S.nilK ?_ | refine S.nil ?_
      refine hK8 _ _ ?_
      refine S.block ?_
      refine S.loop (fun k ρ' Γ' => ∃ (o : Nat) (tn : Bs) (d : List Nat) (out : List Jb) (sv : SV) (ov : List Value), k = m.R - o ∧ o ≤ m.R ∧ fillUp m r o = (tn, out) ∧ Tkn m tn d ∧ sv.n = out.length ∧ ov = idsV (out.map (·.id)) ∧   ρ' = [(0, .pointer (some ⟨c, 0, none⟩)), (1, .int .i64 (r : Int)), (5, sv.v), (6, dv.v), (46, .int .i64 (cs.n : Int)), (47, .int .i64 (o : Int))] ∧ Γ' = own sv 68 1 ov :: own dv 68 1 (idsV d) :: RI c m :: Γ) (m := _) (ρ0 := _) (Γ0 := _) (⟨0, tk m.js r, rowN m r, [], SV.nil, _, rfl, by omega, rfl, Tkn.zero hm r, rfl, rfl, rfl, rfl⟩) (by repeat (first | exact trivial | refine ⟨rfl, ?_⟩)) Sub.ent ?_
      rintro k ρ' Γ' ⟨o, tn, d, out, sv, ov, hk, hoR, hfu, htk, hsv, hov, rfl, rfl⟩
      have hol := fillUp_len m r o
      rw [hfu] at hol
      simp only at hol
      refine S.seq fun K9 hK9 => ?_
      refine S.region rfl ?_
      refine S.op (S.q (q_lt rfl rfl) rfl rfl ?_)
      first | with_reducible refine S.nilK ?_ | refine S.nil ?_
      refine hK9 _ _ ?_
      refine S.seq fun K10 hK10 => ?_
      refine S.condD rfl (fun h2 => ?_) (fun h2 => ?_)
      · refine S.skip ?_
        with_reducible repeat (first | refine S.then_n ?_ | refine S.then_x ?_ | refine S.then_r ?_ | refine S.inBlock_n ?_ | refine S.inBlock_r ?_ | refine S.inBlock_x rfl ?_ | refine S.noGoto_r ?_ | refine S.noGoto_n ?_ | refine S.noGoto_x ?_)
        refine hK10 _ _ ?_
        refine S.seq fun K11 hK11 => ?_
        refine S.block ?_
        refine S.seq fun K12 hK12 => ?_
        refine S.region rfl ?_
        refine S.op (S.q (q_move rfl) rfl rfl ?_)
        refine S.op (S.q (q_assign rfl) rfl rfl ?_)
        first | with_reducible refine S.nilK ?_ | refine S.nil ?_
        refine hK12 _ _ ?_
        refine S.seq fun K13 hK13 => ?_
        refine S.seq fun K14 hK14 => ?_
        refine S.region rfl ?_
        refine S.op (S.q (q_move rfl) rfl rfl ?_)
        refine S.op (S.q (q_move rfl) rfl rfl ?_)
        refine S.op (S.q (q_eq rfl rfl) rfl rfl ?_)
        first | with_reducible refine S.nilK ?_ | refine S.nil ?_
        refine hK14 _ _ ?_
        refine S.condD rfl (fun h3 => ?_) (fun h3 => ?_)
        · have hor : o = r := by omega
          have hfu2 : fillUp m r (o + 1) = (tn, out) := by rw [fillUp, if_pos hor]; exact hfu
          refine S.exit ?_
          with_reducible repeat (first | refine S.then_n ?_ | refine S.then_x ?_ | refine S.then_r ?_ | refine S.inBlock_n ?_ | refine S.inBlock_r ?_ | refine S.inBlock_x rfl ?_ | refine S.noGoto_r ?_ | refine S.noGoto_n ?_ | refine S.noGoto_x ?_)
          with_reducible refine S.inBlock_s ?_
          with_reducible repeat (first | refine S.then_n ?_ | refine S.then_x ?_ | refine S.then_r ?_ | refine S.inBlock_n ?_ | refine S.inBlock_r ?_ | refine S.inBlock_x rfl ?_ | refine S.noGoto_r ?_ | refine S.noGoto_n ?_ | refine S.noGoto_x ?_)
          refine hK11 _ _ ?_
          refine S.region rfl ?_
          refine S.op (S.q (q_add rfl rfl (inI64 (by omega) (by omega))) rfl rfl ?_)
          refine S.op (S.q (q_move rfl) rfl rfl ?_)
          first | with_reducible refine S.nilK ?_ | refine S.nil ?_
          with_reducible repeat (first | refine S.then_n ?_ | refine S.then_x ?_ | refine S.then_r ?_ | refine S.inBlock_n ?_ | refine S.inBlock_r ?_ | refine S.inBlock_x rfl ?_ | refine S.noGoto_r ?_ | refine S.noGoto_n ?_ | refine S.noGoto_x ?_)
          first | exact S.next (k - 1) ⟨o + 1, tn, d, out, sv, ov, by omega, by omega, hfu2, htk, hsv, hov, rfl, rfl⟩ (by omega) (by repeat (first | exact trivial | refine ⟨rfl, ?_⟩)) Sub.ent | exact S.next (k - 1) ⟨o + 1, tn2, d2, out2, s2, ov2, by omega, by omega, hfu2.trans hfo, htk2, hs2, hov2, rfl, rfl⟩ (by omega) (by repeat (first | exact trivial | refine ⟨rfl, ?_⟩)) Sub.ent
        · have hor : ¬ o = r := by omega
          have hfu2 : fillUp m r (o + 1) = (rowJ m o).foldl fillStep (tn, out) := by rw [fillUp, if_neg hor, hfu]
          refine S.skip ?_
          with_reducible repeat (first | refine S.then_n ?_ | refine S.then_x ?_ | refine S.then_r ?_ | refine S.inBlock_n ?_ | refine S.inBlock_r ?_ | refine S.inBlock_x rfl ?_ | refine S.noGoto_r ?_ | refine S.noGoto_n ?_ | refine S.noGoto_x ?_)
          refine hK13 _ _ ?_
          refine S.seq fun K15 hK15 => ?_
          refine S.region rfl ?_
          refine S.op (S.q (q_move rfl) rfl rfl ?_)
          refine S.op (S.q (q_move rfl) rfl rfl ?_)
          refine S.op (S.call Tryd.en19 (vs := [_, _]) ⟨rfl, rfl, trivial⟩ (rRow_S c m o) rfl ?_)
          rintro v Θ ⟨rv, rfl, hrv, rfl⟩
          have hro : rowIds m o = (rowJ m o).map (·.id) := rowIds_eq0 (by omega)
          rw [hro] at hrv ⊢
          rw [List.length_map] at hrv
          have hj16 := rowJ_len m o
          refine S.op (S.q (q_len Tryd.underlying31 rfl) rfl rfl ?_)
          refine S.op (S.q (q_move rfl) rfl rfl ?_)
          first | with_reducible refine S.nilK ?_ | refine S.nil ?_
          refine hK15 _ _ ?_
          refine S.block ?_
          refine S.loop (fun k2 ρ' Γ' => ∃ (q : Nat) (tn2 : Bs) (d2 : List Nat) (out2 : List Jb) (s2 : SV) (ov2 : List Value), k2 = (rowJ m o).length - q ∧ q ≤ (rowJ m o).length ∧ ((rowJ m o).take q).foldl fillStep (tn, out) = (tn2, out2) ∧ Tkn m tn2 d2 ∧ s2.n = out2.length ∧ ov2 = idsV (out2.map (·.id)) ∧   ρ' = [(0, .pointer (some ⟨c, 0, none⟩)), (1, .int .i64 (r : Int)), (5, s2.v), (6, dv.v), (46, .int .i64 (cs.n : Int)), (47, .int .i64 (o : Int)), (55, rv.v), (56, .int .i64 rv.n), (57, .int .i64 (q : Int))] ∧   Γ' = own s2 68 1 ov2 :: own rv 68 1 (idsV ((rowJ m o).map (·.id))) :: own dv 68 1 (idsV d2) :: RI c m :: Γ) (m := _) (ρ0 := _) (Γ0 := _) (⟨0, tn, d, out, sv, ov, rfl, by omega, rfl, htk, hsv, hov, rfl, rfl⟩) (by repeat (first | exact trivial | refine ⟨rfl, ?_⟩)) Sub.ent ?_
          rintro k2 ρ' Γ' ⟨q, tn2, d2, out2, s2, ov2, hk2, hq, hfo, htk2, hs2, hov2, rfl, rfl⟩
          have hfl := fold_len ((rowJ m o).take q) (tn, out)
          rw [hfo] at hfl
          rw [List.length_take] at hfl
          simp only at hfl
          refine S.seq fun K16 hK16 => ?_
          refine S.region rfl ?_
          refine S.op (S.q (q_lt rfl rfl) rfl rfl ?_)
          first | with_reducible refine S.nilK ?_ | refine S.nil ?_
          refine hK16 _ _ ?_
          refine S.seq fun K17 hK17 => ?_
          refine S.condD rfl (fun h4 => ?_) (fun h4 => ?_)
          · obtain ⟨x, hx⟩ := getE (show q < (rowJ m o).length by omega)
            have hxm := ((mem_rowJ hm).1 (List.mem_of_getElem? hx)).1
            have hx1 := hm.id1 x hxm
            have hxN := hm.ns x hxm
            have hofx := ofR_some (look_mem hm.srt hxm)
            obtain ⟨nl, hnl⟩ : ∃ nl, nl = lst x.ns := ⟨_, rfl⟩
            have hnlen := lst_len x.ns
            rw [← hnl] at hnlen
            have hnN : ∀ y ∈ nl, y < m.N := fun y hy => hxN y (mem_lst.1 (hnl ▸ hy))
            have hgo := goU_iff htk2 (x := x) hxN
            rw [← hnl] at hgo
            refine S.ownSome rv (by omega) fun rb rf hra _ _ _ => ?_
            refine S.ownSome dv (by have := htk2.1; omega) fun db df hda _ _ _ => ?_
            have hstep : ((rowJ m o).take (q + 1)).foldl fillStep (tn, out) = fillStep (tn2, out2) x := by rw [List.take_add_one, hx, List.foldl_append, hfo]; rfl
            refine S.skip ?_
            with_reducible repeat (first | refine S.then_n ?_ | refine S.then_x ?_ | refine S.then_r ?_ | refine S.inBlock_n ?_ | refine S.inBlock_r ?_ | refine S.inBlock_x rfl ?_ | refine S.noGoto_r ?_ | refine S.noGoto_n ?_ | refine S.noGoto_x ?_)
            refine hK17 _ _ ?_
            refine S.seq fun K18 hK18 => ?_
            refine S.block ?_
            refine S.seq fun K19 hK19 => ?_
            refine S.region rfl ?_
            refine S.op (S.q (q_indexO (q) Tryd.el31 rfl hra rfl rfl (by omega)) rfl rfl ?_)
            refine S.op (S.q (q_loadOw (rv) (q) Tryd.at68 rfl hra (by first | rfl | exact Nat.add_assoc _ _ _ | omega) (idsV_at hx)) rfl rfl ?_)
            refine S.op (S.q (q_assign rfl) rfl rfl ?_)
            first | with_reducible refine S.nilK ?_ | refine S.nil ?_
            refine hK19 _ _ ?_
            refine S.seq fun K20 hK20 => ?_
            refine S.region rfl ?_
            refine S.op (S.q (q_move rfl) rfl rfl ?_)
            refine S.op (S.q (q_move rfl) rfl rfl ?_)
            refine S.op (S.call Tryd.en46 (vs := [_, _]) ⟨rfl, rfl, trivial⟩ (rOf_S c m x.id) rfl ?_)
            rintro v Θ ⟨nv, rfl, hnv, rfl⟩
            rw [hofx] at hnv ⊢
            simp only at hnv ⊢
            rw [← hnl] at hnv ⊢
            refine S.op (S.q (q_move rfl) rfl rfl ?_)
            refine S.op (S.q (q_extract rfl rfl) rfl rfl ?_)
            refine S.op (S.q (q_extract rfl rfl) rfl rfl ?_)
            refine S.op (S.q (q_extract rfl rfl) rfl rfl ?_)
            refine S.op (S.q (q_assign rfl) rfl rfl ?_)
            refine S.op (S.q (q_assign rfl) rfl rfl ?_)
            refine S.op (S.q (q_assign rfl) rfl rfl ?_)
            first | with_reducible refine S.nilK ?_ | refine S.nil ?_
            refine hK20 _ _ ?_
            refine S.seq fun K21 hK21 => ?_
            refine S.region rfl ?_
            refine S.op (S.q (q_assign rfl) rfl rfl ?_)
            first | with_reducible refine S.nilK ?_ | refine S.nil ?_
            refine hK21 _ _ ?_
            refine S.seq fun K22 hK22 => ?_
            refine S.seq fun K23 hK23 => ?_
            refine S.region rfl ?_
            refine S.op (S.q (q_move rfl) rfl rfl ?_)
            refine S.op (S.q (q_len Tryd.underlying69 rfl) rfl rfl ?_)
            refine S.op (S.q (q_move rfl) rfl rfl ?_)
            first | with_reducible refine S.nilK ?_ | refine S.nil ?_
            refine hK23 _ _ ?_
            refine S.block ?_
            refine S.loop (fun k3 ρ' Γ' => ∃ e : Nat, k3 = nl.length - e ∧ e ≤ nl.length ∧ ρ' = [(0, .pointer (some ⟨c, 0, none⟩)), (1, .int .i64 (r : Int)), (5, s2.v), (6, dv.v), (9, .int .u32 (x.id : Int)), (11, nv.v), (13, .bool (goU d2 nl e)), (46, .int .i64 (cs.n : Int)), (47, .int .i64 (o : Int)), (55, rv.v), (56, .int .i64 rv.n), (57, .int .i64 (q : Int)), (68, nv.v), (69, .int .i64 nv.n), (70, .int .i64 (e : Int))] ∧   Γ' = own nv 3 1 (nds nl) :: own s2 68 1 ov2 :: own rv 68 1 (idsV ((rowJ m o).map (·.id))) :: own dv 68 1 (idsV d2) :: RI c m :: Γ) (m := _) (ρ0 := _) (Γ0 := _) (⟨0, rfl, by omega, rfl, rfl⟩) (by repeat (first | exact trivial | refine ⟨rfl, ?_⟩)) Sub.ent ?_
            rintro k3 ρ' Γ' ⟨e, hk3, he, rfl, rfl⟩
            refine S.seq fun K24 hK24 => ?_
            refine S.region rfl ?_
            refine S.op (S.q (q_lt rfl rfl) rfl rfl ?_)
            first | with_reducible refine S.nilK ?_ | refine S.nil ?_
            refine hK24 _ _ ?_
            refine S.seq fun K25 hK25 => ?_
            refine S.condD rfl (fun h5 => ?_) (fun h5 => ?_)
            · refine S.ownSome nv (by omega) fun nb nf hna _ _ _ => ?_
              obtain ⟨y, hy⟩ := getE (show e < nl.length by omega)
              have hyd : nl.getD e 0 = y := by simp [List.getD, hy]
              have hyN := hnN y (List.mem_of_getElem? hy)
              have hdN := htk2.1
              obtain ⟨u, hu⟩ := getE (show y < d2.length by omega)
              have hud : d2.getD y 0 = u := by simp [List.getD, hu]
              have hst : goU d2 nl (e + 1) = (goU d2 nl e && decide ((u : Int) = 0)) := by rw [goU, hyd, hud, show decide ((u : Int) = 0) = decide (u = 0) from decide_eq_decide.2 (by omega)]
              refine S.skip ?_
              with_reducible repeat (first | refine S.then_n ?_ | refine S.then_x ?_ | refine S.then_r ?_ | refine S.inBlock_n ?_ | refine S.inBlock_r ?_ | refine S.inBlock_x rfl ?_ | refine S.noGoto_r ?_ | refine S.noGoto_n ?_ | refine S.noGoto_x ?_)
              refine hK25 _ _ ?_
              refine S.seq fun K26 hK26 => ?_
              refine S.cut (fun ρ' Γ' => ρ' = [(0, .pointer (some ⟨c, 0, none⟩)), (1, .int .i64 (r : Int)), (5, s2.v), (6, dv.v), (9, .int .u32 (x.id : Int)), (11, nv.v), (13, .bool (goU d2 nl (e + 1))), (46, .int .i64 (cs.n : Int)), (47, .int .i64 (o : Int)), (55, rv.v), (56, .int .i64 rv.n), (57, .int .i64 (q : Int)), (68, nv.v), (69, .int .i64 nv.n), (70, .int .i64 (e : Int))] ∧   Γ' = own nv 3 1 (nds nl) :: own s2 68 1 ov2 :: own rv 68 1 (idsV ((rowJ m o).map (·.id))) :: own dv 68 1 (idsV d2) :: RI c m :: Γ) ?_ ?_
              · refine S.block ?_
                refine S.seq fun K27 hK27 => ?_
                refine S.region rfl ?_
                refine S.op (S.q (q_indexO (e) Tryd.el69 rfl hna rfl rfl (by omega)) rfl rfl ?_)
                refine S.op (S.q (q_loadOw (nv) (e) Tryd.at3 rfl hna (by first | rfl | exact Nat.add_assoc _ _ _ | omega) (by rw [List.getElem?_map, hy]; rfl)) rfl rfl ?_)
                refine S.op (S.q (q_assign rfl) rfl rfl ?_)
                first | with_reducible refine S.nilK ?_ | refine S.nil ?_
                refine hK27 _ _ ?_
                refine S.regionG ?_
                refine S.g_op rfl (S.q (q_move rfl) rfl rfl ?_)
                refine S.g_op rfl (S.q (q_move rfl) rfl rfl ?_)
                rcases Bool.eq_false_or_eq_true ((goU d2 nl e)) with hg17_1 | hg17_1
                · refine S.g_yes rfl rfl rfl (hg17_1) (S.q (q_move rfl) rfl rfl ?_)
                  refine S.g_yes rfl rfl rfl (hg17_1) (S.q (q_move rfl) rfl rfl ?_)
                  refine S.g_yes rfl rfl rfl (hg17_1) (S.q (q_indexO (y) Tryd.el31 rfl hda rfl rfl (by omega)) rfl rfl ?_)
                  refine S.g_yes rfl rfl rfl (hg17_1) (S.q (q_loadOw (dv) (y) Tryd.at68 rfl hda (by first | rfl | exact Nat.add_assoc _ _ _ | omega) (idsV_get hu)) rfl rfl ?_)
                  refine S.g_yes rfl rfl rfl (hg17_1) (S.q (q_eq rfl rfl) rfl rfl ?_)
                  refine S.g_op rfl (S.q (q_pickT rfl (hg17_1) rfl) rfl rfl ?_)
                  refine S.g_op rfl (S.q (q_assign rfl) rfl rfl ?_)
                  first | with_reducible refine S.g_nilK ?_ | refine S.g_nil ?_
                  with_reducible repeat (first | refine S.then_n ?_ | refine S.then_x ?_ | refine S.then_r ?_ | refine S.inBlock_n ?_ | refine S.inBlock_r ?_ | refine S.inBlock_x rfl ?_ | refine S.noGoto_r ?_ | refine S.noGoto_n ?_ | refine S.noGoto_x ?_)
                  with_reducible repeat (first | refine S.then_n ?_ | refine S.then_x ?_ | refine S.then_r ?_ | refine S.inBlock_n ?_ | refine S.inBlock_r ?_ | refine S.inBlock_x rfl ?_ | refine S.noGoto_r ?_ | refine S.noGoto_n ?_ | refine S.noGoto_x ?_)
                  rw [hst]
                  first | (rw [hg17_1, Bool.true_and]; exact S.meet ⟨rfl, rfl⟩ ⟨rfl, rfl, rfl, rfl, rfl, rfl, rfl, rfl, rfl, rfl, rfl, rfl, rfl, rfl, rfl, trivial⟩ Sub.ent) | (rw [hg17_1, Bool.false_and]; exact S.meet ⟨rfl, rfl⟩ ⟨rfl, rfl, rfl, rfl, rfl, rfl, rfl, rfl, rfl, rfl, rfl, rfl, rfl, rfl, rfl, trivial⟩ Sub.ent)
                · refine S.g_no rfl rfl rfl (hg17_1) rfl rfl ?_
                  refine S.g_no rfl rfl rfl (hg17_1) rfl rfl ?_
                  refine S.g_no rfl rfl rfl (hg17_1) rfl rfl ?_
                  refine S.g_no rfl rfl rfl (hg17_1) rfl rfl ?_
                  refine S.g_no rfl rfl rfl (hg17_1) rfl rfl ?_
                  refine S.g_op rfl (S.q (q_pickF rfl (hg17_1) rfl) rfl rfl ?_)
                  refine S.g_op rfl (S.q (q_assign rfl) rfl rfl ?_)
                  first | with_reducible refine S.g_nilK ?_ | refine S.g_nil ?_
                  with_reducible repeat (first | refine S.then_n ?_ | refine S.then_x ?_ | refine S.then_r ?_ | refine S.inBlock_n ?_ | refine S.inBlock_r ?_ | refine S.inBlock_x rfl ?_ | refine S.noGoto_r ?_ | refine S.noGoto_n ?_ | refine S.noGoto_x ?_)
                  with_reducible repeat (first | refine S.then_n ?_ | refine S.then_x ?_ | refine S.then_r ?_ | refine S.inBlock_n ?_ | refine S.inBlock_r ?_ | refine S.inBlock_x rfl ?_ | refine S.noGoto_r ?_ | refine S.noGoto_n ?_ | refine S.noGoto_x ?_)
                  rw [hst]
                  first | (rw [hg17_1, Bool.true_and]; exact S.meet ⟨rfl, rfl⟩ ⟨rfl, rfl, rfl, rfl, rfl, rfl, rfl, rfl, rfl, rfl, rfl, rfl, rfl, rfl, rfl, trivial⟩ Sub.ent) | (rw [hg17_1, Bool.false_and]; exact S.meet ⟨rfl, rfl⟩ ⟨rfl, rfl, rfl, rfl, rfl, rfl, rfl, rfl, rfl, rfl, rfl, rfl, rfl, rfl, rfl, trivial⟩ Sub.ent)
              · rintro ρ' Γ' ⟨rfl, rfl⟩
                refine hK26 _ _ ?_
                refine S.region rfl ?_
                refine S.op (S.q (q_add rfl rfl (inI64 (by omega) (by omega))) rfl rfl ?_)
                refine S.op (S.q (q_move rfl) rfl rfl ?_)
                first | with_reducible refine S.nilK ?_ | refine S.nil ?_
                with_reducible repeat (first | refine S.then_n ?_ | refine S.then_x ?_ | refine S.then_r ?_ | refine S.inBlock_n ?_ | refine S.inBlock_r ?_ | refine S.inBlock_x rfl ?_ | refine S.noGoto_r ?_ | refine S.noGoto_n ?_ | refine S.noGoto_x ?_)
                exact S.next (k3 - 1) (⟨e + 1, by omega, by omega, rfl, rfl⟩) (by omega) (by repeat (first | exact trivial | refine ⟨rfl, ?_⟩)) Sub.ent
            · rw [show e = nl.length by omega]
              refine S.exit ?_
              with_reducible repeat (first | refine S.then_n ?_ | refine S.then_x ?_ | refine S.then_r ?_ | refine S.inBlock_n ?_ | refine S.inBlock_r ?_ | refine S.inBlock_x rfl ?_ | refine S.noGoto_r ?_ | refine S.noGoto_n ?_ | refine S.noGoto_x ?_)
              with_reducible refine S.inBlock_s ?_
              with_reducible repeat (first | refine S.then_n ?_ | refine S.then_x ?_ | refine S.then_r ?_ | refine S.inBlock_n ?_ | refine S.inBlock_r ?_ | refine S.inBlock_x rfl ?_ | refine S.noGoto_r ?_ | refine S.noGoto_n ?_ | refine S.noGoto_x ?_)
              refine hK22 _ _ ?_
              refine S.seq fun K28 hK28 => ?_
              refine S.region rfl ?_
              refine S.op (S.q (q_move rfl) rfl rfl ?_)
              first | with_reducible refine S.nilK ?_ | refine S.nil ?_
              refine hK28 _ _ ?_
              refine S.cond rfl (fun h6 => ?_) (fun h6 => ?_)
              · have hz : x.ns &&& tn2 = 0#16 := hgo.1 h6
                have hfs : fillStep (tn2, out2) x = (tn2 ||| x.ns, out2 ++ [x]) := if_pos hz
                have hov3 : ov2 ++ [.int .u32 (x.id : Int)] = idsV ((out2 ++ [x]).map (·.id)) := by rw [hov2]; simp
                have hlen3 : (out2 ++ [x]).length = out2.length + 1 := by simp
                refine S.seq fun K29 hK29 => ?_
                refine S.seq fun K30 hK30 => ?_
                refine S.region rfl ?_
                refine S.op (S.q (q_move rfl) rfl rfl ?_)
                refine S.op (S.q (q_len Tryd.underlying69 rfl) rfl rfl ?_)
                refine S.op (S.q (q_move rfl) rfl rfl ?_)
                first | with_reducible refine S.nilK ?_ | refine S.nil ?_
                refine hK30 _ _ ?_
                refine S.block ?_
                refine S.loop (fun k4 ρ' Γ' => ∃ (e : Nat) (d3 : List Nat), k4 = nl.length - e ∧ e ≤ nl.length ∧ d3 = setAll d2 (nl.take e) x.id ∧ ρ' = [(0, .pointer (some ⟨c, 0, none⟩)), (1, .int .i64 (r : Int)), (5, s2.v), (6, dv.v), (9, .int .u32 (x.id : Int)), (46, .int .i64 (cs.n : Int)), (47, .int .i64 (o : Int)), (55, rv.v), (56, .int .i64 rv.n), (57, .int .i64 (q : Int)), (84, nv.v), (85, .int .i64 nv.n), (86, .int .i64 (e : Int))] ∧   Γ' = own nv 3 1 (nds nl) :: own s2 68 1 ov2 :: own rv 68 1 (idsV ((rowJ m o).map (·.id))) :: own dv 68 1 (idsV d3) :: RI c m :: Γ) (m := _) (ρ0 := _) (Γ0 := _) (⟨0, d2, rfl, by omega, rfl, rfl, rfl⟩) (by repeat (first | exact trivial | refine ⟨rfl, ?_⟩)) Sub.ent ?_
                rintro k4 ρ' Γ' ⟨e, d3, hk4, he, hd3, rfl, rfl⟩
                have hd3l : d3.length = m.N := by rw [hd3, setAll_len]; exact htk2.1
                refine S.seq fun K31 hK31 => ?_
                refine S.region rfl ?_
                refine S.op (S.q (q_lt rfl rfl) rfl rfl ?_)
                first | with_reducible refine S.nilK ?_ | refine S.nil ?_
                refine hK31 _ _ ?_
                refine S.seq fun K32 hK32 => ?_
                refine S.condD rfl (fun h7 => ?_) (fun h7 => ?_)
                · refine S.ownSome nv (by omega) fun nb nf hna _ _ _ => ?_
                  obtain ⟨y, hy⟩ := getE (show e < nl.length by omega)
                  have hyN := hnN y (List.mem_of_getElem? hy)
                  refine S.ownLen dv fun hdl1 hdl2 hdl3 => ?_
                  have hdl1 : d3.length = dv.n * 1 := by rw [← hdl1, List.length_map]
                  have hd4 : d3.set y x.id = setAll d2 (nl.take (e + 1)) x.id := by rw [hd3, ← setAll_snoc, List.take_add_one, hy]; rfl
                  refine S.skip ?_
                  with_reducible repeat (first | refine S.then_n ?_ | refine S.then_x ?_ | refine S.then_r ?_ | refine S.inBlock_n ?_ | refine S.inBlock_r ?_ | refine S.inBlock_x rfl ?_ | refine S.noGoto_r ?_ | refine S.noGoto_n ?_ | refine S.noGoto_x ?_)
                  refine hK32 _ _ ?_
                  refine S.seq fun K33 hK33 => ?_
                  refine S.block ?_
                  refine S.seq fun K34 hK34 => ?_
                  refine S.region rfl ?_
                  refine S.op (S.q (q_indexO (e) Tryd.el69 rfl hna rfl rfl (by omega)) rfl rfl ?_)
                  refine S.op (S.q (q_loadOw (nv) (e) Tryd.at3 rfl hna (by first | rfl | exact Nat.add_assoc _ _ _ | omega) (by rw [List.getElem?_map, hy]; rfl)) rfl rfl ?_)
                  refine S.op (S.q (q_assign rfl) rfl rfl ?_)
                  first | with_reducible refine S.nilK ?_ | refine S.nil ?_
                  refine hK34 _ _ ?_
                  refine S.region rfl ?_
                  refine S.op (S.q (q_move rfl) rfl rfl ?_)
                  refine S.op (S.q (q_move rfl) rfl rfl ?_)
                  refine S.op (S.q (q_move rfl) rfl rfl ?_)
                  refine S.op (S.q (q_indexO (y) Tryd.el31 rfl hda rfl rfl (by omega)) rfl rfl ?_)
                  refine S.op (S.storeOw (dv) (y) Tryd.at68 rfl rfl rfl hda (by first | rfl | exact Nat.add_assoc _ _ _ | omega) (by rw [List.length_map]; omega) (idsV_set d3 y x.id) ?_)
                  first | with_reducible refine S.nilK ?_ | refine S.nil ?_
                  with_reducible repeat (first | refine S.then_n ?_ | refine S.then_x ?_ | refine S.then_r ?_ | refine S.inBlock_n ?_ | refine S.inBlock_r ?_ | refine S.inBlock_x rfl ?_ | refine S.noGoto_r ?_ | refine S.noGoto_n ?_ | refine S.noGoto_x ?_)
                  refine hK33 _ _ ?_
                  refine S.region rfl ?_
                  refine S.op (S.q (q_add rfl rfl (inI64 (by omega) (by omega))) rfl rfl ?_)
                  refine S.op (S.q (q_move rfl) rfl rfl ?_)
                  first | with_reducible refine S.nilK ?_ | refine S.nil ?_
                  with_reducible repeat (first | refine S.then_n ?_ | refine S.then_x ?_ | refine S.then_r ?_ | refine S.inBlock_n ?_ | refine S.inBlock_r ?_ | refine S.inBlock_x rfl ?_ | refine S.noGoto_r ?_ | refine S.noGoto_n ?_ | refine S.noGoto_x ?_)
                  exact S.next (k4 - 1) (⟨e + 1, d3.set y x.id, by omega, by omega, hd4, rfl, rfl⟩) (by omega) (by repeat (first | exact trivial | refine ⟨rfl, ?_⟩)) Sub.ent
                · have htk3 : Tkn m (tn2 ||| x.ns) d3 := by
                    rw [hd3, show e = nl.length by omega, List.take_length, hnl]
                    exact htk2.add (by omega)
                  refine S.exit ?_
                  with_reducible repeat (first | refine S.then_n ?_ | refine S.then_x ?_ | refine S.then_r ?_ | refine S.inBlock_n ?_ | refine S.inBlock_r ?_ | refine S.inBlock_x rfl ?_ | refine S.noGoto_r ?_ | refine S.noGoto_n ?_ | refine S.noGoto_x ?_)
                  with_reducible refine S.inBlock_s ?_
                  with_reducible repeat (first | refine S.then_n ?_ | refine S.then_x ?_ | refine S.then_r ?_ | refine S.inBlock_n ?_ | refine S.inBlock_r ?_ | refine S.inBlock_x rfl ?_ | refine S.noGoto_r ?_ | refine S.noGoto_n ?_ | refine S.noGoto_x ?_)
                  refine hK29 _ _ ?_
                  refine S.region rfl ?_
                  refine S.op (S.q (q_move rfl) rfl rfl ?_)
                  refine S.op (S.q (q_move rfl) rfl rfl ?_)
                  refine S.op (S.buildSlice (pvs := [(_, _)]) [_] Tryd.underlying31 Tryd.inf68 rfl rfl ⟨⟨rfl, rfl⟩, trivial⟩ rfl rfl ?_)
                  intro b97
                  refine S.op (S.appendOw (s := s2) (1) ([.int .u32 (x.id : Int)]) Tryd.underlying31 Tryd.inf68 rfl rfl rfl (blk_slAt (b := b97) rfl (by unfold maxLen; omega)) (by first | rfl | exact allOne_bcells _) (⟨by omega, by omega⟩) rfl ?_)
                  intro s3 hs3
                  refine S.op (S.q (q_assign rfl) rfl rfl ?_)
                  first | with_reducible refine S.nilK ?_ | refine S.nil ?_
                  with_reducible repeat (first | refine S.then_n ?_ | refine S.then_x ?_ | refine S.then_r ?_ | refine S.inBlock_n ?_ | refine S.inBlock_r ?_ | refine S.inBlock_x rfl ?_ | refine S.noGoto_r ?_ | refine S.noGoto_n ?_ | refine S.noGoto_x ?_)
                  refine hK18 _ _ ?_
                  refine S.region rfl ?_
                  refine S.op (S.q (q_add rfl rfl (inI64 (by omega) (by omega))) rfl rfl ?_)
                  refine S.op (S.q (q_move rfl) rfl rfl ?_)
                  first | with_reducible refine S.nilK ?_ | refine S.nil ?_
                  with_reducible repeat (first | refine S.then_n ?_ | refine S.then_x ?_ | refine S.then_r ?_ | refine S.inBlock_n ?_ | refine S.inBlock_r ?_ | refine S.inBlock_x rfl ?_ | refine S.noGoto_r ?_ | refine S.noGoto_n ?_ | refine S.noGoto_x ?_)
                  first | exact S.next (k2 - 1) ⟨q + 1, tn2 ||| x.ns, d3, out2 ++ [x], s3, ov2 ++ [.int .u32 (x.id : Int)], by omega, by omega, hstep.trans hfs, htk3, by omega, hov3, rfl, rfl⟩ (by omega) (by repeat (first | exact trivial | refine ⟨rfl, ?_⟩)) Sub.ent | exact S.next (k2 - 1) ⟨q + 1, tn2, d2, out2, s2, ov2, by omega, by omega, hstep.trans hfs, htk2, hs2, hov2, rfl, rfl⟩ (by omega) (by repeat (first | exact trivial | refine ⟨rfl, ?_⟩)) Sub.ent
              · have hz : ¬ x.ns &&& tn2 = 0#16 := fun e9 => by rw [hgo.2 e9] at h6; cases h6
                have hfs : fillStep (tn2, out2) x = (tn2, out2) := if_neg hz
                refine S.skip ?_
                with_reducible repeat (first | refine S.then_n ?_ | refine S.then_x ?_ | refine S.then_r ?_ | refine S.inBlock_n ?_ | refine S.inBlock_r ?_ | refine S.inBlock_x rfl ?_ | refine S.noGoto_r ?_ | refine S.noGoto_n ?_ | refine S.noGoto_x ?_)
                with_reducible repeat (first | refine S.then_n ?_ | refine S.then_x ?_ | refine S.then_r ?_ | refine S.inBlock_n ?_ | refine S.inBlock_r ?_ | refine S.inBlock_x rfl ?_ | refine S.noGoto_r ?_ | refine S.noGoto_n ?_ | refine S.noGoto_x ?_)
                refine hK18 _ _ ?_
                refine S.region rfl ?_
                refine S.op (S.q (q_add rfl rfl (inI64 (by omega) (by omega))) rfl rfl ?_)
                refine S.op (S.q (q_move rfl) rfl rfl ?_)
                first | with_reducible refine S.nilK ?_ | refine S.nil ?_
                with_reducible repeat (first | refine S.then_n ?_ | refine S.then_x ?_ | refine S.then_r ?_ | refine S.inBlock_n ?_ | refine S.inBlock_r ?_ | refine S.inBlock_x rfl ?_ | refine S.noGoto_r ?_ | refine S.noGoto_n ?_ | refine S.noGoto_x ?_)
                first | exact S.next (k2 - 1) ⟨q + 1, tn2 ||| x.ns, d3, out2 ++ [x], s3, ov2 ++ [.int .u32 (x.id : Int)], by omega, by omega, hstep.trans hfs, htk3, by omega, hov3, rfl, rfl⟩ (by omega) (by repeat (first | exact trivial | refine ⟨rfl, ?_⟩)) Sub.ent | exact S.next (k2 - 1) ⟨q + 1, tn2, d2, out2, s2, ov2, by omega, by omega, hstep.trans hfs, htk2, hs2, hov2, rfl, rfl⟩ (by omega) (by repeat (first | exact trivial | refine ⟨rfl, ?_⟩)) Sub.ent
          · have hq2 : q = (rowJ m o).length := by omega
            rw [hq2, List.take_length] at hfo
            refine S.exit ?_
            with_reducible repeat (first | refine S.then_n ?_ | refine S.then_x ?_ | refine S.then_r ?_ | refine S.inBlock_n ?_ | refine S.inBlock_r ?_ | refine S.inBlock_x rfl ?_ | refine S.noGoto_r ?_ | refine S.noGoto_n ?_ | refine S.noGoto_x ?_)
            with_reducible refine S.inBlock_s ?_
            with_reducible repeat (first | refine S.then_n ?_ | refine S.then_x ?_ | refine S.then_r ?_ | refine S.inBlock_n ?_ | refine S.inBlock_r ?_ | refine S.inBlock_x rfl ?_ | refine S.noGoto_r ?_ | refine S.noGoto_n ?_ | refine S.noGoto_x ?_)
            with_reducible repeat (first | refine S.then_n ?_ | refine S.then_x ?_ | refine S.then_r ?_ | refine S.inBlock_n ?_ | refine S.inBlock_r ?_ | refine S.inBlock_x rfl ?_ | refine S.noGoto_r ?_ | refine S.noGoto_n ?_ | refine S.noGoto_x ?_)
            refine hK11 _ _ ?_
            refine S.region rfl ?_
            refine S.op (S.q (q_add rfl rfl (inI64 (by omega) (by omega))) rfl rfl ?_)
            refine S.op (S.q (q_move rfl) rfl rfl ?_)
            first | with_reducible refine S.nilK ?_ | refine S.nil ?_
            with_reducible repeat (first | refine S.then_n ?_ | refine S.then_x ?_ | refine S.then_r ?_ | refine S.inBlock_n ?_ | refine S.inBlock_r ?_ | refine S.inBlock_x rfl ?_ | refine S.noGoto_r ?_ | refine S.noGoto_n ?_ | refine S.noGoto_x ?_)
            first | exact S.next (k - 1) ⟨o + 1, tn, d, out, sv, ov, by omega, by omega, hfu2, htk, hsv, hov, rfl, rfl⟩ (by omega) (by repeat (first | exact trivial | refine ⟨rfl, ?_⟩)) Sub.ent | exact S.next (k - 1) ⟨o + 1, tn2, d2, out2, s2, ov2, by omega, by omega, hfu2.trans hfo, htk2, hs2, hov2, rfl, rfl⟩ (by omega) (by repeat (first | exact trivial | refine ⟨rfl, ?_⟩)) Sub.ent
      · have hoR2 : o = m.R := by omega
        have hfin : fillIds m r = out.map (·.id) := by rw [hn, ← hoR2, hfu]
        rw [hov, ← hfin]
        refine S.exit ?_
        with_reducible repeat (first | refine S.then_n ?_ | refine S.then_x ?_ | refine S.then_r ?_ | refine S.inBlock_n ?_ | refine S.inBlock_r ?_ | refine S.inBlock_x rfl ?_ | refine S.noGoto_r ?_ | refine S.noGoto_n ?_ | refine S.noGoto_x ?_)
        with_reducible refine S.inBlock_s ?_
        with_reducible repeat (first | refine S.then_n ?_ | refine S.then_x ?_ | refine S.then_r ?_ | refine S.inBlock_n ?_ | refine S.inBlock_r ?_ | refine S.inBlock_x rfl ?_ | refine S.noGoto_r ?_ | refine S.noGoto_n ?_ | refine S.noGoto_x ?_)
        refine hK7 _ _ ?_
        refine S.seq fun K35 hK35 => ?_
        refine S.region rfl ?_
        refine S.op (S.q (q_move rfl) rfl rfl ?_)
        refine S.op (S.q (q_assign rfl) rfl rfl ?_)
        first | with_reducible refine S.nilK ?_ | refine S.nil ?_
        refine hK35 _ _ ?_
        refine S.ret ?_
        with_reducible repeat (first | refine S.then_n ?_ | refine S.then_x ?_ | refine S.then_r ?_ | refine S.inBlock_n ?_ | refine S.inBlock_r ?_ | refine S.inBlock_x rfl ?_ | refine S.noGoto_r ?_ | refine S.noGoto_n ?_ | refine S.noGoto_x ?_)
        exact S.fin (rs := [_]) (vs := [_]) Tryd.results71 (⟨rfl, trivial⟩)  (⟨sv, rfl, by rw [hfin, List.length_map]; exact hsv, rfl⟩) Sub.ent
theorem putOk_not (m : Mx) (j : Nat) (z : Int) (l : List Int) : putOk m j z l = decide (¬ ((j : Int) = 0 ∨ z < 0 ∨ (m.R : Int) ≤ z ∨ (l.length : Int) = 0)) := by
  rw [Bool.eq_iff_iff, putOk, Bool.and_eq_true, Bool.and_eq_true, decide_eq_true_eq, decide_eq_true_eq, decide_eq_true_eq, rowB_iff]
  omega
theorem rPutBad_S (c : Nat) (m : Mx) (j : Nat) (z : Int) (R : Assn) (s : SV) (l : List Int) (hsn : s.n = l.length) (hR : RdS R s s.n 1 (ints l)) (hbad : (putOk m j z l && okUp m l l.length) = false) : Spec Tryd.prog 31 [.pointer (some ⟨c, 0, none⟩), .int .u32 (j : Int), .int .i64 z, s.v] [RI c m, R] fun Γ v Θ =>
    v = .int .i64 1 ∧ Θ = RI c m :: R :: Γ := by
  refine Spec.riOk fun hm => ?_
  refine Spec.of_body Tryd.func31 rfl Tryd.ntmps31 rfl ?_
  intro w0 Γ
  show S _ w0 [(0, .pointer (some ⟨c, 0, none⟩)), (1, .int .u32 (j : Int)), (2, .int .i64 z), (3, s.v)] (RI c m :: R :: Γ) _
  refine S.rCap hR fun _ hcap1 hcap2 => ?_
  have hN16 := hm.N16
  have hR8 := hm.R8
  refine S.riOpen c m fun cs us rs hri => ?_
  have hcn := hri.cn
  have hun := hri.un
  refine S.seq fun K1 hK1 => ?_
  refine S.region rfl ?_
  refine S.op (S.q (q_assign rfl) rfl rfl ?_)
  first | with_reducible refine S.nilK ?_ | refine S.nil ?_
  refine hK1 _ _ ?_
  refine S.seq fun K2 hK2 => ?_
  refine S.seq fun K3 hK3 => ?_
  refine S.region rfl ?_
  refine S.op (S.q (q_move rfl) rfl rfl ?_)
  refine S.op (S.q (q_eqN Tryd.underlying26 rfl rfl) rfl rfl ?_)
  first | with_reducible refine S.nilK ?_ | refine S.nil ?_
  refine hK3 _ _ ?_
  refine S.condF rfl ?_
  refine S.skip ?_
  with_reducible repeat (first | refine S.then_n ?_ | refine S.then_x ?_ | refine S.then_r ?_ | refine S.inBlock_n ?_ | refine S.inBlock_r ?_ | refine S.inBlock_x rfl ?_ | refine S.noGoto_r ?_ | refine S.noGoto_n ?_ | refine S.noGoto_x ?_)
  refine hK2 _ _ ?_
  refine S.seq fun K4 hK4 => ?_
  refine S.seq fun K5 hK5 => ?_
  refine S.cut (fun ρ' Γ' => ρ' = [(0, .pointer (some ⟨c, 0, none⟩)), (1, .int .u32 (j : Int)), (2, .int .i64 z), (3, s.v), (39, .bool (decide ((j : Int) = 0 ∨ z < 0 ∨ (m.R : Int) ≤ z ∨ (l.length : Int) = 0)))] ∧ Γ' = riX c m cs us rs (R :: Γ)) ?_ ?_
  · refine S.regionG ?_
    refine S.g_op rfl (S.q (q_move rfl) rfl rfl ?_)
    refine S.g_op rfl (S.q (q_eq rfl rfl) rfl rfl ?_)
    refine S.g_op rfl (S.q (q_move rfl) rfl rfl ?_)
    by_cases hg3_2 : (j : Int) = 0
    · refine S.g_no rfl rfl rfl (decide_eq_true hg3_2) rfl rfl ?_
      refine S.g_no rfl rfl rfl (decide_eq_true hg3_2) rfl rfl ?_
      refine S.g_op rfl (S.q (q_pickT rfl (decide_eq_true hg3_2) rfl) rfl rfl ?_)
      refine S.g_op rfl (S.q (q_move rfl) rfl rfl ?_)
      refine S.g_no rfl rfl rfl (rfl) rfl rfl ?_
      refine S.g_no rfl rfl rfl (rfl) rfl rfl ?_
      refine S.g_no rfl rfl rfl (rfl) rfl rfl ?_
      refine S.g_no rfl rfl rfl (rfl) rfl rfl ?_
      refine S.g_no rfl rfl rfl (rfl) rfl rfl ?_
      refine S.g_no rfl rfl rfl (rfl) rfl rfl ?_
      refine S.g_no rfl rfl rfl (rfl) rfl rfl ?_
      refine S.g_op rfl (S.q (q_pickT rfl (rfl) rfl) rfl rfl ?_)
      refine S.g_op rfl (S.q (q_move rfl) rfl rfl ?_)
      refine S.g_no rfl rfl rfl (rfl) rfl rfl ?_
      refine S.g_no rfl rfl rfl (rfl) rfl rfl ?_
      refine S.g_no rfl rfl rfl (rfl) rfl rfl ?_
      refine S.g_op rfl (S.q (q_pickT rfl (rfl) rfl) rfl rfl ?_)
      first | with_reducible refine S.g_nilK ?_ | refine S.g_nil ?_
      with_reducible repeat (first | refine S.then_n ?_ | refine S.then_x ?_ | refine S.then_r ?_ | refine S.inBlock_n ?_ | refine S.inBlock_r ?_ | refine S.inBlock_x rfl ?_ | refine S.noGoto_r ?_ | refine S.noGoto_n ?_ | refine S.noGoto_x ?_)
      first | (rw [show decide ((j : Int) = 0 ∨ z < 0 ∨ (m.R : Int) ≤ z ∨ (l.length : Int) = 0) = true from decide_eq_true (by omega)]; exact S.meet ⟨rfl, rfl⟩ ⟨rfl, rfl, rfl, rfl, rfl, trivial⟩ Sub.ent) | (rw [show decide ((j : Int) = 0 ∨ z < 0 ∨ (m.R : Int) ≤ z ∨ (l.length : Int) = 0) = decide ((s.n : Int) = 0) from decide_eq_decide.2 (by omega)]; exact S.meet ⟨rfl, rfl⟩ ⟨rfl, rfl, rfl, rfl, rfl, trivial⟩ Sub.ent)
    · refine S.g_yes rfl rfl rfl (decide_eq_false hg3_2) (S.q (q_move rfl) rfl rfl ?_)
      refine S.g_yes rfl rfl rfl (decide_eq_false hg3_2) (S.q (q_lt rfl rfl) rfl rfl ?_)
      refine S.g_op rfl (S.q (q_pickF rfl (decide_eq_false hg3_2) rfl) rfl rfl ?_)
      refine S.g_op rfl (S.q (q_move rfl) rfl rfl ?_)
      by_cases hg3_6 : z < 0
      · refine S.g_no rfl rfl rfl (decide_eq_true hg3_6) rfl rfl ?_
        refine S.g_no rfl rfl rfl (decide_eq_true hg3_6) rfl rfl ?_
        refine S.g_no rfl rfl rfl (decide_eq_true hg3_6) rfl rfl ?_
        refine S.g_no rfl rfl rfl (decide_eq_true hg3_6) rfl rfl ?_
        refine S.g_no rfl rfl rfl (decide_eq_true hg3_6) rfl rfl ?_
        refine S.g_no rfl rfl rfl (decide_eq_true hg3_6) rfl rfl ?_
        refine S.g_no rfl rfl rfl (decide_eq_true hg3_6) rfl rfl ?_
        refine S.g_op rfl (S.q (q_pickT rfl (decide_eq_true hg3_6) rfl) rfl rfl ?_)
        refine S.g_op rfl (S.q (q_move rfl) rfl rfl ?_)
        refine S.g_no rfl rfl rfl (rfl) rfl rfl ?_
        refine S.g_no rfl rfl rfl (rfl) rfl rfl ?_
        refine S.g_no rfl rfl rfl (rfl) rfl rfl ?_
        refine S.g_op rfl (S.q (q_pickT rfl (rfl) rfl) rfl rfl ?_)
        first | with_reducible refine S.g_nilK ?_ | refine S.g_nil ?_
        with_reducible repeat (first | refine S.then_n ?_ | refine S.then_x ?_ | refine S.then_r ?_ | refine S.inBlock_n ?_ | refine S.inBlock_r ?_ | refine S.inBlock_x rfl ?_ | refine S.noGoto_r ?_ | refine S.noGoto_n ?_ | refine S.noGoto_x ?_)
        first | (rw [show decide ((j : Int) = 0 ∨ z < 0 ∨ (m.R : Int) ≤ z ∨ (l.length : Int) = 0) = true from decide_eq_true (by omega)]; exact S.meet ⟨rfl, rfl⟩ ⟨rfl, rfl, rfl, rfl, rfl, trivial⟩ Sub.ent) | (rw [show decide ((j : Int) = 0 ∨ z < 0 ∨ (m.R : Int) ≤ z ∨ (l.length : Int) = 0) = decide ((s.n : Int) = 0) from decide_eq_decide.2 (by omega)]; exact S.meet ⟨rfl, rfl⟩ ⟨rfl, rfl, rfl, rfl, rfl, trivial⟩ Sub.ent)
      · refine S.g_yes rfl rfl rfl (decide_eq_false hg3_6) (S.q (q_move rfl) rfl rfl ?_)
        refine S.g_yes rfl rfl rfl (decide_eq_false hg3_6) (S.q (q_move rfl) rfl rfl ?_)
        refine S.g_yes rfl rfl rfl (decide_eq_false hg3_6) (S.q (q_nilCheck rfl) rfl rfl ?_)
        refine S.g_yes rfl rfl rfl (decide_eq_false hg3_6) (S.q (q_field Tryd.fo55_0 rfl) rfl rfl ?_)
        refine S.g_yes rfl rfl rfl (decide_eq_false hg3_6) (S.q (q_load Tryd.at52 rfl rfl) rfl rfl ?_)
        refine S.g_yes rfl rfl rfl (decide_eq_false hg3_6) (S.q (q_len Tryd.underlying52 rfl) rfl rfl ?_)
        refine S.g_yes rfl rfl rfl (decide_eq_false hg3_6) (S.q (q_ge rfl rfl) rfl rfl ?_)
        refine S.g_op rfl (S.q (q_pickF rfl (decide_eq_false hg3_6) rfl) rfl rfl ?_)
        refine S.g_op rfl (S.q (q_move rfl) rfl rfl ?_)
        by_cases hg3_15 : (cs.n : Int) ≤ z
        · refine S.g_no rfl rfl rfl (decide_eq_true hg3_15) rfl rfl ?_
          refine S.g_no rfl rfl rfl (decide_eq_true hg3_15) rfl rfl ?_
          refine S.g_no rfl rfl rfl (decide_eq_true hg3_15) rfl rfl ?_
          refine S.g_op rfl (S.q (q_pickT rfl (decide_eq_true hg3_15) rfl) rfl rfl ?_)
          first | with_reducible refine S.g_nilK ?_ | refine S.g_nil ?_
          with_reducible repeat (first | refine S.then_n ?_ | refine S.then_x ?_ | refine S.then_r ?_ | refine S.inBlock_n ?_ | refine S.inBlock_r ?_ | refine S.inBlock_x rfl ?_ | refine S.noGoto_r ?_ | refine S.noGoto_n ?_ | refine S.noGoto_x ?_)
          first | (rw [show decide ((j : Int) = 0 ∨ z < 0 ∨ (m.R : Int) ≤ z ∨ (l.length : Int) = 0) = true from decide_eq_true (by omega)]; exact S.meet ⟨rfl, rfl⟩ ⟨rfl, rfl, rfl, rfl, rfl, trivial⟩ Sub.ent) | (rw [show decide ((j : Int) = 0 ∨ z < 0 ∨ (m.R : Int) ≤ z ∨ (l.length : Int) = 0) = decide ((s.n : Int) = 0) from decide_eq_decide.2 (by omega)]; exact S.meet ⟨rfl, rfl⟩ ⟨rfl, rfl, rfl, rfl, rfl, trivial⟩ Sub.ent)
        · refine S.g_yes rfl rfl rfl (decide_eq_false hg3_15) (S.q (q_move rfl) rfl rfl ?_)
          refine S.g_yes rfl rfl rfl (decide_eq_false hg3_15) (S.q (q_len Tryd.underlying69 rfl) rfl rfl ?_)
          refine S.g_yes rfl rfl rfl (decide_eq_false hg3_15) (S.q (q_eq rfl rfl) rfl rfl ?_)
          refine S.g_op rfl (S.q (q_pickF rfl (decide_eq_false hg3_15) rfl) rfl rfl ?_)
          first | with_reducible refine S.g_nilK ?_ | refine S.g_nil ?_
          with_reducible repeat (first | refine S.then_n ?_ | refine S.then_x ?_ | refine S.then_r ?_ | refine S.inBlock_n ?_ | refine S.inBlock_r ?_ | refine S.inBlock_x rfl ?_ | refine S.noGoto_r ?_ | refine S.noGoto_n ?_ | refine S.noGoto_x ?_)
          first | (rw [show decide ((j : Int) = 0 ∨ z < 0 ∨ (m.R : Int) ≤ z ∨ (l.length : Int) = 0) = true from decide_eq_true (by omega)]; exact S.meet ⟨rfl, rfl⟩ ⟨rfl, rfl, rfl, rfl, rfl, trivial⟩ Sub.ent) | (rw [show decide ((j : Int) = 0 ∨ z < 0 ∨ (m.R : Int) ≤ z ∨ (l.length : Int) = 0) = decide ((s.n : Int) = 0) from decide_eq_decide.2 (by omega)]; exact S.meet ⟨rfl, rfl⟩ ⟨rfl, rfl, rfl, rfl, rfl, trivial⟩ Sub.ent)
  · rintro ρ' Γ' ⟨rfl, rfl⟩
    refine hK5 _ _ ?_
    refine S.condD rfl (fun h2 => ?_) (fun h2 => ?_)
    · refine S.riClose c m cs us rs hri ?_
      refine S.seq fun K6 hK6 => ?_
      refine S.region rfl ?_
      refine S.op (S.q (q_assign rfl) rfl rfl ?_)
      first | with_reducible refine S.nilK ?_ | refine S.nil ?_
      refine hK6 _ _ ?_
      refine S.ret ?_
      with_reducible repeat (first | refine S.then_n ?_ | refine S.then_x ?_ | refine S.then_r ?_ | refine S.inBlock_n ?_ | refine S.inBlock_r ?_ | refine S.inBlock_x rfl ?_ | refine S.noGoto_r ?_ | refine S.noGoto_n ?_ | refine S.noGoto_x ?_)
      exact S.fin (rs := [_]) (vs := [_]) Tryd.results31 (⟨rfl, trivial⟩)  (⟨rfl, rfl⟩) Sub.ent
    · have hpk : putOk m j z l = true := by rw [putOk_not]; exact decide_eq_true h2
      rw [hpk, Bool.true_and] at hbad
      refine S.skip ?_
      with_reducible repeat (first | refine S.then_n ?_ | refine S.then_x ?_ | refine S.then_r ?_ | refine S.inBlock_n ?_ | refine S.inBlock_r ?_ | refine S.inBlock_x rfl ?_ | refine S.noGoto_r ?_ | refine S.noGoto_n ?_ | refine S.noGoto_x ?_)
      refine hK4 _ _ ?_
      refine S.seq fun K7 hK7 => ?_
      refine S.seq fun K8 hK8 => ?_
      refine S.region rfl ?_
      refine S.op (S.q (q_move rfl) rfl rfl ?_)
      refine S.op (S.q (q_len Tryd.underlying69 rfl) rfl rfl ?_)
      refine S.op (S.q (q_move rfl) rfl rfl ?_)
      first | with_reducible refine S.nilK ?_ | refine S.nil ?_
      refine hK8 _ _ ?_
      refine S.block ?_
      refine S.loop (fun q ρ' Γ' => ∃ i : Nat, q = l.length - i ∧ i ≤ l.length ∧ okUp m l i = true ∧ ρ' = [(0, .pointer (some ⟨c, 0, none⟩)), (1, .int .u32 (j : Int)), (2, .int .i64 z), (3, s.v), (40, s.v), (41, .int .i64 s.n), (42, .int .i64 (i : Int))] ∧ Γ' = riX c m cs us rs (R :: Γ)) (m := _) (ρ0 := _) (Γ0 := _) (⟨0, rfl, by omega, rfl, rfl, rfl⟩) (by repeat (first | exact trivial | refine ⟨rfl, ?_⟩)) Sub.ent ?_
      rintro q ρ' Γ' ⟨i, hq, hi, hoi, rfl, rfl⟩
      refine S.seq fun K9 hK9 => ?_
      refine S.region rfl ?_
      refine S.op (S.q (q_lt rfl rfl) rfl rfl ?_)
      first | with_reducible refine S.nilK ?_ | refine S.nil ?_
      refine hK9 _ _ ?_
      refine S.seq fun K10 hK10 => ?_
      refine S.condD rfl (fun h3 => ?_) (fun h3 => ?_)
      · refine S.rSome hR (by omega) fun sb so hsa => ?_
        obtain ⟨x, hx⟩ := getE (show i < l.length by omega)
        have hxd : l.getD i 0 = x := by simp [List.getD, hx]
        have hst : okUp m l (i + 1) = (nodeB m x && (decide (i = 0) || decide (l.getD (i - 1) 0 < x))) := by rw [okUp, hoi, hxd, Bool.true_and]
        refine S.skip ?_
        with_reducible repeat (first | refine S.then_n ?_ | refine S.then_x ?_ | refine S.then_r ?_ | refine S.inBlock_n ?_ | refine S.inBlock_r ?_ | refine S.inBlock_x rfl ?_ | refine S.noGoto_r ?_ | refine S.noGoto_n ?_ | refine S.noGoto_x ?_)
        refine hK10 _ _ ?_
        refine S.seq fun K11 hK11 => ?_
        refine S.block ?_
        refine S.seq fun K12 hK12 => ?_
        refine S.region rfl ?_
        refine S.op (S.q (q_move rfl) rfl rfl ?_)
        refine S.op (S.q (q_indexO (i) Tryd.el69 rfl hsa rfl rfl (by omega)) rfl rfl ?_)
        refine S.op (S.q (q_loadR hR i Tryd.at3 rfl hsa (by omega) (by omega) (ints_get hx)) rfl rfl ?_)
        refine S.op (S.q (q_assign rfl) rfl rfl ?_)
        refine S.op (S.q (q_assign rfl) rfl rfl ?_)
        first | with_reducible refine S.nilK ?_ | refine S.nil ?_
        refine hK12 _ _ ?_
        refine S.seq fun K13 hK13 => ?_
        refine S.cut (fun ρ' Γ' => ρ' = [(0, .pointer (some ⟨c, 0, none⟩)), (1, .int .u32 (j : Int)), (2, .int .i64 z), (3, s.v), (40, s.v), (41, .int .i64 s.n), (42, .int .i64 (i : Int)), (70, .bool (!okUp m l (i + 1)))] ∧ Γ' = riX c m cs us rs (R :: Γ)) ?_ ?_
        · refine S.regionG ?_
          refine S.g_op rfl (S.q (q_move rfl) rfl rfl ?_)
          refine S.g_op rfl (S.q (q_lt rfl rfl) rfl rfl ?_)
          refine S.g_op rfl (S.q (q_move rfl) rfl rfl ?_)
          by_cases hg8_2 : x < 0
          · refine S.g_no rfl rfl rfl (decide_eq_true hg8_2) rfl rfl ?_
            refine S.g_no rfl rfl rfl (decide_eq_true hg8_2) rfl rfl ?_
            refine S.g_no rfl rfl rfl (decide_eq_true hg8_2) rfl rfl ?_
            refine S.g_no rfl rfl rfl (decide_eq_true hg8_2) rfl rfl ?_
            refine S.g_no rfl rfl rfl (decide_eq_true hg8_2) rfl rfl ?_
            refine S.g_no rfl rfl rfl (decide_eq_true hg8_2) rfl rfl ?_
            refine S.g_no rfl rfl rfl (decide_eq_true hg8_2) rfl rfl ?_
            refine S.g_op rfl (S.q (q_pickT rfl (decide_eq_true hg8_2) rfl) rfl rfl ?_)
            refine S.g_op rfl (S.q (q_move rfl) rfl rfl ?_)
            refine S.g_no rfl rfl rfl (rfl) rfl rfl ?_
            refine S.g_no rfl rfl rfl (rfl) rfl rfl ?_
            refine S.g_no rfl rfl rfl (rfl) rfl rfl ?_
            refine S.g_noU rfl rfl rfl rfl rfl ?_
            refine S.g_noU rfl rfl rfl rfl rfl ?_
            refine S.g_noU rfl rfl rfl rfl rfl ?_
            refine S.g_noU rfl rfl rfl rfl rfl ?_
            refine S.g_noU rfl rfl rfl rfl rfl ?_
            refine S.g_noU rfl rfl rfl rfl rfl ?_
            refine S.g_noU rfl rfl rfl rfl rfl ?_
            refine S.g_no rfl rfl rfl (rfl) rfl rfl ?_
            refine S.g_op rfl (S.q (q_pickT rfl (rfl) rfl) rfl rfl ?_)
            first | with_reducible refine S.g_nilK ?_ | refine S.g_nil ?_
            with_reducible repeat (first | refine S.then_n ?_ | refine S.then_x ?_ | refine S.then_r ?_ | refine S.inBlock_n ?_ | refine S.inBlock_r ?_ | refine S.inBlock_x rfl ?_ | refine S.noGoto_r ?_ | refine S.noGoto_n ?_ | refine S.noGoto_x ?_)
            first | (rw [show (!okUp m l (i + 1)) = true by rw [hst, nodeB, decide_eq_false (show ¬ (0 : Int) ≤ x by omega)]; rfl]; exact S.meet ⟨rfl, rfl⟩ ⟨rfl, rfl, rfl, rfl, rfl, rfl, rfl, rfl, trivial⟩ Sub.ent) | (rw [show (!okUp m l (i + 1)) = true by rw [hst, nodeB, decide_eq_false (show ¬ x < (m.N : Int) by omega), Bool.and_false]; rfl]; exact S.meet ⟨rfl, rfl⟩ ⟨rfl, rfl, rfl, rfl, rfl, rfl, rfl, rfl, trivial⟩ Sub.ent) | (rw [show (!okUp m l (i + 1)) = decide (x ≤ y) by rw [hst, nodeB_iff.2 ⟨by omega, by omega⟩, decide_eq_false (show ¬ i = 0 by omega), hyd, Bool.true_and, Bool.false_or, ← decide_not]; exact decide_eq_decide.2 (by omega)]; exact S.meet ⟨rfl, rfl⟩ ⟨rfl, rfl, rfl, rfl, rfl, rfl, rfl, rfl, trivial⟩ Sub.ent) | (rw [show (!okUp m l (i + 1)) = false by rw [hst, nodeB_iff.2 ⟨by omega, by omega⟩, decide_eq_true (show i = 0 by omega)]; rfl]; exact S.meet ⟨rfl, rfl⟩ ⟨rfl, rfl, rfl, rfl, rfl, rfl, rfl, rfl, trivial⟩ Sub.ent)
          · refine S.g_yes rfl rfl rfl (decide_eq_false hg8_2) (S.q (q_move rfl) rfl rfl ?_)
            refine S.g_yes rfl rfl rfl (decide_eq_false hg8_2) (S.q (q_move rfl) rfl rfl ?_)
            refine S.g_yes rfl rfl rfl (decide_eq_false hg8_2) (S.q (q_nilCheck rfl) rfl rfl ?_)
            refine S.g_yes rfl rfl rfl (decide_eq_false hg8_2) (S.q (q_field Tryd.fo55_1 rfl) rfl rfl ?_)
            refine S.g_yes rfl rfl rfl (decide_eq_false hg8_2) (S.q (q_load Tryd.at53 rfl rfl) rfl rfl ?_)
            refine S.g_yes rfl rfl rfl (decide_eq_false hg8_2) (S.q (q_len Tryd.underlying53 rfl) rfl rfl ?_)
            refine S.g_yes rfl rfl rfl (decide_eq_false hg8_2) (S.q (q_ge rfl rfl) rfl rfl ?_)
            refine S.g_op rfl (S.q (q_pickF rfl (decide_eq_false hg8_2) rfl) rfl rfl ?_)
            refine S.g_op rfl (S.q (q_move rfl) rfl rfl ?_)
            by_cases hg8_11 : (us.n : Int) ≤ x
            · refine S.g_no rfl rfl rfl (decide_eq_true hg8_11) rfl rfl ?_
              refine S.g_no rfl rfl rfl (decide_eq_true hg8_11) rfl rfl ?_
              refine S.g_no rfl rfl rfl (decide_eq_true hg8_11) rfl rfl ?_
              refine S.g_noU rfl rfl rfl rfl rfl ?_
              refine S.g_noU rfl rfl rfl rfl rfl ?_
              refine S.g_noU rfl rfl rfl rfl rfl ?_
              refine S.g_noU rfl rfl rfl rfl rfl ?_
              refine S.g_noU rfl rfl rfl rfl rfl ?_
              refine S.g_noU rfl rfl rfl rfl rfl ?_
              refine S.g_noU rfl rfl rfl rfl rfl ?_
              refine S.g_no rfl rfl rfl (decide_eq_true hg8_11) rfl rfl ?_
              refine S.g_op rfl (S.q (q_pickT rfl (decide_eq_true hg8_11) rfl) rfl rfl ?_)
              first | with_reducible refine S.g_nilK ?_ | refine S.g_nil ?_
              with_reducible repeat (first | refine S.then_n ?_ | refine S.then_x ?_ | refine S.then_r ?_ | refine S.inBlock_n ?_ | refine S.inBlock_r ?_ | refine S.inBlock_x rfl ?_ | refine S.noGoto_r ?_ | refine S.noGoto_n ?_ | refine S.noGoto_x ?_)
              first | (rw [show (!okUp m l (i + 1)) = true by rw [hst, nodeB, decide_eq_false (show ¬ (0 : Int) ≤ x by omega)]; rfl]; exact S.meet ⟨rfl, rfl⟩ ⟨rfl, rfl, rfl, rfl, rfl, rfl, rfl, rfl, trivial⟩ Sub.ent) | (rw [show (!okUp m l (i + 1)) = true by rw [hst, nodeB, decide_eq_false (show ¬ x < (m.N : Int) by omega), Bool.and_false]; rfl]; exact S.meet ⟨rfl, rfl⟩ ⟨rfl, rfl, rfl, rfl, rfl, rfl, rfl, rfl, trivial⟩ Sub.ent) | (rw [show (!okUp m l (i + 1)) = decide (x ≤ y) by rw [hst, nodeB_iff.2 ⟨by omega, by omega⟩, decide_eq_false (show ¬ i = 0 by omega), hyd, Bool.true_and, Bool.false_or, ← decide_not]; exact decide_eq_decide.2 (by omega)]; exact S.meet ⟨rfl, rfl⟩ ⟨rfl, rfl, rfl, rfl, rfl, rfl, rfl, rfl, trivial⟩ Sub.ent) | (rw [show (!okUp m l (i + 1)) = false by rw [hst, nodeB_iff.2 ⟨by omega, by omega⟩, decide_eq_true (show i = 0 by omega)]; rfl]; exact S.meet ⟨rfl, rfl⟩ ⟨rfl, rfl, rfl, rfl, rfl, rfl, rfl, rfl, trivial⟩ Sub.ent)
            · refine S.g_yes rfl rfl rfl (decide_eq_false hg8_11) (S.q (q_move rfl) rfl rfl ?_)
              refine S.g_yes rfl rfl rfl (decide_eq_false hg8_11) (S.q (q_gt rfl rfl) rfl rfl ?_)
              refine S.g_yes rfl rfl rfl (decide_eq_false hg8_11) (S.q (q_move rfl) rfl rfl ?_)
              by_cases hg8_14 : 0 < (i : Int)
              · obtain ⟨y, hy⟩ := getE (show i - 1 < l.length by omega)
                have hyd : l.getD (i - 1) 0 = y := by simp [List.getD, hy]
                refine S.g_yes rfl rfl rfl (decide_eq_true hg8_14) (S.q (q_move rfl) rfl rfl ?_)
                refine S.g_yes rfl rfl rfl (decide_eq_true hg8_14) (S.q (q_move rfl) rfl rfl ?_)
                refine S.g_yes rfl rfl rfl (decide_eq_true hg8_14) (S.q (q_move rfl) rfl rfl ?_)
                refine S.g_yes rfl rfl rfl (decide_eq_true hg8_14) (S.q (q_sub rfl rfl (inI64 (by omega) (by omega))) rfl rfl ?_)
                refine S.g_yes rfl rfl rfl (decide_eq_true hg8_14) (S.q (q_indexO (i - 1) Tryd.el69 rfl hsa rfl (by omega) (by omega)) rfl rfl ?_)
                refine S.g_yes rfl rfl rfl (decide_eq_true hg8_14) (S.q (q_loadR hR (i - 1) Tryd.at3 rfl hsa (by omega) (by omega) (ints_get hy)) rfl rfl ?_)
                refine S.g_yes rfl rfl rfl (decide_eq_true hg8_14) (S.q (q_le rfl rfl) rfl rfl ?_)
                refine S.g_yes rfl rfl rfl (decide_eq_false hg8_11) (S.q (q_pickT rfl (decide_eq_true hg8_14) rfl) rfl rfl ?_)
                refine S.g_op rfl (S.q (q_pickF rfl (decide_eq_false hg8_11) rfl) rfl rfl ?_)
                first | with_reducible refine S.g_nilK ?_ | refine S.g_nil ?_
                with_reducible repeat (first | refine S.then_n ?_ | refine S.then_x ?_ | refine S.then_r ?_ | refine S.inBlock_n ?_ | refine S.inBlock_r ?_ | refine S.inBlock_x rfl ?_ | refine S.noGoto_r ?_ | refine S.noGoto_n ?_ | refine S.noGoto_x ?_)
                first | (rw [show (!okUp m l (i + 1)) = true by rw [hst, nodeB, decide_eq_false (show ¬ (0 : Int) ≤ x by omega)]; rfl]; exact S.meet ⟨rfl, rfl⟩ ⟨rfl, rfl, rfl, rfl, rfl, rfl, rfl, rfl, trivial⟩ Sub.ent) | (rw [show (!okUp m l (i + 1)) = true by rw [hst, nodeB, decide_eq_false (show ¬ x < (m.N : Int) by omega), Bool.and_false]; rfl]; exact S.meet ⟨rfl, rfl⟩ ⟨rfl, rfl, rfl, rfl, rfl, rfl, rfl, rfl, trivial⟩ Sub.ent) | (rw [show (!okUp m l (i + 1)) = decide (x ≤ y) by rw [hst, nodeB_iff.2 ⟨by omega, by omega⟩, decide_eq_false (show ¬ i = 0 by omega), hyd, Bool.true_and, Bool.false_or, ← decide_not]; exact decide_eq_decide.2 (by omega)]; exact S.meet ⟨rfl, rfl⟩ ⟨rfl, rfl, rfl, rfl, rfl, rfl, rfl, rfl, trivial⟩ Sub.ent) | (rw [show (!okUp m l (i + 1)) = false by rw [hst, nodeB_iff.2 ⟨by omega, by omega⟩, decide_eq_true (show i = 0 by omega)]; rfl]; exact S.meet ⟨rfl, rfl⟩ ⟨rfl, rfl, rfl, rfl, rfl, rfl, rfl, rfl, trivial⟩ Sub.ent)
              · refine S.g_no rfl rfl rfl (decide_eq_false hg8_14) rfl rfl ?_
                refine S.g_no rfl rfl rfl (decide_eq_false hg8_14) rfl rfl ?_
                refine S.g_no rfl rfl rfl (decide_eq_false hg8_14) rfl rfl ?_
                refine S.g_no rfl rfl rfl (decide_eq_false hg8_14) rfl rfl ?_
                refine S.g_no rfl rfl rfl (decide_eq_false hg8_14) rfl rfl ?_
                refine S.g_no rfl rfl rfl (decide_eq_false hg8_14) rfl rfl ?_
                refine S.g_no rfl rfl rfl (decide_eq_false hg8_14) rfl rfl ?_
                refine S.g_yes rfl rfl rfl (decide_eq_false hg8_11) (S.q (q_pickF rfl (decide_eq_false hg8_14) rfl) rfl rfl ?_)
                refine S.g_op rfl (S.q (q_pickF rfl (decide_eq_false hg8_11) rfl) rfl rfl ?_)
                first | with_reducible refine S.g_nilK ?_ | refine S.g_nil ?_
                with_reducible repeat (first | refine S.then_n ?_ | refine S.then_x ?_ | refine S.then_r ?_ | refine S.inBlock_n ?_ | refine S.inBlock_r ?_ | refine S.inBlock_x rfl ?_ | refine S.noGoto_r ?_ | refine S.noGoto_n ?_ | refine S.noGoto_x ?_)
                first | (rw [show (!okUp m l (i + 1)) = true by rw [hst, nodeB, decide_eq_false (show ¬ (0 : Int) ≤ x by omega)]; rfl]; exact S.meet ⟨rfl, rfl⟩ ⟨rfl, rfl, rfl, rfl, rfl, rfl, rfl, rfl, trivial⟩ Sub.ent) | (rw [show (!okUp m l (i + 1)) = true by rw [hst, nodeB, decide_eq_false (show ¬ x < (m.N : Int) by omega), Bool.and_false]; rfl]; exact S.meet ⟨rfl, rfl⟩ ⟨rfl, rfl, rfl, rfl, rfl, rfl, rfl, rfl, trivial⟩ Sub.ent) | (rw [show (!okUp m l (i + 1)) = decide (x ≤ y) by rw [hst, nodeB_iff.2 ⟨by omega, by omega⟩, decide_eq_false (show ¬ i = 0 by omega), hyd, Bool.true_and, Bool.false_or, ← decide_not]; exact decide_eq_decide.2 (by omega)]; exact S.meet ⟨rfl, rfl⟩ ⟨rfl, rfl, rfl, rfl, rfl, rfl, rfl, rfl, trivial⟩ Sub.ent) | (rw [show (!okUp m l (i + 1)) = false by rw [hst, nodeB_iff.2 ⟨by omega, by omega⟩, decide_eq_true (show i = 0 by omega)]; rfl]; exact S.meet ⟨rfl, rfl⟩ ⟨rfl, rfl, rfl, rfl, rfl, rfl, rfl, rfl, trivial⟩ Sub.ent)
        · rintro ρ' Γ' ⟨rfl, rfl⟩
          refine hK13 _ _ ?_
          refine S.cond rfl (fun h4 => ?_) (fun h4 => ?_)
          · refine S.riClose c m cs us rs hri ?_
            refine S.seq fun K14 hK14 => ?_
            refine S.region rfl ?_
            refine S.op (S.q (q_assign rfl) rfl rfl ?_)
            first | with_reducible refine S.nilK ?_ | refine S.nil ?_
            refine hK14 _ _ ?_
            refine S.ret ?_
            with_reducible repeat (first | refine S.then_n ?_ | refine S.then_x ?_ | refine S.then_r ?_ | refine S.inBlock_n ?_ | refine S.inBlock_r ?_ | refine S.inBlock_x rfl ?_ | refine S.noGoto_r ?_ | refine S.noGoto_n ?_ | refine S.noGoto_x ?_)
            exact S.fin (rs := [_]) (vs := [_]) Tryd.results31 (⟨rfl, trivial⟩)  (⟨rfl, rfl⟩) Sub.ent
          · have hoi2 : okUp m l (i + 1) = true := by simpa using h4
            refine S.skip ?_
            with_reducible repeat (first | refine S.then_n ?_ | refine S.then_x ?_ | refine S.then_r ?_ | refine S.inBlock_n ?_ | refine S.inBlock_r ?_ | refine S.inBlock_x rfl ?_ | refine S.noGoto_r ?_ | refine S.noGoto_n ?_ | refine S.noGoto_x ?_)
            with_reducible repeat (first | refine S.then_n ?_ | refine S.then_x ?_ | refine S.then_r ?_ | refine S.inBlock_n ?_ | refine S.inBlock_r ?_ | refine S.inBlock_x rfl ?_ | refine S.noGoto_r ?_ | refine S.noGoto_n ?_ | refine S.noGoto_x ?_)
            refine hK11 _ _ ?_
            refine S.region rfl ?_
            refine S.op (S.q (q_add rfl rfl (inI64 (by omega) (by omega))) rfl rfl ?_)
            refine S.op (S.q (q_move rfl) rfl rfl ?_)
            first | with_reducible refine S.nilK ?_ | refine S.nil ?_
            with_reducible repeat (first | refine S.then_n ?_ | refine S.then_x ?_ | refine S.then_r ?_ | refine S.inBlock_n ?_ | refine S.inBlock_r ?_ | refine S.inBlock_x rfl ?_ | refine S.noGoto_r ?_ | refine S.noGoto_n ?_ | refine S.noGoto_x ?_)
            exact S.next (q - 1) (⟨i + 1, by omega, by omega, hoi2, rfl, rfl⟩) (by omega) (by repeat (first | exact trivial | refine ⟨rfl, ?_⟩)) Sub.ent
      · exact absurd (by rw [← show i = l.length by omega]; exact hoi : okUp m l l.length = true) (by rw [hbad]; decide)
/-- Put, whatever is asked. -/
theorem rPutAny_S (c : Nat) (m : Mx) (j : Nat) (z : Int) (R : Assn) (s : SV) (l : List Int) (hsn : s.n = l.length) (hR : RdS R s s.n 1 (ints l)) (hj : j ≤ 4294967295) : Spec Tryd.prog 31 [.pointer (some ⟨c, 0, none⟩), .int .u32 (j : Int), .int .i64 z, s.v] [RI c m, R] fun Γ v Θ =>
    v = .int .i64 (putR m j z l).1 ∧ Θ = RI c (putR m j z l).2 :: R :: Γ := by
  cases hb : (putOk m j z l && okUp m l l.length) with
  | false =>
    rw [show putR m j z l = (1, m) from if_pos hb]
    exact rPutBad_S c m j z R s l hsn hR hb
  | true =>
    rw [Bool.and_eq_true, putOk_not, decide_eq_true_eq] at hb
    obtain ⟨r, rfl⟩ : ∃ r : Nat, z = r := ⟨z.toNat, by omega⟩
    exact rPut_S c m j r R s l hsn hR hj (by omega) (by omega) hb.2
end Go.Proofs.YtegjmmocnffpiaaDoor
/- slices.Sort at whole numbers of 32 bits: the inner functions, each as the plain one. -/
namespace Go.Proofs.YtegjmmocnffpiaaDoor
open Go.RowKit
open Go.Sort
set_option maxRecDepth 20000
abbrev uA (d : Array Int) : List Value := d.toList.map (Value.int .u32)
theorem uA_len (d : Array Int) : (uA d).length = d.size := by simp
theorem uA_get {d : Array Int} {i : Nat} (h : i < d.size) : (uA d)[i]? = some (.int .u32 d[i]!) := by simp [h]
theorem uA_set (d : Array Int) (i : Nat) (x : Int) : (uA d).set i (.int .u32 x) = uA (d.setIfInBounds i x) := by simp [uA, List.map_set]
theorem swpZ (d : Array Int) (i j : Nat) : (swp d i j).size = d.size := by simp [swp]
theorem isNaNU_S (x : Int) : Spec Tryd.prog 95 [.int .u32 x] [] fun Γ v Θ => v = .bool false ∧ Θ = Γ := by
  refine Spec.of_body Tryd.func95 rfl Tryd.ntmps95 rfl ?_
  intro w0 Γ
  show S _ w0 [(0, .int .u32 x)] Γ _
  refine S.seq fun K1 hK1 => ?_
  refine S.region rfl ?_
  refine S.op (S.q (q_assign rfl) rfl rfl ?_)
  first | with_reducible refine S.nilK ?_ | refine S.nil ?_
  refine hK1 _ _ ?_
  refine S.seq fun K2 hK2 => ?_
  refine S.region rfl ?_
  refine S.op (S.q (q_move rfl) rfl rfl ?_)
  refine S.op (S.q (q_move rfl) rfl rfl ?_)
  refine S.op (S.q (q_ne rfl rfl) rfl rfl ?_)
  refine S.op (S.q (q_assign rfl) rfl rfl ?_)
  first | with_reducible refine S.nilK ?_ | refine S.nil ?_
  refine hK2 _ _ ?_
  refine S.ret ?_
  with_reducible repeat (first | refine S.then_n ?_ | refine S.then_x ?_ | refine S.then_r ?_ | refine S.inBlock_n ?_ | refine S.inBlock_r ?_ | refine S.inBlock_x rfl ?_ | refine S.noGoto_r ?_ | refine S.noGoto_n ?_ | refine S.noGoto_x ?_)
  exact S.fin (rs := [_]) (vs := [_]) Tryd.results95 (⟨rfl, trivial⟩)  (⟨by simp only [resV]; rw [decide_eq_false (fun h => h rfl)], rfl⟩) Sub.ent
theorem Less_S (x y : Int) : Spec Tryd.prog 127 [.int .u32 x, .int .u32 y] [] fun Γ v Θ => v = .bool (ltInt x y) ∧ Θ = Γ := by
  refine Spec.of_body Tryd.func127 rfl Tryd.ntmps127 rfl ?_
  intro w0 Γ
  show S _ w0 [(0, .int .u32 x), (1, .int .u32 y)] Γ _
  refine S.seq fun K1 hK1 => ?_
  refine S.region rfl ?_
  refine S.op (S.q (q_assign rfl) rfl rfl ?_)
  first | with_reducible refine S.nilK ?_ | refine S.nil ?_
  refine hK1 _ _ ?_
  refine S.seq fun K2 hK2 => ?_
  refine S.regionG ?_
  refine S.g_op rfl (S.q (q_move rfl) rfl rfl ?_)
  refine S.g_op rfl (S.call Tryd.en95 (vs := [_]) ⟨rfl, trivial⟩ (isNaNU_S x) rfl ?_)
  rintro v Θ ⟨rfl, rfl⟩
  refine S.g_op rfl (S.q (q_move rfl) rfl rfl ?_)
  refine S.g_no rfl rfl rfl (rfl) rfl rfl ?_
  refine S.g_no rfl rfl rfl (rfl) rfl rfl ?_
  refine S.g_no rfl rfl rfl (rfl) rfl rfl ?_
  refine S.g_op rfl (S.q (q_pickF rfl (rfl) rfl) rfl rfl ?_)
  refine S.g_op rfl (S.q (q_move rfl) rfl rfl ?_)
  refine S.g_yes rfl rfl rfl (rfl) (S.q (q_move rfl) rfl rfl ?_)
  refine S.g_yes rfl rfl rfl (rfl) (S.q (q_move rfl) rfl rfl ?_)
  refine S.g_yes rfl rfl rfl (rfl) (S.q (q_lt rfl rfl) rfl rfl ?_)
  refine S.g_op rfl (S.q (q_pickF rfl (rfl) rfl) rfl rfl ?_)
  refine S.g_op rfl (S.q (q_assign rfl) rfl rfl ?_)
  first | with_reducible refine S.g_nilK ?_ | refine S.g_nil ?_
  refine hK2 _ _ ?_
  refine S.ret ?_
  with_reducible repeat (first | refine S.then_n ?_ | refine S.then_x ?_ | refine S.then_r ?_ | refine S.inBlock_n ?_ | refine S.inBlock_r ?_ | refine S.inBlock_x rfl ?_ | refine S.noGoto_r ?_ | refine S.noGoto_n ?_ | refine S.noGoto_x ?_)
  exact S.fin (rs := [_]) (vs := [_]) Tryd.results127 (⟨rfl, trivial⟩)  (⟨rfl, rfl⟩) Sub.ent
theorem insInner_stop {a j : Nat} {d : Array Int} (h : ¬ (a < j ∧ ltInt d[j]! d[j - 1]! = true)) : insInner ltInt a j d = d := by
  cases j with
  | zero => rfl
  | succ j =>
    rw [insInner, if_neg]
    simp only [Nat.add_sub_cancel] at h
    simp only [Bool.and_eq_true, decide_eq_true_eq]
    exact h
theorem insInner_step {a j : Nat} {d : Array Int} (h : a < j) (h2 : ltInt d[j]! d[j - 1]! = true) : insInner ltInt a j d = insInner ltInt a (j - 1) (swp d j (j - 1)) := by
  cases j with
  | zero => omega
  | succ j =>
    simp only [Nat.add_sub_cancel] at h2 ⊢
    rw [insInner, if_pos]
    simp only [Bool.and_eq_true, decide_eq_true_eq]
    exact ⟨h, h2⟩
theorem insSort_S (s : SV) (d : Array Int) (a b : Nat) (hab : a ≤ b) (hb : b ≤ d.size) (hsz : d.size ≤ 65535) (hsn : s.n = d.size) : Spec Tryd.prog 121 [s.v, .int .i64 (a : Int), .int .i64 (b : Int)] [own s 68 1 (uA d)] fun Γ _ Θ => Θ = own s 68 1 (uA (insertionSort ltInt d a b)) :: Γ := by
  refine Spec.of_body Tryd.func121 rfl Tryd.ntmps121 rfl ?_
  intro w0 Γ
  show S _ w0 [(0, s.v), (1, .int .i64 (a : Int)), (2, .int .i64 (b : Int))] (own s 68 1 (uA d) :: Γ) _
  refine S.seq fun K1 hK1 => ?_
  refine S.region rfl ?_
  refine S.op (S.q (q_move rfl) rfl rfl ?_)
  refine S.op (S.q (q_add rfl rfl (inI64 (by omega) (by omega))) rfl rfl ?_)
  refine S.op (S.q (q_assign rfl) rfl rfl ?_)
  first | with_reducible refine S.nilK ?_ | refine S.nil ?_
  refine hK1 _ _ ?_
  refine S.block ?_
  refine S.loop (fun q ρ' Γ' => ∃ (i : Nat) (e : Array Int), q = b - i ∧ a + 1 ≤ i ∧ i ≤ 65536 ∧ e.size = d.size ∧ insOuter ltInt a b i e = insertionSort ltInt d a b ∧ ρ' = [(0, s.v), (1, .int .i64 (a : Int)), (2, .int .i64 (b : Int)), (6, .int .i64 (i : Int))] ∧ Γ' = own s 68 1 (uA e) :: Γ) (m := _) (ρ0 := _) (Γ0 := _) (⟨a + 1, d, rfl, by omega, by omega, rfl, rfl, rfl, rfl⟩) (by repeat (first | exact trivial | refine ⟨rfl, ?_⟩)) Sub.ent ?_
  rintro q ρ' Γ' ⟨i, e, hq, hai, hi9, hes, hio, rfl, rfl⟩
  refine S.seq fun K2 hK2 => ?_
  refine S.seq fun K3 hK3 => ?_
  refine S.region rfl ?_
  refine S.op (S.q (q_move rfl) rfl rfl ?_)
  refine S.op (S.q (q_move rfl) rfl rfl ?_)
  refine S.op (S.q (q_lt rfl rfl) rfl rfl ?_)
  first | with_reducible refine S.nilK ?_ | refine S.nil ?_
  refine hK3 _ _ ?_
  refine S.condD rfl (fun h1 => ?_) (fun h1 => ?_)
  · refine S.ownSome s (by omega) fun sb so hsa _ _ _ => ?_
    refine S.skip ?_
    with_reducible repeat (first | refine S.then_n ?_ | refine S.then_x ?_ | refine S.then_r ?_ | refine S.inBlock_n ?_ | refine S.inBlock_r ?_ | refine S.inBlock_x rfl ?_ | refine S.noGoto_r ?_ | refine S.noGoto_n ?_ | refine S.noGoto_x ?_)
    refine hK2 _ _ ?_
    refine S.seq fun K4 hK4 => ?_
    refine S.cut (fun ρ' Γ' => ∃ e2 : Array Int, e2.size = d.size ∧ e2 = insInner ltInt a i e ∧ ρ' = [(0, s.v), (1, .int .i64 (a : Int)), (2, .int .i64 (b : Int)), (6, .int .i64 (i : Int))] ∧ Γ' = own s 68 1 (uA e2) :: Γ) ?_ ?_
    · refine S.block ?_
      refine S.seq fun K5 hK5 => ?_
      refine S.region rfl ?_
      refine S.op (S.q (q_move rfl) rfl rfl ?_)
      refine S.op (S.q (q_assign rfl) rfl rfl ?_)
      first | with_reducible refine S.nilK ?_ | refine S.nil ?_
      refine hK5 _ _ ?_
      refine S.block ?_
      refine S.loop (fun q2 ρ' Γ' => ∃ (j : Nat) (z : Int) (e2 : Array Int), q2 = j ∧ z = j ∧ j ≤ i ∧ e2.size = d.size ∧ insInner ltInt a j e2 = insInner ltInt a i e ∧ ρ' = [(0, s.v), (1, .int .i64 (a : Int)), (2, .int .i64 (b : Int)), (6, .int .i64 (i : Int)), (7, .int .i64 z)] ∧ Γ' = own s 68 1 (uA e2) :: Γ) (m := _) (ρ0 := _) (Γ0 := _) (⟨i, i, e, rfl, rfl, Nat.le_refl _, hes, rfl, rfl, rfl⟩) (by repeat (first | exact trivial | refine ⟨rfl, ?_⟩)) Sub.ent ?_
      rintro q2 ρ' Γ' ⟨j, z, e2, hq2, hz, hji, he2, hin, rfl, rfl⟩
      refine S.seq fun K6 hK6 => ?_
      refine S.seq fun K7 hK7 => ?_
      refine S.draw ([own s 68 1 (uA e2)]) [] Tryd.mixed ?_
      refine S.dr_take 0 [] rfl (by kernel_rfl) rfl rfl rfl (q_move rfl) Sub.ent ?_
      refine S.dr_take 1 [] rfl (by kernel_rfl) rfl rfl rfl (q_move rfl) Sub.ent ?_
      refine S.dr_take 2 [] rfl (by kernel_rfl) rfl rfl rfl (q_gt rfl rfl) Sub.ent ?_
      refine S.dr_take 3 [] rfl (by kernel_rfl) rfl rfl rfl (q_move rfl) Sub.ent ?_
      by_cases hg4_3 : (a : Int) < z
      · refine S.dr_takeY 4 [] rfl (by kernel_rfl) rfl rfl rfl (decide_eq_true hg4_3) rfl rfl (q_move rfl) Sub.ent ?_
        refine S.dr_takeY 5 [] rfl (by kernel_rfl) rfl rfl rfl (decide_eq_true hg4_3) rfl rfl (q_move rfl) Sub.ent ?_
        refine S.dr_takeY 6 [] rfl (by kernel_rfl) rfl rfl rfl (decide_eq_true hg4_3) rfl rfl (q_indexO (j) Tryd.el31 rfl hsa rfl hz (by omega)) Sub.ent ?_
        refine S.dr_takeY 7 [] rfl (by kernel_rfl) rfl rfl rfl (decide_eq_true hg4_3) rfl rfl (q_loadOw (s) (j) Tryd.at68 rfl hsa (by first | rfl | exact Nat.add_assoc _ _ _ | omega) (uA_get (by omega))) Sub.ent ?_
        refine S.dr_takeY 8 [] rfl (by kernel_rfl) rfl rfl rfl (decide_eq_true hg4_3) rfl rfl (q_move rfl) Sub.ent ?_
        refine S.dr_takeY 9 [] rfl (by kernel_rfl) rfl rfl rfl (decide_eq_true hg4_3) rfl rfl (q_move rfl) Sub.ent ?_
        refine S.dr_takeY 10 [] rfl (by kernel_rfl) rfl rfl rfl (decide_eq_true hg4_3) rfl rfl (q_sub rfl rfl (inI64 (by omega) (by omega))) Sub.ent ?_
        refine S.dr_takeY 11 [] rfl (by kernel_rfl) rfl rfl rfl (decide_eq_true hg4_3) rfl rfl (q_indexO (j - 1) Tryd.el31 rfl hsa rfl (by omega) (by omega)) Sub.ent ?_
        refine S.dr_takeY 12 [] rfl (by kernel_rfl) rfl rfl rfl (decide_eq_true hg4_3) rfl rfl (q_loadOw (s) (j - 1) Tryd.at68 rfl hsa (by first | rfl | exact Nat.add_assoc _ _ _ | omega) (uA_get (by omega))) Sub.ent ?_
        refine S.dr_1Y (i := 13) (by kernel_rfl) rfl rfl rfl rfl (decide_eq_true hg4_3) ?_
        refine  (S.call Tryd.en127 (vs := [_, _]) ⟨rfl, rfl, trivial⟩ (Less_S (e2[j]!) (e2[j - 1]!)) rfl ?_)
        rintro v Θ ⟨rfl, rfl⟩
        refine S.dr_k rfl Sub.ent ?_
        refine S.dr_take 14 [] rfl (by kernel_rfl) rfl rfl rfl (q_pickT rfl (decide_eq_true hg4_3) rfl) Sub.ent ?_
        first | with_reducible refine S.dr_doneK (by kernel_rfl) ?_ | refine S.dr_done (by kernel_rfl) ?_
        refine hK7 _ _ ?_
        refine S.cond rfl (fun h2 => ?_) (fun h2 => ?_)
        · have hst := insInner_step (a := a) (j := j) (d := e2) (by omega) h2
          rw [hin] at hst
          refine S.skip ?_
          with_reducible repeat (first | refine S.then_n ?_ | refine S.then_x ?_ | refine S.then_r ?_ | refine S.inBlock_n ?_ | refine S.inBlock_r ?_ | refine S.inBlock_x rfl ?_ | refine S.noGoto_r ?_ | refine S.noGoto_n ?_ | refine S.noGoto_x ?_)
          refine hK6 _ _ ?_
          refine S.seq fun K8 hK8 => ?_
          refine S.block ?_
          refine S.draw ([own s 68 1 (uA e2)]) [15] Tryd.mixed ?_
          refine S.dr_take 0 [14, 15, 16, 17] rfl (by kernel_rfl) rfl rfl rfl (q_move rfl) Sub.ent ?_
          refine S.dr_take 1 [14, 15, 16, 17] rfl (by kernel_rfl) rfl rfl rfl (q_move rfl) Sub.ent ?_
          refine S.dr_takeP 2 rfl (by kernel_rfl) rfl rfl rfl (q_move rfl) Sub.ent ?_
          refine S.dr_takeP 3 rfl (by kernel_rfl) rfl rfl rfl (q_move rfl) Sub.ent ?_
          refine S.dr_takeP 4 rfl (by kernel_rfl) rfl rfl rfl (q_sub rfl rfl (inI64 (by omega) (by omega))) Sub.ent ?_
          refine S.dr_take 5 [8, 9, 14, 15, 16, 17] rfl (by kernel_rfl) rfl rfl rfl (q_move rfl) Sub.ent ?_
          refine S.dr_take 6 [7, 8, 9, 14, 15, 16, 17] rfl (by kernel_rfl) rfl rfl rfl (q_move rfl) Sub.ent ?_
          refine S.dr_take 7 [8, 9, 14, 15, 16, 17] rfl (by kernel_rfl) rfl rfl rfl (q_sub rfl rfl (inI64 (by omega) (by omega))) Sub.ent ?_
          refine S.dr_take 8 [9, 14, 15, 16, 17] rfl (by kernel_rfl) rfl rfl rfl (q_indexO (j - 1) Tryd.el31 rfl hsa rfl (by omega) (by omega)) Sub.ent ?_
          refine S.dr_take 9 [14, 15, 16, 17] rfl (by kernel_rfl) rfl rfl rfl (q_loadOw (s) (j - 1) Tryd.at68 rfl hsa (by first | rfl | exact Nat.add_assoc _ _ _ | omega) (uA_get (by omega))) Sub.ent ?_
          refine S.dr_take 10 [12, 13, 14, 15, 16, 17] rfl (by kernel_rfl) rfl rfl rfl (q_move rfl) Sub.ent ?_
          refine S.dr_take 11 [12, 13, 14, 15, 16, 17] rfl (by kernel_rfl) rfl rfl rfl (q_move rfl) Sub.ent ?_
          refine S.dr_take 12 [13, 14, 15, 16, 17] rfl (by kernel_rfl) rfl rfl rfl (q_indexO (j) Tryd.el31 rfl hsa rfl hz (by omega)) Sub.ent ?_
          refine S.dr_take 13 [14, 15, 16, 17] rfl (by kernel_rfl) rfl rfl rfl (q_loadOw (s) (j) Tryd.at68 rfl hsa (by first | rfl | exact Nat.add_assoc _ _ _ | omega) (uA_get (by omega))) Sub.ent ?_
          refine S.dr_take 14 [15, 16, 17] rfl (by kernel_rfl) rfl rfl rfl (q_indexO (j) Tryd.el31 rfl hsa rfl hz (by omega)) Sub.ent ?_
          refine S.dr_1 (i := 15) (by kernel_rfl) rfl rfl ?_
          refine  (S.storeOw (s) (j) Tryd.at68 rfl rfl rfl hsa (by first | rfl | exact Nat.add_assoc _ _ _ | omega) (by rw [uA_len]; omega) (uA_set _ _ _) ?_)
          refine S.dr_late ([]) [] rfl ?_
          refine S.dr_take 16 [] rfl (by kernel_rfl) rfl rfl rfl (q_indexO (j - 1) Tryd.el31 rfl hsa rfl (by omega) (by omega)) Sub.ent ?_
          refine S.dr_1 (i := 17) (by kernel_rfl) rfl rfl ?_
          refine  (S.storeOw (s) (j - 1) Tryd.at68 rfl rfl rfl hsa (by first | rfl | exact Nat.add_assoc _ _ _ | omega) (by rw [uA_len, Array.size_setIfInBounds]; omega) (show _ = uA (Go.Sort.swp e2 (j) (j - 1)) from uA_set _ _ _) ?_)
          refine S.dr_k rfl Sub.ent ?_
          first | with_reducible refine S.dr_doneK (by kernel_rfl) ?_ | refine S.dr_done (by kernel_rfl) ?_
          with_reducible repeat (first | refine S.then_n ?_ | refine S.then_x ?_ | refine S.then_r ?_ | refine S.inBlock_n ?_ | refine S.inBlock_r ?_ | refine S.inBlock_x rfl ?_ | refine S.noGoto_r ?_ | refine S.noGoto_n ?_ | refine S.noGoto_x ?_)
          refine hK8 _ _ ?_
          refine S.region rfl ?_
          refine S.op (S.q (q_move rfl) rfl rfl ?_)
          refine S.op (S.q (q_sub rfl rfl (inI64 (by omega) (by omega))) rfl rfl ?_)
          refine S.op (S.q (q_assign rfl) rfl rfl ?_)
          first | with_reducible refine S.nilK ?_ | refine S.nil ?_
          with_reducible repeat (first | refine S.then_n ?_ | refine S.then_x ?_ | refine S.then_r ?_ | refine S.inBlock_n ?_ | refine S.inBlock_r ?_ | refine S.inBlock_x rfl ?_ | refine S.noGoto_r ?_ | refine S.noGoto_n ?_ | refine S.noGoto_x ?_)
          exact S.next (j - 1) (⟨j - 1, z - 1, swp e2 j (j - 1), rfl, by omega, by omega, by rw [swpZ, he2], hst.symm, rfl, rfl⟩) (by omega) (by repeat (first | exact trivial | refine ⟨rfl, ?_⟩)) Sub.ent
        · have hst : insInner ltInt a j e2 = e2 := insInner_stop (fun h => by rw [h.2] at h2; cases h2)
          refine S.exit ?_
          with_reducible repeat (first | refine S.then_n ?_ | refine S.then_x ?_ | refine S.then_r ?_ | refine S.inBlock_n ?_ | refine S.inBlock_r ?_ | refine S.inBlock_x rfl ?_ | refine S.noGoto_r ?_ | refine S.noGoto_n ?_ | refine S.noGoto_x ?_)
          with_reducible refine S.inBlock_s ?_
          with_reducible repeat (first | refine S.then_n ?_ | refine S.then_x ?_ | refine S.then_r ?_ | refine S.inBlock_n ?_ | refine S.inBlock_r ?_ | refine S.inBlock_x rfl ?_ | refine S.noGoto_r ?_ | refine S.noGoto_n ?_ | refine S.noGoto_x ?_)
          with_reducible repeat (first | refine S.then_n ?_ | refine S.then_x ?_ | refine S.then_r ?_ | refine S.inBlock_n ?_ | refine S.inBlock_r ?_ | refine S.inBlock_x rfl ?_ | refine S.noGoto_r ?_ | refine S.noGoto_n ?_ | refine S.noGoto_x ?_)
          with_reducible repeat (first | refine S.then_n ?_ | refine S.then_x ?_ | refine S.then_r ?_ | refine S.inBlock_n ?_ | refine S.inBlock_r ?_ | refine S.inBlock_x rfl ?_ | refine S.noGoto_r ?_ | refine S.noGoto_n ?_ | refine S.noGoto_x ?_)
          exact S.meet ⟨e2, he2, hst.symm.trans hin, rfl, rfl⟩ ⟨rfl, rfl, rfl, rfl, trivial⟩ Sub.ent
      · have hst : insInner ltInt a j e2 = e2 := insInner_stop (fun h => hg4_3 (by omega))
        refine S.dr_takeN 4 [] rfl (by kernel_rfl) rfl rfl rfl (decide_eq_false hg4_3) rfl rfl Sub.ent ?_
        refine S.dr_takeN 5 [] rfl (by kernel_rfl) rfl rfl rfl (decide_eq_false hg4_3) rfl rfl Sub.ent ?_
        refine S.dr_takeN 6 [] rfl (by kernel_rfl) rfl rfl rfl (decide_eq_false hg4_3) rfl rfl Sub.ent ?_
        refine S.dr_takeN 7 [] rfl (by kernel_rfl) rfl rfl rfl (decide_eq_false hg4_3) rfl rfl Sub.ent ?_
        refine S.dr_takeN 8 [] rfl (by kernel_rfl) rfl rfl rfl (decide_eq_false hg4_3) rfl rfl Sub.ent ?_
        refine S.dr_takeN 9 [] rfl (by kernel_rfl) rfl rfl rfl (decide_eq_false hg4_3) rfl rfl Sub.ent ?_
        refine S.dr_takeN 10 [] rfl (by kernel_rfl) rfl rfl rfl (decide_eq_false hg4_3) rfl rfl Sub.ent ?_
        refine S.dr_takeN 11 [] rfl (by kernel_rfl) rfl rfl rfl (decide_eq_false hg4_3) rfl rfl Sub.ent ?_
        refine S.dr_takeN 12 [] rfl (by kernel_rfl) rfl rfl rfl (decide_eq_false hg4_3) rfl rfl Sub.ent ?_
        refine S.dr_takeN 13 [] rfl (by kernel_rfl) rfl rfl rfl (decide_eq_false hg4_3) rfl rfl Sub.ent ?_
        refine S.dr_take 14 [] rfl (by kernel_rfl) rfl rfl rfl (q_pickF rfl (decide_eq_false hg4_3) rfl) Sub.ent ?_
        first | with_reducible refine S.dr_doneK (by kernel_rfl) ?_ | refine S.dr_done (by kernel_rfl) ?_
        refine hK7 _ _ ?_
        refine S.condF rfl ?_
        refine S.exit ?_
        with_reducible repeat (first | refine S.then_n ?_ | refine S.then_x ?_ | refine S.then_r ?_ | refine S.inBlock_n ?_ | refine S.inBlock_r ?_ | refine S.inBlock_x rfl ?_ | refine S.noGoto_r ?_ | refine S.noGoto_n ?_ | refine S.noGoto_x ?_)
        with_reducible refine S.inBlock_s ?_
        with_reducible repeat (first | refine S.then_n ?_ | refine S.then_x ?_ | refine S.then_r ?_ | refine S.inBlock_n ?_ | refine S.inBlock_r ?_ | refine S.inBlock_x rfl ?_ | refine S.noGoto_r ?_ | refine S.noGoto_n ?_ | refine S.noGoto_x ?_)
        with_reducible repeat (first | refine S.then_n ?_ | refine S.then_x ?_ | refine S.then_r ?_ | refine S.inBlock_n ?_ | refine S.inBlock_r ?_ | refine S.inBlock_x rfl ?_ | refine S.noGoto_r ?_ | refine S.noGoto_n ?_ | refine S.noGoto_x ?_)
        with_reducible repeat (first | refine S.then_n ?_ | refine S.then_x ?_ | refine S.then_r ?_ | refine S.inBlock_n ?_ | refine S.inBlock_r ?_ | refine S.inBlock_x rfl ?_ | refine S.noGoto_r ?_ | refine S.noGoto_n ?_ | refine S.noGoto_x ?_)
        exact S.meet ⟨e2, he2, hst.symm.trans hin, rfl, rfl⟩ ⟨rfl, rfl, rfl, rfl, trivial⟩ Sub.ent
    · rintro ρ' Γ' ⟨e2, he2, hin, rfl, rfl⟩
      refine hK4 _ _ ?_
      refine S.region rfl ?_
      refine S.op (S.q (q_move rfl) rfl rfl ?_)
      refine S.op (S.q (q_add rfl rfl (inI64 (by omega) (by omega))) rfl rfl ?_)
      refine S.op (S.q (q_assign rfl) rfl rfl ?_)
      first | with_reducible refine S.nilK ?_ | refine S.nil ?_
      with_reducible repeat (first | refine S.then_n ?_ | refine S.then_x ?_ | refine S.then_r ?_ | refine S.inBlock_n ?_ | refine S.inBlock_r ?_ | refine S.inBlock_x rfl ?_ | refine S.noGoto_r ?_ | refine S.noGoto_n ?_ | refine S.noGoto_x ?_)
      exact S.next (q - 1) (⟨i + 1, e2, by omega, by omega, by omega, he2, by rw [hin, ← hio]; conv => rhs; rw [insOuter, if_pos (by omega)], rfl, rfl⟩) (by omega) (by repeat (first | exact trivial | refine ⟨rfl, ?_⟩)) Sub.ent
  · refine S.exit ?_
    with_reducible repeat (first | refine S.then_n ?_ | refine S.then_x ?_ | refine S.then_r ?_ | refine S.inBlock_n ?_ | refine S.inBlock_r ?_ | refine S.inBlock_x rfl ?_ | refine S.noGoto_r ?_ | refine S.noGoto_n ?_ | refine S.noGoto_x ?_)
    with_reducible refine S.inBlock_s ?_
    with_reducible repeat (first | refine S.then_n ?_ | refine S.then_x ?_ | refine S.then_r ?_ | refine S.inBlock_n ?_ | refine S.inBlock_r ?_ | refine S.inBlock_x rfl ?_ | refine S.noGoto_r ?_ | refine S.noGoto_n ?_ | refine S.noGoto_x ?_)
    with_reducible repeat (first | refine S.then_n ?_ | refine S.then_x ?_ | refine S.then_r ?_ | refine S.inBlock_n ?_ | refine S.inBlock_r ?_ | refine S.inBlock_x rfl ?_ | refine S.noGoto_r ?_ | refine S.noGoto_n ?_ | refine S.noGoto_x ?_)
    exact S.finN (rs := []) (vs := []) Tryd.results121 (trivial)  (by have hfin : insertionSort ltInt d a b = e := (by rw [← hio, insOuter, if_neg (by omega)]); rw [hfin]) Sub.ent
theorem sift_sizeN (hi F : Nat) : ∀ (n r : Nat) (d : Array Int), hi - r ≤ n → (siftDown ltInt hi F r d).size = d.size
  | 0, r, d, h => by rw [siftDown, dif_pos (by omega)]
  | n + 1, r, d, h => by
    rw [siftDown]
    split
    · rfl
    split
    · split
      · rfl
      split
      · rw [sift_sizeN hi F n _ _ (by omega), swpZ]
      · rfl
    · split
      · rfl
      · rw [sift_sizeN hi F n _ _ (by omega), swpZ]
theorem sift_size (hi F r : Nat) (d : Array Int) : (siftDown ltInt hi F r d).size = d.size := sift_sizeN hi F _ r d (Nat.le_refl _)
theorem siftDown_S (s : SV) (d : Array Int) (lo hi F : Nat) (hF : F + hi ≤ d.size) (hlo : lo ≤ 65535) (hsz : d.size ≤ 65535) (hsn : s.n = d.size) : Spec Tryd.prog 134 [s.v, .int .i64 (lo : Int), .int .i64 (hi : Int), .int .i64 (F : Int)] [own s 68 1 (uA d)] fun Γ _ Θ => Θ = own s 68 1 (uA (siftDown ltInt hi F lo d)) :: Γ := by
  refine Spec.of_body Tryd.func134 rfl Tryd.ntmps134 rfl ?_
  intro w0 Γ
  show S _ w0 [(0, s.v), (1, .int .i64 (lo : Int)), (2, .int .i64 (hi : Int)), (3, .int .i64 (F : Int))] (own s 68 1 (uA d) :: Γ) _
  refine S.seq fun K1 hK1 => ?_
  refine S.region rfl ?_
  refine S.op (S.q (q_move rfl) rfl rfl ?_)
  refine S.op (S.q (q_assign rfl) rfl rfl ?_)
  first | with_reducible refine S.nilK ?_ | refine S.nil ?_
  refine hK1 _ _ ?_
  refine S.block ?_
  refine S.loop (fun q ρ' Γ' => ∃ (r : Nat) (z : Int) (e : Array Int), q = hi - r ∧ z = r ∧ r ≤ 65535 ∧ e.size = d.size ∧ siftDown ltInt hi F r e = siftDown ltInt hi F lo d ∧ ρ' = [(0, s.v), (1, .int .i64 (lo : Int)), (2, .int .i64 (hi : Int)), (3, .int .i64 (F : Int)), (8, .int .i64 z)] ∧ Γ' = own s 68 1 (uA e) :: Γ) (m := _) (ρ0 := _) (Γ0 := _) (⟨lo, lo, d, rfl, rfl, hlo, rfl, rfl, rfl, rfl⟩) (by repeat (first | exact trivial | refine ⟨rfl, ?_⟩)) Sub.ent ?_
  rintro q ρ' Γ' ⟨r, z, e, hq, hz, hr9, hes, hsd, rfl, rfl⟩
  refine S.block ?_
  refine S.seq fun K2 hK2 => ?_
  refine S.region rfl ?_
  refine S.op (S.q (q_move rfl) rfl rfl ?_)
  refine S.op (S.q (q_mul rfl rfl (inI64 (by omega) (by omega))) rfl rfl ?_)
  refine S.op (S.q (q_add rfl rfl (inI64 (by omega) (by omega))) rfl rfl ?_)
  refine S.op (S.q (q_assign rfl) rfl rfl ?_)
  first | with_reducible refine S.nilK ?_ | refine S.nil ?_
  refine hK2 _ _ ?_
  refine S.seq fun K3 hK3 => ?_
  refine S.seq fun K4 hK4 => ?_
  refine S.region rfl ?_
  refine S.op (S.q (q_move rfl) rfl rfl ?_)
  refine S.op (S.q (q_move rfl) rfl rfl ?_)
  refine S.op (S.q (q_ge rfl rfl) rfl rfl ?_)
  first | with_reducible refine S.nilK ?_ | refine S.nil ?_
  refine hK4 _ _ ?_
  refine S.condD rfl (fun h1 => ?_) (fun h1 => ?_)
  · have hfin : e = siftDown ltInt hi F lo d := by rw [← hsd, siftDown, dif_pos (by omega)]
    refine S.exit ?_
    with_reducible repeat (first | refine S.then_n ?_ | refine S.then_x ?_ | refine S.then_r ?_ | refine S.inBlock_n ?_ | refine S.inBlock_r ?_ | refine S.inBlock_x rfl ?_ | refine S.noGoto_r ?_ | refine S.noGoto_n ?_ | refine S.noGoto_x ?_)
    with_reducible refine S.inBlock_s ?_
    with_reducible repeat (first | refine S.then_n ?_ | refine S.then_x ?_ | refine S.then_r ?_ | refine S.inBlock_n ?_ | refine S.inBlock_r ?_ | refine S.inBlock_x rfl ?_ | refine S.noGoto_r ?_ | refine S.noGoto_n ?_ | refine S.noGoto_x ?_)
    with_reducible repeat (first | refine S.then_n ?_ | refine S.then_x ?_ | refine S.then_r ?_ | refine S.inBlock_n ?_ | refine S.inBlock_r ?_ | refine S.inBlock_x rfl ?_ | refine S.noGoto_r ?_ | refine S.noGoto_n ?_ | refine S.noGoto_x ?_)
    exact S.finN (rs := []) (vs := []) Tryd.results134 (trivial)  (by rw [← hfin]) Sub.ent
  · refine S.ownSome s (by omega) fun sb so hsa _ _ _ => ?_
    have hno : ¬ (2 * r + 1 ≥ hi) := by omega
    refine S.skip ?_
    with_reducible repeat (first | refine S.then_n ?_ | refine S.then_x ?_ | refine S.then_r ?_ | refine S.inBlock_n ?_ | refine S.inBlock_r ?_ | refine S.inBlock_x rfl ?_ | refine S.noGoto_r ?_ | refine S.noGoto_n ?_ | refine S.noGoto_x ?_)
    refine hK3 _ _ ?_
    refine S.seq fun K5 hK5 => ?_
    refine S.seq fun K6 hK6 => ?_
    refine S.cut (fun ρ' Γ' => ∃ bb : Bool, bb = (decide (2 * r + 1 + 1 < hi) && ltInt e[F + (2 * r + 1)]! e[F + (2 * r + 1) + 1]!) ∧ ρ' = [(0, s.v), (1, .int .i64 (lo : Int)), (2, .int .i64 (hi : Int)), (3, .int .i64 (F : Int)), (8, .int .i64 z), (9, .int .i64 (2 * z + 1)), (36, .bool bb)] ∧ Γ' = own s 68 1 (uA e) :: Γ) ?_ ?_
    · refine S.draw ([own s 68 1 (uA e)]) [] Tryd.mixed ?_
      refine S.dr_take 0 [] rfl (by kernel_rfl) rfl rfl rfl (q_move rfl) Sub.ent ?_
      refine S.dr_take 1 [] rfl (by kernel_rfl) rfl rfl rfl (q_add rfl rfl (inI64 (by omega) (by omega))) Sub.ent ?_
      refine S.dr_take 2 [] rfl (by kernel_rfl) rfl rfl rfl (q_move rfl) Sub.ent ?_
      refine S.dr_take 3 [] rfl (by kernel_rfl) rfl rfl rfl (q_lt rfl rfl) Sub.ent ?_
      refine S.dr_take 4 [] rfl (by kernel_rfl) rfl rfl rfl (q_move rfl) Sub.ent ?_
      by_cases hg3_4 : 2 * z + 1 + 1 < (hi : Int)
      · refine S.dr_takeY 5 [] rfl (by kernel_rfl) rfl rfl rfl (decide_eq_true hg3_4) rfl rfl (q_move rfl) Sub.ent ?_
        refine S.dr_takeY 6 [] rfl (by kernel_rfl) rfl rfl rfl (decide_eq_true hg3_4) rfl rfl (q_move rfl) Sub.ent ?_
        refine S.dr_takeY 7 [] rfl (by kernel_rfl) rfl rfl rfl (decide_eq_true hg3_4) rfl rfl (q_move rfl) Sub.ent ?_
        refine S.dr_takeY 8 [] rfl (by kernel_rfl) rfl rfl rfl (decide_eq_true hg3_4) rfl rfl (q_add rfl rfl (inI64 (by omega) (by omega))) Sub.ent ?_
        refine S.dr_takeY 9 [] rfl (by kernel_rfl) rfl rfl rfl (decide_eq_true hg3_4) rfl rfl (q_indexO (F + (2 * r + 1)) Tryd.el31 rfl hsa rfl (by omega) (by omega)) Sub.ent ?_
        refine S.dr_takeY 10 [] rfl (by kernel_rfl) rfl rfl rfl (decide_eq_true hg3_4) rfl rfl (q_loadOw (s) (F + (2 * r + 1)) Tryd.at68 rfl hsa (by first | rfl | exact Nat.add_assoc _ _ _ | omega) (uA_get (by omega))) Sub.ent ?_
        refine S.dr_takeY 11 [] rfl (by kernel_rfl) rfl rfl rfl (decide_eq_true hg3_4) rfl rfl (q_move rfl) Sub.ent ?_
        refine S.dr_takeY 12 [] rfl (by kernel_rfl) rfl rfl rfl (decide_eq_true hg3_4) rfl rfl (q_move rfl) Sub.ent ?_
        refine S.dr_takeY 13 [] rfl (by kernel_rfl) rfl rfl rfl (decide_eq_true hg3_4) rfl rfl (q_move rfl) Sub.ent ?_
        refine S.dr_takeY 14 [] rfl (by kernel_rfl) rfl rfl rfl (decide_eq_true hg3_4) rfl rfl (q_add rfl rfl (inI64 (by omega) (by omega))) Sub.ent ?_
        refine S.dr_takeY 15 [] rfl (by kernel_rfl) rfl rfl rfl (decide_eq_true hg3_4) rfl rfl (q_add rfl rfl (inI64 (by omega) (by omega))) Sub.ent ?_
        refine S.dr_takeY 16 [] rfl (by kernel_rfl) rfl rfl rfl (decide_eq_true hg3_4) rfl rfl (q_indexO (F + (2 * r + 1) + 1) Tryd.el31 rfl hsa rfl (by omega) (by omega)) Sub.ent ?_
        refine S.dr_takeY 17 [] rfl (by kernel_rfl) rfl rfl rfl (decide_eq_true hg3_4) rfl rfl (q_loadOw (s) (F + (2 * r + 1) + 1) Tryd.at68 rfl hsa (by first | rfl | exact Nat.add_assoc _ _ _ | omega) (uA_get (by omega))) Sub.ent ?_
        refine S.dr_1Y (i := 18) (by kernel_rfl) rfl rfl rfl rfl (decide_eq_true hg3_4) ?_
        refine  (S.call Tryd.en127 (vs := [_, _]) ⟨rfl, rfl, trivial⟩ (Less_S (e[F + (2 * r + 1)]!) (e[F + (2 * r + 1) + 1]!)) rfl ?_)
        rintro v Θ ⟨rfl, rfl⟩
        refine S.dr_k rfl Sub.ent ?_
        refine S.dr_take 19 [] rfl (by kernel_rfl) rfl rfl rfl (q_pickT rfl (decide_eq_true hg3_4) rfl) Sub.ent ?_
        first | with_reducible refine S.dr_doneK (by kernel_rfl) ?_ | refine S.dr_done (by kernel_rfl) ?_
        with_reducible repeat (first | refine S.then_n ?_ | refine S.then_x ?_ | refine S.then_r ?_ | refine S.inBlock_n ?_ | refine S.inBlock_r ?_ | refine S.inBlock_x rfl ?_ | refine S.noGoto_r ?_ | refine S.noGoto_n ?_ | refine S.noGoto_x ?_)
        first | (exact S.meet ⟨_, by rw [decide_eq_true (show 2 * r + 1 + 1 < hi by omega)]; rfl, rfl, rfl⟩ ⟨rfl, rfl, rfl, rfl, rfl, rfl, rfl, trivial⟩ Sub.ent) | (exact S.meet ⟨_, by rw [decide_eq_false (show ¬ 2 * r + 1 + 1 < hi by omega)]; rfl, rfl, rfl⟩ ⟨rfl, rfl, rfl, rfl, rfl, rfl, rfl, trivial⟩ Sub.ent)
      · refine S.dr_takeN 5 [] rfl (by kernel_rfl) rfl rfl rfl (decide_eq_false hg3_4) rfl rfl Sub.ent ?_
        refine S.dr_takeN 6 [] rfl (by kernel_rfl) rfl rfl rfl (decide_eq_false hg3_4) rfl rfl Sub.ent ?_
        refine S.dr_takeN 7 [] rfl (by kernel_rfl) rfl rfl rfl (decide_eq_false hg3_4) rfl rfl Sub.ent ?_
        refine S.dr_takeN 8 [] rfl (by kernel_rfl) rfl rfl rfl (decide_eq_false hg3_4) rfl rfl Sub.ent ?_
        refine S.dr_takeN 9 [] rfl (by kernel_rfl) rfl rfl rfl (decide_eq_false hg3_4) rfl rfl Sub.ent ?_
        refine S.dr_takeN 10 [] rfl (by kernel_rfl) rfl rfl rfl (decide_eq_false hg3_4) rfl rfl Sub.ent ?_
        refine S.dr_takeN 11 [] rfl (by kernel_rfl) rfl rfl rfl (decide_eq_false hg3_4) rfl rfl Sub.ent ?_
        refine S.dr_takeN 12 [] rfl (by kernel_rfl) rfl rfl rfl (decide_eq_false hg3_4) rfl rfl Sub.ent ?_
        refine S.dr_takeN 13 [] rfl (by kernel_rfl) rfl rfl rfl (decide_eq_false hg3_4) rfl rfl Sub.ent ?_
        refine S.dr_takeN 14 [] rfl (by kernel_rfl) rfl rfl rfl (decide_eq_false hg3_4) rfl rfl Sub.ent ?_
        refine S.dr_takeN 15 [] rfl (by kernel_rfl) rfl rfl rfl (decide_eq_false hg3_4) rfl rfl Sub.ent ?_
        refine S.dr_takeN 16 [] rfl (by kernel_rfl) rfl rfl rfl (decide_eq_false hg3_4) rfl rfl Sub.ent ?_
        refine S.dr_takeN 17 [] rfl (by kernel_rfl) rfl rfl rfl (decide_eq_false hg3_4) rfl rfl Sub.ent ?_
        refine S.dr_takeN 18 [] rfl (by kernel_rfl) rfl rfl rfl (decide_eq_false hg3_4) rfl rfl Sub.ent ?_
        refine S.dr_take 19 [] rfl (by kernel_rfl) rfl rfl rfl (q_pickF rfl (decide_eq_false hg3_4) rfl) Sub.ent ?_
        first | with_reducible refine S.dr_doneK (by kernel_rfl) ?_ | refine S.dr_done (by kernel_rfl) ?_
        with_reducible repeat (first | refine S.then_n ?_ | refine S.then_x ?_ | refine S.then_r ?_ | refine S.inBlock_n ?_ | refine S.inBlock_r ?_ | refine S.inBlock_x rfl ?_ | refine S.noGoto_r ?_ | refine S.noGoto_n ?_ | refine S.noGoto_x ?_)
        first | (exact S.meet ⟨_, by rw [decide_eq_true (show 2 * r + 1 + 1 < hi by omega)]; rfl, rfl, rfl⟩ ⟨rfl, rfl, rfl, rfl, rfl, rfl, rfl, trivial⟩ Sub.ent) | (exact S.meet ⟨_, by rw [decide_eq_false (show ¬ 2 * r + 1 + 1 < hi by omega)]; rfl, rfl, rfl⟩ ⟨rfl, rfl, rfl, rfl, rfl, rfl, rfl, trivial⟩ Sub.ent)
    · rintro ρ' Γ' ⟨bb, hbb, rfl, rfl⟩
      refine hK6 _ _ ?_
      refine S.cut (fun ρ' Γ' => ∃ (c : Nat) (zc : Int), zc = c ∧ r < c ∧ c < hi ∧ (siftDown ltInt hi F r e = if (!ltInt e[F + r]! e[F + c]!) = true then e else siftDown ltInt hi F c (swp e (F + r) (F + c))) ∧ ρ' = [(0, s.v), (1, .int .i64 (lo : Int)), (2, .int .i64 (hi : Int)), (3, .int .i64 (F : Int)), (8, .int .i64 z), (9, .int .i64 zc)] ∧ Γ' = own s 68 1 (uA e) :: Γ) ?_ ?_
      · refine S.cond rfl (fun h2 => ?_) (fun h2 => ?_)
        · rw [h2] at hbb
          have hb2 : 2 * r + 2 < hi := by
            have := hbb.symm
            rw [Bool.and_eq_true, decide_eq_true_eq] at this
            omega
          have hstep : siftDown ltInt hi F r e = if (!ltInt e[F + r]! e[F + (2 * r + 2)]!) = true then e else siftDown ltInt hi F (2 * r + 2) (swp e (F + r) (F + (2 * r + 2))) := by
            conv => lhs; rw [siftDown, dif_neg hno, if_pos hbb.symm, dif_pos hb2]
          refine S.region rfl ?_
          refine S.op (S.q (q_move rfl) rfl rfl ?_)
          refine S.op (S.q (q_add rfl rfl (inI64 (by omega) (by omega))) rfl rfl ?_)
          refine S.op (S.q (q_assign rfl) rfl rfl ?_)
          first | with_reducible refine S.nilK ?_ | refine S.nil ?_
          with_reducible repeat (first | refine S.then_n ?_ | refine S.then_x ?_ | refine S.then_r ?_ | refine S.inBlock_n ?_ | refine S.inBlock_r ?_ | refine S.inBlock_x rfl ?_ | refine S.noGoto_r ?_ | refine S.noGoto_n ?_ | refine S.noGoto_x ?_)
          first | exact S.meet ⟨2 * r + 2, 2 * z + 1 + 1, by omega, by omega, hb2, hstep, rfl, rfl⟩ ⟨rfl, rfl, rfl, rfl, rfl, rfl, trivial⟩ Sub.ent | exact S.meet ⟨2 * r + 1, 2 * z + 1, by omega, by omega, hb2, hstep, rfl, rfl⟩ ⟨rfl, rfl, rfl, rfl, rfl, rfl, trivial⟩ Sub.ent
        · rw [h2] at hbb
          have hb2 : 2 * r + 1 < hi := by omega
          have hstep : siftDown ltInt hi F r e = if (!ltInt e[F + r]! e[F + (2 * r + 1)]!) = true then e else siftDown ltInt hi F (2 * r + 1) (swp e (F + r) (F + (2 * r + 1))) := by
            conv => lhs; rw [siftDown, dif_neg hno, if_neg (by rw [← hbb]; simp)]
          refine S.skip ?_
          with_reducible repeat (first | refine S.then_n ?_ | refine S.then_x ?_ | refine S.then_r ?_ | refine S.inBlock_n ?_ | refine S.inBlock_r ?_ | refine S.inBlock_x rfl ?_ | refine S.noGoto_r ?_ | refine S.noGoto_n ?_ | refine S.noGoto_x ?_)
          with_reducible repeat (first | refine S.then_n ?_ | refine S.then_x ?_ | refine S.then_r ?_ | refine S.inBlock_n ?_ | refine S.inBlock_r ?_ | refine S.inBlock_x rfl ?_ | refine S.noGoto_r ?_ | refine S.noGoto_n ?_ | refine S.noGoto_x ?_)
          first | exact S.meet ⟨2 * r + 2, 2 * z + 1 + 1, by omega, by omega, hb2, hstep, rfl, rfl⟩ ⟨rfl, rfl, rfl, rfl, rfl, rfl, trivial⟩ Sub.ent | exact S.meet ⟨2 * r + 1, 2 * z + 1, by omega, by omega, hb2, hstep, rfl, rfl⟩ ⟨rfl, rfl, rfl, rfl, rfl, rfl, trivial⟩ Sub.ent
      · rintro ρ' Γ' ⟨c, zc, hzc, hrc, hch, hstep, rfl, rfl⟩
        refine hK5 _ _ ?_
        refine S.seq fun K7 hK7 => ?_
        refine S.seq fun K8 hK8 => ?_
        refine S.draw ([own s 68 1 (uA e)]) [] Tryd.mixed ?_
        refine S.dr_take 0 [] rfl (by kernel_rfl) rfl rfl rfl (q_move rfl) Sub.ent ?_
        refine S.dr_take 1 [] rfl (by kernel_rfl) rfl rfl rfl (q_move rfl) Sub.ent ?_
        refine S.dr_take 2 [] rfl (by kernel_rfl) rfl rfl rfl (q_move rfl) Sub.ent ?_
        refine S.dr_take 3 [] rfl (by kernel_rfl) rfl rfl rfl (q_add rfl rfl (inI64 (by omega) (by omega))) Sub.ent ?_
        refine S.dr_take 4 [] rfl (by kernel_rfl) rfl rfl rfl (q_indexO (F + r) Tryd.el31 rfl hsa rfl (by omega) (by omega)) Sub.ent ?_
        refine S.dr_take 5 [] rfl (by kernel_rfl) rfl rfl rfl (q_loadOw (s) (F + r) Tryd.at68 rfl hsa (by first | rfl | exact Nat.add_assoc _ _ _ | omega) (uA_get (by omega))) Sub.ent ?_
        refine S.dr_take 6 [] rfl (by kernel_rfl) rfl rfl rfl (q_move rfl) Sub.ent ?_
        refine S.dr_take 7 [] rfl (by kernel_rfl) rfl rfl rfl (q_move rfl) Sub.ent ?_
        refine S.dr_take 8 [] rfl (by kernel_rfl) rfl rfl rfl (q_move rfl) Sub.ent ?_
        refine S.dr_take 9 [] rfl (by kernel_rfl) rfl rfl rfl (q_add rfl rfl (inI64 (by omega) (by omega))) Sub.ent ?_
        refine S.dr_take 10 [] rfl (by kernel_rfl) rfl rfl rfl (q_indexO (F + c) Tryd.el31 rfl hsa rfl (by omega) (by omega)) Sub.ent ?_
        refine S.dr_take 11 [] rfl (by kernel_rfl) rfl rfl rfl (q_loadOw (s) (F + c) Tryd.at68 rfl hsa (by first | rfl | exact Nat.add_assoc _ _ _ | omega) (uA_get (by omega))) Sub.ent ?_
        refine S.dr_1 (i := 12) (by kernel_rfl) rfl rfl ?_
        refine  (S.call Tryd.en127 (vs := [_, _]) ⟨rfl, rfl, trivial⟩ (Less_S (e[F + r]!) (e[F + c]!)) rfl ?_)
        rintro v Θ ⟨rfl, rfl⟩
        refine S.dr_k rfl Sub.ent ?_
        refine S.dr_take 13 [] rfl (by kernel_rfl) rfl rfl rfl (q_not rfl) Sub.ent ?_
        first | with_reducible refine S.dr_doneK (by kernel_rfl) ?_ | refine S.dr_done (by kernel_rfl) ?_
        refine hK8 _ _ ?_
        refine S.cond rfl (fun h3 => ?_) (fun h3 => ?_)
        · have hfin : e = siftDown ltInt hi F lo d := by rw [← hsd, hstep, if_pos h3]
          refine S.ret ?_
          with_reducible repeat (first | refine S.then_n ?_ | refine S.then_x ?_ | refine S.then_r ?_ | refine S.inBlock_n ?_ | refine S.inBlock_r ?_ | refine S.inBlock_x rfl ?_ | refine S.noGoto_r ?_ | refine S.noGoto_n ?_ | refine S.noGoto_x ?_)
          exact S.fin (rs := []) (vs := []) Tryd.results134 (trivial)  (by rw [← hfin]) Sub.ent
        · have hfin : siftDown ltInt hi F c (swp e (F + r) (F + c)) = siftDown ltInt hi F lo d := by rw [← hsd, hstep, if_neg (by rw [h3]; simp)]
          refine S.skip ?_
          with_reducible repeat (first | refine S.then_n ?_ | refine S.then_x ?_ | refine S.then_r ?_ | refine S.inBlock_n ?_ | refine S.inBlock_r ?_ | refine S.inBlock_x rfl ?_ | refine S.noGoto_r ?_ | refine S.noGoto_n ?_ | refine S.noGoto_x ?_)
          refine hK7 _ _ ?_
          refine S.seq fun K9 hK9 => ?_
          refine S.draw ([own s 68 1 (uA e)]) [21] Tryd.mixed ?_
          refine S.dr_take 0 [20, 21, 22, 23] rfl (by kernel_rfl) rfl rfl rfl (q_move rfl) Sub.ent ?_
          refine S.dr_take 1 [3, 20, 21, 22, 23] rfl (by kernel_rfl) rfl rfl rfl (q_move rfl) Sub.ent ?_
          refine S.dr_take 2 [3, 20, 21, 22, 23] rfl (by kernel_rfl) rfl rfl rfl (q_move rfl) Sub.ent ?_
          refine S.dr_take 3 [20, 21, 22, 23] rfl (by kernel_rfl) rfl rfl rfl (q_add rfl rfl (inI64 (by omega) (by omega))) Sub.ent ?_
          refine S.dr_takeP 4 rfl (by kernel_rfl) rfl rfl rfl (q_move rfl) Sub.ent ?_
          refine S.dr_takeP 5 rfl (by kernel_rfl) rfl rfl rfl (q_move rfl) Sub.ent ?_
          refine S.dr_takeP 6 rfl (by kernel_rfl) rfl rfl rfl (q_move rfl) Sub.ent ?_
          refine S.dr_takeP 7 rfl (by kernel_rfl) rfl rfl rfl (q_add rfl rfl (inI64 (by omega) (by omega))) Sub.ent ?_
          refine S.dr_take 8 [12, 13, 20, 21, 22, 23] rfl (by kernel_rfl) rfl rfl rfl (q_move rfl) Sub.ent ?_
          refine S.dr_take 9 [11, 12, 13, 20, 21, 22, 23] rfl (by kernel_rfl) rfl rfl rfl (q_move rfl) Sub.ent ?_
          refine S.dr_take 10 [11, 12, 13, 20, 21, 22, 23] rfl (by kernel_rfl) rfl rfl rfl (q_move rfl) Sub.ent ?_
          refine S.dr_take 11 [12, 13, 20, 21, 22, 23] rfl (by kernel_rfl) rfl rfl rfl (q_add rfl rfl (inI64 (by omega) (by omega))) Sub.ent ?_
          refine S.dr_take 12 [13, 20, 21, 22, 23] rfl (by kernel_rfl) rfl rfl rfl (q_indexO (F + c) Tryd.el31 rfl hsa rfl (by omega) (by omega)) Sub.ent ?_
          refine S.dr_take 13 [20, 21, 22, 23] rfl (by kernel_rfl) rfl rfl rfl (q_loadOw (s) (F + c) Tryd.at68 rfl hsa (by first | rfl | exact Nat.add_assoc _ _ _ | omega) (uA_get (by omega))) Sub.ent ?_
          refine S.dr_take 14 [18, 19, 20, 21, 22, 23] rfl (by kernel_rfl) rfl rfl rfl (q_move rfl) Sub.ent ?_
          refine S.dr_take 15 [17, 18, 19, 20, 21, 22, 23] rfl (by kernel_rfl) rfl rfl rfl (q_move rfl) Sub.ent ?_
          refine S.dr_take 16 [17, 18, 19, 20, 21, 22, 23] rfl (by kernel_rfl) rfl rfl rfl (q_move rfl) Sub.ent ?_
          refine S.dr_take 17 [18, 19, 20, 21, 22, 23] rfl (by kernel_rfl) rfl rfl rfl (q_add rfl rfl (inI64 (by omega) (by omega))) Sub.ent ?_
          refine S.dr_take 18 [19, 20, 21, 22, 23] rfl (by kernel_rfl) rfl rfl rfl (q_indexO (F + r) Tryd.el31 rfl hsa rfl (by omega) (by omega)) Sub.ent ?_
          refine S.dr_take 19 [20, 21, 22, 23] rfl (by kernel_rfl) rfl rfl rfl (q_loadOw (s) (F + r) Tryd.at68 rfl hsa (by first | rfl | exact Nat.add_assoc _ _ _ | omega) (uA_get (by omega))) Sub.ent ?_
          refine S.dr_take 20 [21, 22, 23] rfl (by kernel_rfl) rfl rfl rfl (q_indexO (F + r) Tryd.el31 rfl hsa rfl (by omega) (by omega)) Sub.ent ?_
          refine S.dr_1 (i := 21) (by kernel_rfl) rfl rfl ?_
          refine  (S.storeOw (s) (F + r) Tryd.at68 rfl rfl rfl hsa (by first | rfl | exact Nat.add_assoc _ _ _ | omega) (by rw [uA_len]; omega) (uA_set _ _ _) ?_)
          refine S.dr_late ([]) [] rfl ?_
          refine S.dr_take 22 [] rfl (by kernel_rfl) rfl rfl rfl (q_indexO (F + c) Tryd.el31 rfl hsa rfl (by omega) (by omega)) Sub.ent ?_
          refine S.dr_1 (i := 23) (by kernel_rfl) rfl rfl ?_
          refine  (S.storeOw (s) (F + c) Tryd.at68 rfl rfl rfl hsa (by first | rfl | exact Nat.add_assoc _ _ _ | omega) (by rw [uA_len, Array.size_setIfInBounds]; omega) (show _ = uA (Go.Sort.swp e (F + r) (F + c)) from uA_set _ _ _) ?_)
          refine S.dr_k rfl Sub.ent ?_
          first | with_reducible refine S.dr_doneK (by kernel_rfl) ?_ | refine S.dr_done (by kernel_rfl) ?_
          refine hK9 _ _ ?_
          refine S.region rfl ?_
          refine S.op (S.q (q_move rfl) rfl rfl ?_)
          refine S.op (S.q (q_assign rfl) rfl rfl ?_)
          first | with_reducible refine S.nilK ?_ | refine S.nil ?_
          with_reducible repeat (first | refine S.then_n ?_ | refine S.then_x ?_ | refine S.then_r ?_ | refine S.inBlock_n ?_ | refine S.inBlock_r ?_ | refine S.inBlock_x rfl ?_ | refine S.noGoto_r ?_ | refine S.noGoto_n ?_ | refine S.noGoto_x ?_)
          with_reducible repeat (first | refine S.then_n ?_ | refine S.then_x ?_ | refine S.then_r ?_ | refine S.inBlock_n ?_ | refine S.inBlock_r ?_ | refine S.inBlock_x rfl ?_ | refine S.noGoto_r ?_ | refine S.noGoto_n ?_ | refine S.noGoto_x ?_)
          exact S.next (hi - c) (⟨c, zc, swp e (F + r) (F + c), rfl, hzc, by omega, by rw [swpZ, hes], hfin, rfl, rfl⟩) (by omega) (by repeat (first | exact trivial | refine ⟨rfl, ?_⟩)) Sub.ent
theorem heapSort_S (s : SV) (d : Array Int) (a b : Nat) (hab : a < b) (hb : b ≤ d.size) (hsz : d.size ≤ 65535) (hsn : s.n = d.size) : Spec Tryd.prog 122 [s.v, .int .i64 (a : Int), .int .i64 (b : Int)] [own s 68 1 (uA d)] fun Γ _ Θ => Θ = own s 68 1 (uA (heapSort ltInt d a b)) :: Γ := by
  refine Spec.of_body Tryd.func122 rfl Tryd.ntmps122 rfl ?_
  intro w0 Γ
  show S _ w0 [(0, s.v), (1, .int .i64 (a : Int)), (2, .int .i64 (b : Int))] (own s 68 1 (uA d) :: Γ) _
  have hsift : ∀ hi F lo (e : Array Int), F + hi ≤ e.size → lo ≤ 65535 → e.size = d.size → (siftDown ltInt hi F lo e).size = d.size := fun hi F lo e h1 _ h3 => by
    rw [sift_size, h3]
  refine S.seq fun K1 hK1 => ?_
  refine S.region rfl ?_
  refine S.op (S.q (q_move rfl) rfl rfl ?_)
  refine S.op (S.q (q_assign rfl) rfl rfl ?_)
  first | with_reducible refine S.nilK ?_ | refine S.nil ?_
  refine hK1 _ _ ?_
  refine S.seq fun K2 hK2 => ?_
  refine S.region rfl ?_
  refine S.op (S.q (q_assign rfl) rfl rfl ?_)
  first | with_reducible refine S.nilK ?_ | refine S.nil ?_
  refine hK2 _ _ ?_
  refine S.seq fun K3 hK3 => ?_
  refine S.region rfl ?_
  refine S.op (S.q (q_move rfl) rfl rfl ?_)
  refine S.op (S.q (q_move rfl) rfl rfl ?_)
  refine S.op (S.q (q_sub rfl rfl (inI64 (by omega) (by omega))) rfl rfl ?_)
  refine S.op (S.q (q_assign rfl) rfl rfl ?_)
  first | with_reducible refine S.nilK ?_ | refine S.nil ?_
  refine hK3 _ _ ?_
  refine S.seq fun K4 hK4 => ?_
  refine S.seq fun K5 hK5 => ?_
  refine S.region rfl ?_
  refine S.op (S.q (q_move rfl) rfl rfl ?_)
  refine S.op (S.q (q_sub rfl rfl (inI64 (by omega) (by omega))) rfl rfl ?_)
  refine S.op (S.q (q_quo rfl rfl (⟨by omega, by omega⟩) (inI64 (by omega) (by omega))) rfl rfl ?_)
  refine S.op (S.q (q_assign rfl) rfl rfl ?_)
  first | with_reducible refine S.nilK ?_ | refine S.nil ?_
  refine hK5 _ _ ?_
  refine S.block ?_
  refine S.loop (fun q ρ' Γ' => ∃ (k : Nat) (z : Int) (e : Array Int), q = k ∧ z = (k : Int) - 1 ∧ k ≤ 65535 ∧ e.size = d.size ∧ heapBuild ltInt (b - a) a k e = heapBuild ltInt (b - a) a ((b - a - 1) / 2 + 1) d ∧ ρ' = [(0, s.v), (6, .int .i64 (a : Int)), (7, .int .i64 0), (8, .int .i64 ((b : Int) - a)), (9, .int .i64 z)] ∧ Γ' = own s 68 1 (uA e) :: Γ) (m := _) (ρ0 := _) (Γ0 := _) (⟨(b - a - 1) / 2 + 1, ((b : Int) - a - 1) / 2, d, rfl, by omega, by omega, rfl, rfl, rfl, rfl⟩) (by repeat (first | exact trivial | refine ⟨rfl, ?_⟩)) Sub.ent ?_
  rintro q ρ' Γ' ⟨k, z, e, hq, hz, hk9, hes, hhb, rfl, rfl⟩
  refine S.seq fun K6 hK6 => ?_
  refine S.seq fun K7 hK7 => ?_
  refine S.region rfl ?_
  refine S.op (S.q (q_move rfl) rfl rfl ?_)
  refine S.op (S.q (q_ge rfl rfl) rfl rfl ?_)
  first | with_reducible refine S.nilK ?_ | refine S.nil ?_
  refine hK7 _ _ ?_
  refine S.condD rfl (fun h1 => ?_) (fun h1 => ?_)
  · obtain ⟨k, rfl⟩ : ∃ k', k = k' + 1 := ⟨k - 1, by omega⟩
    refine S.skip ?_
    with_reducible repeat (first | refine S.then_n ?_ | refine S.then_x ?_ | refine S.then_r ?_ | refine S.inBlock_n ?_ | refine S.inBlock_r ?_ | refine S.inBlock_x rfl ?_ | refine S.noGoto_r ?_ | refine S.noGoto_n ?_ | refine S.noGoto_x ?_)
    refine hK6 _ _ ?_
    refine S.seq fun K8 hK8 => ?_
    refine S.block ?_
    refine S.region rfl ?_
    refine S.op (S.q (q_move rfl) rfl rfl ?_)
    refine S.op (S.q (q_move rfl) rfl rfl ?_)
    refine S.op (S.q (q_move rfl) rfl rfl ?_)
    refine S.op (S.q (q_move rfl) rfl rfl ?_)
    refine S.op (S.call Tryd.en134 (vs := [_, _, _, _]) ⟨rfl, rfl, rfl, rfl, trivial⟩ ((by rw [show z = (k : Int) by omega, show ((b : Int) - a) = ((b - a : Nat) : Int) by omega]; exact siftDown_S s e k (b - a) a (by omega) (by omega) (by omega) (by omega))) rfl ?_)
    rintro v Θ rfl
    first | with_reducible refine S.nilK ?_ | refine S.nil ?_
    with_reducible repeat (first | refine S.then_n ?_ | refine S.then_x ?_ | refine S.then_r ?_ | refine S.inBlock_n ?_ | refine S.inBlock_r ?_ | refine S.inBlock_x rfl ?_ | refine S.noGoto_r ?_ | refine S.noGoto_n ?_ | refine S.noGoto_x ?_)
    refine hK8 _ _ ?_
    refine S.region rfl ?_
    refine S.op (S.q (q_move rfl) rfl rfl ?_)
    refine S.op (S.q (q_sub rfl rfl (inI64 (by omega) (by omega))) rfl rfl ?_)
    refine S.op (S.q (q_assign rfl) rfl rfl ?_)
    first | with_reducible refine S.nilK ?_ | refine S.nil ?_
    with_reducible repeat (first | refine S.then_n ?_ | refine S.then_x ?_ | refine S.then_r ?_ | refine S.inBlock_n ?_ | refine S.inBlock_r ?_ | refine S.inBlock_x rfl ?_ | refine S.noGoto_r ?_ | refine S.noGoto_n ?_ | refine S.noGoto_x ?_)
    exact S.next (k) (⟨k, z - 1, siftDown ltInt (b - a) a k e, rfl, by omega, by omega, hsift _ _ _ _ (by omega) (by omega) hes, hhb, rfl, rfl⟩) (by omega) (by repeat (first | exact trivial | refine ⟨rfl, ?_⟩)) Sub.ent
  · have hk0 : k = 0 := by omega
    subst hk0
    have hhb : e = heapBuild ltInt (b - a) a ((b - a - 1) / 2 + 1) d := hhb
    have hhs : heapSort ltInt d a b = heapPop ltInt a (b - a) e := by rw [hhb]; rfl
    refine S.ownSome s (by omega) fun sb so hsa _ _ _ => ?_
    refine S.exit ?_
    with_reducible repeat (first | refine S.then_n ?_ | refine S.then_x ?_ | refine S.then_r ?_ | refine S.inBlock_n ?_ | refine S.inBlock_r ?_ | refine S.inBlock_x rfl ?_ | refine S.noGoto_r ?_ | refine S.noGoto_n ?_ | refine S.noGoto_x ?_)
    with_reducible refine S.inBlock_s ?_
    with_reducible repeat (first | refine S.then_n ?_ | refine S.then_x ?_ | refine S.then_r ?_ | refine S.inBlock_n ?_ | refine S.inBlock_r ?_ | refine S.inBlock_x rfl ?_ | refine S.noGoto_r ?_ | refine S.noGoto_n ?_ | refine S.noGoto_x ?_)
    refine hK4 _ _ ?_
    refine S.seq fun K9 hK9 => ?_
    refine S.region rfl ?_
    refine S.op (S.q (q_move rfl) rfl rfl ?_)
    refine S.op (S.q (q_sub rfl rfl (inI64 (by omega) (by omega))) rfl rfl ?_)
    refine S.op (S.q (q_assign rfl) rfl rfl ?_)
    first | with_reducible refine S.nilK ?_ | refine S.nil ?_
    refine hK9 _ _ ?_
    refine S.block ?_
    refine S.loop (fun q ρ' Γ' => ∃ (k : Nat) (z : Int) (e : Array Int), q = k ∧ z = (k : Int) - 1 ∧ k ≤ b - a ∧ e.size = d.size ∧ heapPop ltInt a k e = heapSort ltInt d a b ∧ ρ' = [(0, s.v), (6, .int .i64 (a : Int)), (7, .int .i64 0), (10, .int .i64 z)] ∧ Γ' = own s 68 1 (uA e) :: Γ) (m := _) (ρ0 := _) (Γ0 := _) (⟨b - a, ((b : Int) - a) - 1, e, rfl, by omega, by omega, hes, hhs.symm, rfl, rfl⟩) (by repeat (first | exact trivial | refine ⟨rfl, ?_⟩)) Sub.ent ?_
    rintro q ρ' Γ' ⟨k, z, e, hq, hz, hk9, hes, hhb, rfl, rfl⟩
    refine S.seq fun K10 hK10 => ?_
    refine S.seq fun K11 hK11 => ?_
    refine S.region rfl ?_
    refine S.op (S.q (q_move rfl) rfl rfl ?_)
    refine S.op (S.q (q_ge rfl rfl) rfl rfl ?_)
    first | with_reducible refine S.nilK ?_ | refine S.nil ?_
    refine hK11 _ _ ?_
    refine S.condD rfl (fun h2 => ?_) (fun h2 => ?_)
    · obtain ⟨k, rfl⟩ : ∃ k', k = k' + 1 := ⟨k - 1, by omega⟩
      refine S.skip ?_
      with_reducible repeat (first | refine S.then_n ?_ | refine S.then_x ?_ | refine S.then_r ?_ | refine S.inBlock_n ?_ | refine S.inBlock_r ?_ | refine S.inBlock_x rfl ?_ | refine S.noGoto_r ?_ | refine S.noGoto_n ?_ | refine S.noGoto_x ?_)
      refine hK10 _ _ ?_
      refine S.seq fun K12 hK12 => ?_
      refine S.block ?_
      refine S.seq fun K13 hK13 => ?_
      refine S.draw ([own s 68 1 (uA e)]) [17] Tryd.mixed ?_
      refine S.dr_take 0 [16, 17, 18, 19] rfl (by kernel_rfl) rfl rfl rfl (q_move rfl) Sub.ent ?_
      refine S.dr_take 1 [16, 17, 18, 19] rfl (by kernel_rfl) rfl rfl rfl (q_move rfl) Sub.ent ?_
      refine S.dr_takeP 2 rfl (by kernel_rfl) rfl rfl rfl (q_move rfl) Sub.ent ?_
      refine S.dr_takeP 3 rfl (by kernel_rfl) rfl rfl rfl (q_move rfl) Sub.ent ?_
      refine S.dr_takeP 4 rfl (by kernel_rfl) rfl rfl rfl (q_move rfl) Sub.ent ?_
      refine S.dr_takeP 5 rfl (by kernel_rfl) rfl rfl rfl (q_add rfl rfl (inI64 (by omega) (by omega))) Sub.ent ?_
      refine S.dr_take 6 [10, 11, 16, 17, 18, 19] rfl (by kernel_rfl) rfl rfl rfl (q_move rfl) Sub.ent ?_
      refine S.dr_take 7 [9, 10, 11, 16, 17, 18, 19] rfl (by kernel_rfl) rfl rfl rfl (q_move rfl) Sub.ent ?_
      refine S.dr_take 8 [9, 10, 11, 16, 17, 18, 19] rfl (by kernel_rfl) rfl rfl rfl (q_move rfl) Sub.ent ?_
      refine S.dr_take 9 [10, 11, 16, 17, 18, 19] rfl (by kernel_rfl) rfl rfl rfl (q_add rfl rfl (inI64 (by omega) (by omega))) Sub.ent ?_
      refine S.dr_take 10 [11, 16, 17, 18, 19] rfl (by kernel_rfl) rfl rfl rfl (q_indexO (a + k) Tryd.el31 rfl hsa rfl (by omega) (by omega)) Sub.ent ?_
      refine S.dr_take 11 [16, 17, 18, 19] rfl (by kernel_rfl) rfl rfl rfl (q_loadOw (s) (a + k) Tryd.at68 rfl hsa (by first | rfl | exact Nat.add_assoc _ _ _ | omega) (uA_get (by omega))) Sub.ent ?_
      refine S.dr_take 12 [14, 15, 16, 17, 18, 19] rfl (by kernel_rfl) rfl rfl rfl (q_move rfl) Sub.ent ?_
      refine S.dr_take 13 [14, 15, 16, 17, 18, 19] rfl (by kernel_rfl) rfl rfl rfl (q_move rfl) Sub.ent ?_
      refine S.dr_take 14 [15, 16, 17, 18, 19] rfl (by kernel_rfl) rfl rfl rfl (q_indexO (a) Tryd.el31 rfl hsa rfl rfl (by omega)) Sub.ent ?_
      refine S.dr_take 15 [16, 17, 18, 19] rfl (by kernel_rfl) rfl rfl rfl (q_loadOw (s) (a) Tryd.at68 rfl hsa (by first | rfl | exact Nat.add_assoc _ _ _ | omega) (uA_get (by omega))) Sub.ent ?_
      refine S.dr_take 16 [17, 18, 19] rfl (by kernel_rfl) rfl rfl rfl (q_indexO (a) Tryd.el31 rfl hsa rfl rfl (by omega)) Sub.ent ?_
      refine S.dr_1 (i := 17) (by kernel_rfl) rfl rfl ?_
      refine  (S.storeOw (s) (a) Tryd.at68 rfl rfl rfl hsa (by first | rfl | exact Nat.add_assoc _ _ _ | omega) (by rw [uA_len]; omega) (uA_set _ _ _) ?_)
      refine S.dr_late ([]) [] rfl ?_
      refine S.dr_take 18 [] rfl (by kernel_rfl) rfl rfl rfl (q_indexO (a + k) Tryd.el31 rfl hsa rfl (by omega) (by omega)) Sub.ent ?_
      refine S.dr_1 (i := 19) (by kernel_rfl) rfl rfl ?_
      refine  (S.storeOw (s) (a + k) Tryd.at68 rfl rfl rfl hsa (by first | rfl | exact Nat.add_assoc _ _ _ | omega) (by rw [uA_len, Array.size_setIfInBounds]; omega) (show _ = uA (Go.Sort.swp e (a) (a + k)) from uA_set _ _ _) ?_)
      refine S.dr_k rfl Sub.ent ?_
      first | with_reducible refine S.dr_doneK (by kernel_rfl) ?_ | refine S.dr_done (by kernel_rfl) ?_
      refine hK13 _ _ ?_
      refine S.region rfl ?_
      refine S.op (S.q (q_move rfl) rfl rfl ?_)
      refine S.op (S.q (q_move rfl) rfl rfl ?_)
      refine S.op (S.q (q_move rfl) rfl rfl ?_)
      refine S.op (S.q (q_move rfl) rfl rfl ?_)
      refine S.op (S.call Tryd.en134 (vs := [_, _, _, _]) ⟨rfl, rfl, rfl, rfl, trivial⟩ ((by rw [show z = (k : Int) by omega]; exact siftDown_S s (swp e a (a + k)) 0 k a (by rw [swpZ]; omega) (by omega) (by rw [swpZ]; omega) (by rw [swpZ]; omega))) rfl ?_)
      rintro v Θ rfl
      first | with_reducible refine S.nilK ?_ | refine S.nil ?_
      with_reducible repeat (first | refine S.then_n ?_ | refine S.then_x ?_ | refine S.then_r ?_ | refine S.inBlock_n ?_ | refine S.inBlock_r ?_ | refine S.inBlock_x rfl ?_ | refine S.noGoto_r ?_ | refine S.noGoto_n ?_ | refine S.noGoto_x ?_)
      refine hK12 _ _ ?_
      refine S.region rfl ?_
      refine S.op (S.q (q_move rfl) rfl rfl ?_)
      refine S.op (S.q (q_sub rfl rfl (inI64 (by omega) (by omega))) rfl rfl ?_)
      refine S.op (S.q (q_assign rfl) rfl rfl ?_)
      first | with_reducible refine S.nilK ?_ | refine S.nil ?_
      with_reducible repeat (first | refine S.then_n ?_ | refine S.then_x ?_ | refine S.then_r ?_ | refine S.inBlock_n ?_ | refine S.inBlock_r ?_ | refine S.inBlock_x rfl ?_ | refine S.noGoto_r ?_ | refine S.noGoto_n ?_ | refine S.noGoto_x ?_)
      exact S.next (k) (⟨k, z - 1, siftDown ltInt k a 0 (swp e a (a + k)), rfl, by omega, by omega, hsift _ _ _ _ (by rw [swpZ]; omega) (by omega) (by rw [swpZ, hes]), hhb, rfl, rfl⟩) (by omega) (by repeat (first | exact trivial | refine ⟨rfl, ?_⟩)) Sub.ent
    · refine S.exit ?_
      with_reducible repeat (first | refine S.then_n ?_ | refine S.then_x ?_ | refine S.then_r ?_ | refine S.inBlock_n ?_ | refine S.inBlock_r ?_ | refine S.inBlock_x rfl ?_ | refine S.noGoto_r ?_ | refine S.noGoto_n ?_ | refine S.noGoto_x ?_)
      with_reducible refine S.inBlock_s ?_
      with_reducible repeat (first | refine S.then_n ?_ | refine S.then_x ?_ | refine S.then_r ?_ | refine S.inBlock_n ?_ | refine S.inBlock_r ?_ | refine S.inBlock_x rfl ?_ | refine S.noGoto_r ?_ | refine S.noGoto_n ?_ | refine S.noGoto_x ?_)
      with_reducible repeat (first | refine S.then_n ?_ | refine S.then_x ?_ | refine S.then_r ?_ | refine S.inBlock_n ?_ | refine S.inBlock_r ?_ | refine S.inBlock_x rfl ?_ | refine S.noGoto_r ?_ | refine S.noGoto_n ?_ | refine S.noGoto_x ?_)
      exact S.finN (rs := []) (vs := []) Tryd.results122 (trivial)  (by have hk0 : k = 0 := (by omega); subst hk0; have hhb : e = heapSort ltInt d a b := hhb; rw [← hhb]) Sub.ent
end Go.Proofs.YtegjmmocnffpiaaDoor
/- slices.Sort at whole numbers of 32 bits: what chooses, what scatters, what is partly in order. -/
namespace Go.Proofs.YtegjmmocnffpiaaDoor
open Go.RowKit
open Go.Sort
set_option maxRecDepth 20000
theorem PermIn.sizeZ {a b : Nat} {d e : Array Int} (h : PermIn a b d e) : e.size = d.size := h.1
theorem PermIn.swpZ {a b i j : Nat} {d e : Array Int} (h : PermIn a b d e) (h1 : a ≤ i) (h2 : i < b) (h3 : a ≤ j) (h4 : j < b) (hb : b ≤ d.size) : PermIn a b d (swp e i j) :=
  permIn_trans _ _ _ _ _ h (swp_permIn e a b i j h1 h2 h3 h4 (by rw [h.1]; exact hb))
theorem reverse_S (s : SV) (d : Array Int) (a b : Nat) (hab : a < b) (hb : b ≤ d.size) (hsz : d.size ≤ 65535) (hsn : s.n = d.size) : Spec Tryd.prog 125 [s.v, .int .i64 (a : Int), .int .i64 (b : Int)] [own s 68 1 (uA d)] fun Γ _ Θ => ∃ e, PermIn a b d e ∧ Θ = own s 68 1 (uA e) :: Γ := by
  refine Spec.of_body Tryd.func125 rfl Tryd.ntmps125 rfl ?_
  intro w0 Γ
  show S _ w0 [(0, s.v), (1, .int .i64 (a : Int)), (2, .int .i64 (b : Int))] (own s 68 1 (uA d) :: Γ) _
  refine S.ownSome s (by omega) fun sb so hsa _ _ _ => ?_
  refine S.seq fun K1 hK1 => ?_
  refine S.region rfl ?_
  refine S.op (S.q (q_move rfl) rfl rfl ?_)
  refine S.op (S.q (q_assign rfl) rfl rfl ?_)
  first | with_reducible refine S.nilK ?_ | refine S.nil ?_
  refine hK1 _ _ ?_
  refine S.seq fun K2 hK2 => ?_
  refine S.region rfl ?_
  refine S.op (S.q (q_move rfl) rfl rfl ?_)
  refine S.op (S.q (q_sub rfl rfl (inI64 (by omega) (by omega))) rfl rfl ?_)
  refine S.op (S.q (q_assign rfl) rfl rfl ?_)
  first | with_reducible refine S.nilK ?_ | refine S.nil ?_
  refine hK2 _ _ ?_
  refine S.block ?_
  refine S.loop (fun q ρ' Γ' => ∃ (i j : Nat) (zi zj : Int) (e : Array Int), q = j - i ∧ zi = i ∧ zj = j ∧ a ≤ i ∧ i ≤ b ∧ j < b ∧ e.size = d.size ∧ PermIn a b d e ∧ ρ' = [(0, s.v), (6, .int .i64 zi), (7, .int .i64 zj)] ∧ Γ' = own s 68 1 (uA e) :: Γ) (m := _) (ρ0 := _) (Γ0 := _) (⟨a, b - 1, a, (b : Int) - 1, d, rfl, rfl, by omega, by omega, by omega, by omega, rfl, permIn_refl _ _ _, rfl, rfl⟩) (by repeat (first | exact trivial | refine ⟨rfl, ?_⟩)) Sub.ent ?_
  rintro q ρ' Γ' ⟨i, j, zi, zj, e, hq, hzi, hzj, hai, hib, hjb, hes, hpe, rfl, rfl⟩
  refine S.seq fun K3 hK3 => ?_
  refine S.seq fun K4 hK4 => ?_
  refine S.region rfl ?_
  refine S.op (S.q (q_move rfl) rfl rfl ?_)
  refine S.op (S.q (q_move rfl) rfl rfl ?_)
  refine S.op (S.q (q_lt rfl rfl) rfl rfl ?_)
  first | with_reducible refine S.nilK ?_ | refine S.nil ?_
  refine hK4 _ _ ?_
  refine S.condD rfl (fun h1 => ?_) (fun h1 => ?_)
  · refine S.skip ?_
    with_reducible repeat (first | refine S.then_n ?_ | refine S.then_x ?_ | refine S.then_r ?_ | refine S.inBlock_n ?_ | refine S.inBlock_r ?_ | refine S.inBlock_x rfl ?_ | refine S.noGoto_r ?_ | refine S.noGoto_n ?_ | refine S.noGoto_x ?_)
    refine hK3 _ _ ?_
    refine S.block ?_
    refine S.seq fun K5 hK5 => ?_
    refine S.draw ([own s 68 1 (uA e)]) [13] Tryd.mixed ?_
    refine S.dr_take 0 [12, 13, 14, 15] rfl (by kernel_rfl) rfl rfl rfl (q_move rfl) Sub.ent ?_
    refine S.dr_take 1 [12, 13, 14, 15] rfl (by kernel_rfl) rfl rfl rfl (q_move rfl) Sub.ent ?_
    refine S.dr_takeP 2 rfl (by kernel_rfl) rfl rfl rfl (q_move rfl) Sub.ent ?_
    refine S.dr_takeP 3 rfl (by kernel_rfl) rfl rfl rfl (q_move rfl) Sub.ent ?_
    refine S.dr_take 4 [6, 7, 12, 13, 14, 15] rfl (by kernel_rfl) rfl rfl rfl (q_move rfl) Sub.ent ?_
    refine S.dr_take 5 [6, 7, 12, 13, 14, 15] rfl (by kernel_rfl) rfl rfl rfl (q_move rfl) Sub.ent ?_
    refine S.dr_take 6 [7, 12, 13, 14, 15] rfl (by kernel_rfl) rfl rfl rfl (q_indexO (j) Tryd.el31 rfl hsa rfl hzj (by omega)) Sub.ent ?_
    refine S.dr_take 7 [12, 13, 14, 15] rfl (by kernel_rfl) rfl rfl rfl (q_loadOw (s) (j) Tryd.at68 rfl hsa (by first | rfl | exact Nat.add_assoc _ _ _ | omega) (uA_get (by omega))) Sub.ent ?_
    refine S.dr_take 8 [10, 11, 12, 13, 14, 15] rfl (by kernel_rfl) rfl rfl rfl (q_move rfl) Sub.ent ?_
    refine S.dr_take 9 [10, 11, 12, 13, 14, 15] rfl (by kernel_rfl) rfl rfl rfl (q_move rfl) Sub.ent ?_
    refine S.dr_take 10 [11, 12, 13, 14, 15] rfl (by kernel_rfl) rfl rfl rfl (q_indexO (i) Tryd.el31 rfl hsa rfl hzi (by omega)) Sub.ent ?_
    refine S.dr_take 11 [12, 13, 14, 15] rfl (by kernel_rfl) rfl rfl rfl (q_loadOw (s) (i) Tryd.at68 rfl hsa (by first | rfl | exact Nat.add_assoc _ _ _ | omega) (uA_get (by omega))) Sub.ent ?_
    refine S.dr_take 12 [13, 14, 15] rfl (by kernel_rfl) rfl rfl rfl (q_indexO (i) Tryd.el31 rfl hsa rfl hzi (by omega)) Sub.ent ?_
    refine S.dr_1 (i := 13) (by kernel_rfl) rfl rfl ?_
    refine  (S.storeOw (s) (i) Tryd.at68 rfl rfl rfl hsa (by first | rfl | exact Nat.add_assoc _ _ _ | omega) (by rw [uA_len]; omega) (uA_set _ _ _) ?_)
    refine S.dr_late ([]) [] rfl ?_
    refine S.dr_take 14 [] rfl (by kernel_rfl) rfl rfl rfl (q_indexO (j) Tryd.el31 rfl hsa rfl hzj (by omega)) Sub.ent ?_
    refine S.dr_1 (i := 15) (by kernel_rfl) rfl rfl ?_
    refine  (S.storeOw (s) (j) Tryd.at68 rfl rfl rfl hsa (by first | rfl | exact Nat.add_assoc _ _ _ | omega) (by rw [uA_len, Array.size_setIfInBounds]; omega) (show _ = uA (Go.Sort.swp e (i) (j)) from uA_set _ _ _) ?_)
    refine S.dr_k rfl Sub.ent ?_
    first | with_reducible refine S.dr_doneK (by kernel_rfl) ?_ | refine S.dr_done (by kernel_rfl) ?_
    refine hK5 _ _ ?_
    refine S.seq fun K6 hK6 => ?_
    refine S.region rfl ?_
    refine S.op (S.q (q_move rfl) rfl rfl ?_)
    refine S.op (S.q (q_add rfl rfl (inI64 (by omega) (by omega))) rfl rfl ?_)
    refine S.op (S.q (q_assign rfl) rfl rfl ?_)
    first | with_reducible refine S.nilK ?_ | refine S.nil ?_
    refine hK6 _ _ ?_
    refine S.region rfl ?_
    refine S.op (S.q (q_move rfl) rfl rfl ?_)
    refine S.op (S.q (q_sub rfl rfl (inI64 (by omega) (by omega))) rfl rfl ?_)
    refine S.op (S.q (q_assign rfl) rfl rfl ?_)
    first | with_reducible refine S.nilK ?_ | refine S.nil ?_
    with_reducible repeat (first | refine S.then_n ?_ | refine S.then_x ?_ | refine S.then_r ?_ | refine S.inBlock_n ?_ | refine S.inBlock_r ?_ | refine S.inBlock_x rfl ?_ | refine S.noGoto_r ?_ | refine S.noGoto_n ?_ | refine S.noGoto_x ?_)
    with_reducible repeat (first | refine S.then_n ?_ | refine S.then_x ?_ | refine S.then_r ?_ | refine S.inBlock_n ?_ | refine S.inBlock_r ?_ | refine S.inBlock_x rfl ?_ | refine S.noGoto_r ?_ | refine S.noGoto_n ?_ | refine S.noGoto_x ?_)
    exact S.next (q - 1 - 1) (⟨i + 1, j - 1, zi + 1, zj - 1, swp e i j, by omega, by omega, by omega, by omega, by omega, by omega, by rw [swpZ, hes], PermIn.swpZ (a := a) (b := b) (d := d) (e := e) hpe (by omega) (by omega) (by omega) (by omega) hb, rfl, rfl⟩) (by omega) (by repeat (first | exact trivial | refine ⟨rfl, ?_⟩)) Sub.ent
  · refine S.exit ?_
    with_reducible repeat (first | refine S.then_n ?_ | refine S.then_x ?_ | refine S.then_r ?_ | refine S.inBlock_n ?_ | refine S.inBlock_r ?_ | refine S.inBlock_x rfl ?_ | refine S.noGoto_r ?_ | refine S.noGoto_n ?_ | refine S.noGoto_x ?_)
    with_reducible refine S.inBlock_s ?_
    with_reducible repeat (first | refine S.then_n ?_ | refine S.then_x ?_ | refine S.then_r ?_ | refine S.inBlock_n ?_ | refine S.inBlock_r ?_ | refine S.inBlock_x rfl ?_ | refine S.noGoto_r ?_ | refine S.noGoto_n ?_ | refine S.noGoto_x ?_)
    with_reducible repeat (first | refine S.then_n ?_ | refine S.then_x ?_ | refine S.then_r ?_ | refine S.inBlock_n ?_ | refine S.inBlock_r ?_ | refine S.inBlock_x rfl ?_ | refine S.noGoto_r ?_ | refine S.noGoto_n ?_ | refine S.noGoto_x ?_)
    exact S.finN (rs := []) (vs := []) Tryd.results125 (trivial)  (⟨e, hpe, rfl⟩) Sub.ent
theorem order2_S (s : SV) (d : Array Int) (x y p : Nat) (k K : Int) (hx : x < d.size) (hy : y < d.size) (hk : 0 ≤ k ∧ k ≤ K) (hK : K ≤ 1000) (hsn : s.n = d.size) : Spec Tryd.prog 138 [s.v, .int .i64 (x : Int), .int .i64 (y : Int), .pointer (some ⟨p, 0, none⟩)] [own s 68 1 (uA d), blk p 3 #[.int .i64 k]] fun Γ v Θ =>
    ∃ (u v' : Nat) (k' : Int), (u = x ∧ v' = y ∨ u = y ∧ v' = x) ∧ (0 ≤ k' ∧ k' ≤ K + 1) ∧ v = .tuple #[.int .i64 (u : Int), .int .i64 (v' : Int)] ∧ Θ = own s 68 1 (uA d) :: blk p 3 #[.int .i64 k'] :: Γ := by
  refine Spec.of_body Tryd.func138 rfl Tryd.ntmps138 rfl ?_
  intro w0 Γ
  show S _ w0 [(0, s.v), (1, .int .i64 (x : Int)), (2, .int .i64 (y : Int)), (3, .pointer (some ⟨p, 0, none⟩))] (own s 68 1 (uA d) :: blk p 3 #[.int .i64 k] :: Γ) _
  refine S.ownSome s (by omega) fun sb so hsa _ _ _ => ?_
  refine S.seq fun K1 hK1 => ?_
  refine S.region rfl ?_
  refine S.op (S.q (q_assign rfl) rfl rfl ?_)
  refine S.op (S.q (q_assign rfl) rfl rfl ?_)
  first | with_reducible refine S.nilK ?_ | refine S.nil ?_
  refine hK1 _ _ ?_
  refine S.seq fun K2 hK2 => ?_
  refine S.seq fun K3 hK3 => ?_
  refine S.draw ([own s 68 1 (uA d), blk p 3 #[.int .i64 k]]) [] Tryd.mixed ?_
  refine S.dr_take 0 [] rfl (by kernel_rfl) rfl rfl rfl (q_move rfl) Sub.ent ?_
  refine S.dr_take 1 [] rfl (by kernel_rfl) rfl rfl rfl (q_move rfl) Sub.ent ?_
  refine S.dr_take 2 [] rfl (by kernel_rfl) rfl rfl rfl (q_indexO (y) Tryd.el31 rfl hsa rfl rfl (by omega)) Sub.ent ?_
  refine S.dr_take 3 [] rfl (by kernel_rfl) rfl rfl rfl (q_loadOw (s) (y) Tryd.at68 rfl hsa (by first | rfl | exact Nat.add_assoc _ _ _ | omega) (uA_get hy)) Sub.ent ?_
  refine S.dr_take 4 [] rfl (by kernel_rfl) rfl rfl rfl (q_move rfl) Sub.ent ?_
  refine S.dr_take 5 [] rfl (by kernel_rfl) rfl rfl rfl (q_move rfl) Sub.ent ?_
  refine S.dr_take 6 [] rfl (by kernel_rfl) rfl rfl rfl (q_indexO (x) Tryd.el31 rfl hsa rfl rfl (by omega)) Sub.ent ?_
  refine S.dr_take 7 [] rfl (by kernel_rfl) rfl rfl rfl (q_loadOw (s) (x) Tryd.at68 rfl hsa (by first | rfl | exact Nat.add_assoc _ _ _ | omega) (uA_get hx)) Sub.ent ?_
  refine S.dr_1 (i := 8) (by kernel_rfl) rfl rfl ?_
  refine  (S.call Tryd.en127 (vs := [_, _]) ⟨rfl, rfl, trivial⟩ (Less_S (d[y]!) (d[x]!)) rfl ?_)
  rintro v Θ ⟨rfl, rfl⟩
  refine S.dr_k rfl Sub.ent ?_
  first | with_reducible refine S.dr_doneK (by kernel_rfl) ?_ | refine S.dr_done (by kernel_rfl) ?_
  refine hK3 _ _ ?_
  refine S.cond rfl (fun h1 => ?_) (fun h1 => ?_)
  · refine S.seq fun K4 hK4 => ?_
    refine S.region rfl ?_
    refine S.op (S.q (q_move rfl) rfl rfl ?_)
    refine S.op (S.q (q_nilCheck rfl) rfl rfl ?_)
    refine S.op (S.q (q_load Tryd.at3 rfl rfl) rfl rfl ?_)
    refine S.op (S.q (q_add rfl rfl (inI64 (by omega) (by omega))) rfl rfl ?_)
    refine S.op (S.q (q_nilCheck rfl) rfl rfl ?_)
    refine S.op (S.store (cs' := [_]) Tryd.at3 rfl rfl rfl rfl rfl ?_)
    first | with_reducible refine S.nilK ?_ | refine S.nil ?_
    refine hK4 _ _ ?_
    refine S.seq fun K5 hK5 => ?_
    refine S.region rfl ?_
    refine S.op (S.q (q_move rfl) rfl rfl ?_)
    refine S.op (S.q (q_move rfl) rfl rfl ?_)
    refine S.op (S.q (q_assign rfl) rfl rfl ?_)
    refine S.op (S.q (q_assign rfl) rfl rfl ?_)
    first | with_reducible refine S.nilK ?_ | refine S.nil ?_
    refine hK5 _ _ ?_
    refine S.ret ?_
    with_reducible repeat (first | refine S.then_n ?_ | refine S.then_x ?_ | refine S.then_r ?_ | refine S.inBlock_n ?_ | refine S.inBlock_r ?_ | refine S.inBlock_x rfl ?_ | refine S.noGoto_r ?_ | refine S.noGoto_n ?_ | refine S.noGoto_x ?_)
    exact S.fin (rs := [_, _]) (vs := [_, _]) Tryd.results138 (⟨rfl, rfl, trivial⟩)  (⟨y, x, k + 1, .inr ⟨rfl, rfl⟩, by omega, rfl, rfl⟩) Sub.ent
  · refine S.skip ?_
    with_reducible repeat (first | refine S.then_n ?_ | refine S.then_x ?_ | refine S.then_r ?_ | refine S.inBlock_n ?_ | refine S.inBlock_r ?_ | refine S.inBlock_x rfl ?_ | refine S.noGoto_r ?_ | refine S.noGoto_n ?_ | refine S.noGoto_x ?_)
    refine hK2 _ _ ?_
    refine S.seq fun K6 hK6 => ?_
    refine S.region rfl ?_
    refine S.op (S.q (q_move rfl) rfl rfl ?_)
    refine S.op (S.q (q_move rfl) rfl rfl ?_)
    refine S.op (S.q (q_assign rfl) rfl rfl ?_)
    refine S.op (S.q (q_assign rfl) rfl rfl ?_)
    first | with_reducible refine S.nilK ?_ | refine S.nil ?_
    refine hK6 _ _ ?_
    refine S.ret ?_
    with_reducible repeat (first | refine S.then_n ?_ | refine S.then_x ?_ | refine S.then_r ?_ | refine S.inBlock_n ?_ | refine S.inBlock_r ?_ | refine S.inBlock_x rfl ?_ | refine S.noGoto_r ?_ | refine S.noGoto_n ?_ | refine S.noGoto_x ?_)
    exact S.fin (rs := [_, _]) (vs := [_, _]) Tryd.results138 (⟨rfl, rfl, trivial⟩)  (⟨x, y, k, .inl ⟨rfl, rfl⟩, by omega, rfl, rfl⟩) Sub.ent
theorem median_S (s : SV) (d : Array Int) (x y z p : Nat) (k K : Int) (hx : x < d.size) (hy : y < d.size) (hz : z < d.size) (hk : 0 ≤ k ∧ k ≤ K) (hK : K ≤ 900) (hsn : s.n = d.size) : Spec Tryd.prog 136 [s.v, .int .i64 (x : Int), .int .i64 (y : Int), .int .i64 (z : Int), .pointer (some ⟨p, 0, none⟩)] [own s 68 1 (uA d), blk p 3 #[.int .i64 k]] fun Γ v Θ =>
    ∃ (u : Nat) (k' : Int), (u = x ∨ u = y ∨ u = z) ∧ (0 ≤ k' ∧ k' ≤ K + 3) ∧ v = .int .i64 (u : Int) ∧ Θ = own s 68 1 (uA d) :: blk p 3 #[.int .i64 k'] :: Γ := by
  refine Spec.of_body Tryd.func136 rfl Tryd.ntmps136 rfl ?_
  intro w0 Γ
  show S _ w0 [(0, s.v), (1, .int .i64 (x : Int)), (2, .int .i64 (y : Int)), (3, .int .i64 (z : Int)), (4, .pointer (some ⟨p, 0, none⟩))] (own s 68 1 (uA d) :: blk p 3 #[.int .i64 k] :: Γ) _
  refine S.seq fun K1 hK1 => ?_
  refine S.region rfl ?_
  refine S.op (S.q (q_assign rfl) rfl rfl ?_)
  first | with_reducible refine S.nilK ?_ | refine S.nil ?_
  refine hK1 _ _ ?_
  refine S.seq fun K2 hK2 => ?_
  refine S.region rfl ?_
  refine S.op (S.q (q_move rfl) rfl rfl ?_)
  refine S.op (S.q (q_move rfl) rfl rfl ?_)
  refine S.op (S.q (q_move rfl) rfl rfl ?_)
  refine S.op (S.q (q_move rfl) rfl rfl ?_)
  refine S.op (S.call Tryd.en138 (vs := [_, _, _, _]) ⟨rfl, rfl, rfl, rfl, trivial⟩ (order2_S s d x y p k K hx hy hk (by omega) hsn) rfl ?_)
  rintro v Θ ⟨x1, y1, k1, h1, hk1, rfl, rfl⟩
  refine S.op (S.q (q_move rfl) rfl rfl ?_)
  refine S.op (S.q (q_extract rfl rfl) rfl rfl ?_)
  refine S.op (S.q (q_extract rfl rfl) rfl rfl ?_)
  refine S.op (S.q (q_assign rfl) rfl rfl ?_)
  refine S.op (S.q (q_assign rfl) rfl rfl ?_)
  first | with_reducible refine S.nilK ?_ | refine S.nil ?_
  refine hK2 _ _ ?_
  refine S.seq fun K3 hK3 => ?_
  refine S.region rfl ?_
  refine S.op (S.q (q_move rfl) rfl rfl ?_)
  refine S.op (S.q (q_move rfl) rfl rfl ?_)
  refine S.op (S.q (q_move rfl) rfl rfl ?_)
  refine S.op (S.q (q_move rfl) rfl rfl ?_)
  refine S.op (S.call Tryd.en138 (vs := [_, _, _, _]) ⟨rfl, rfl, rfl, rfl, trivial⟩ (order2_S s d y1 z p k1 (K + 1) (by omega) hz hk1 (by omega) hsn) rfl ?_)
  rintro v Θ ⟨y2, z2, k2, h2, hk2, rfl, rfl⟩
  refine S.op (S.q (q_move rfl) rfl rfl ?_)
  refine S.op (S.q (q_extract rfl rfl) rfl rfl ?_)
  refine S.op (S.q (q_extract rfl rfl) rfl rfl ?_)
  refine S.op (S.q (q_assign rfl) rfl rfl ?_)
  refine S.op (S.q (q_assign rfl) rfl rfl ?_)
  first | with_reducible refine S.nilK ?_ | refine S.nil ?_
  refine hK3 _ _ ?_
  refine S.seq fun K4 hK4 => ?_
  refine S.region rfl ?_
  refine S.op (S.q (q_move rfl) rfl rfl ?_)
  refine S.op (S.q (q_move rfl) rfl rfl ?_)
  refine S.op (S.q (q_move rfl) rfl rfl ?_)
  refine S.op (S.q (q_move rfl) rfl rfl ?_)
  refine S.op (S.call Tryd.en138 (vs := [_, _, _, _]) ⟨rfl, rfl, rfl, rfl, trivial⟩ (order2_S s d x1 y2 p k2 (K + 1 + 1) (by omega) (by omega) hk2 (by omega) hsn) rfl ?_)
  rintro v Θ ⟨x3, y3, k3, h3, hk3, rfl, rfl⟩
  refine S.op (S.q (q_move rfl) rfl rfl ?_)
  refine S.op (S.q (q_extract rfl rfl) rfl rfl ?_)
  refine S.op (S.q (q_extract rfl rfl) rfl rfl ?_)
  refine S.op (S.q (q_assign rfl) rfl rfl ?_)
  refine S.op (S.q (q_assign rfl) rfl rfl ?_)
  first | with_reducible refine S.nilK ?_ | refine S.nil ?_
  refine hK4 _ _ ?_
  refine S.seq fun K5 hK5 => ?_
  refine S.region rfl ?_
  refine S.op (S.q (q_move rfl) rfl rfl ?_)
  refine S.op (S.q (q_assign rfl) rfl rfl ?_)
  first | with_reducible refine S.nilK ?_ | refine S.nil ?_
  refine hK5 _ _ ?_
  refine S.ret ?_
  with_reducible repeat (first | refine S.then_n ?_ | refine S.then_x ?_ | refine S.then_r ?_ | refine S.inBlock_n ?_ | refine S.inBlock_r ?_ | refine S.inBlock_x rfl ?_ | refine S.noGoto_r ?_ | refine S.noGoto_n ?_ | refine S.noGoto_x ?_)
  exact S.fin (rs := [_]) (vs := [_]) Tryd.results136 (⟨rfl, trivial⟩)  (⟨y3, k3, by omega, by omega, rfl, rfl⟩) Sub.ent
theorem medianAdj_S (s : SV) (d : Array Int) (x p : Nat) (k K : Int) (hx0 : 0 < x) (hx : x + 1 < d.size) (hsz : d.size ≤ 65535) (hk : 0 ≤ k ∧ k ≤ K) (hK : K ≤ 900) (hsn : s.n = d.size) : Spec Tryd.prog 135 [s.v, .int .i64 (x : Int), .pointer (some ⟨p, 0, none⟩)] [own s 68 1 (uA d), blk p 3 #[.int .i64 k]] fun Γ v Θ =>
    ∃ (u : Nat) (k' : Int), (x ≤ u + 1 ∧ u ≤ x + 1) ∧ (0 ≤ k' ∧ k' ≤ K + 3) ∧ v = .int .i64 (u : Int) ∧ Θ = own s 68 1 (uA d) :: blk p 3 #[.int .i64 k'] :: Γ := by
  refine Spec.of_body Tryd.func135 rfl Tryd.ntmps135 rfl ?_
  intro w0 Γ
  show S _ w0 [(0, s.v), (1, .int .i64 (x : Int)), (2, .pointer (some ⟨p, 0, none⟩))] (own s 68 1 (uA d) :: blk p 3 #[.int .i64 k] :: Γ) _
  refine S.seq fun K1 hK1 => ?_
  refine S.region rfl ?_
  refine S.op (S.q (q_assign rfl) rfl rfl ?_)
  first | with_reducible refine S.nilK ?_ | refine S.nil ?_
  refine hK1 _ _ ?_
  refine S.seq fun K2 hK2 => ?_
  refine S.region rfl ?_
  refine S.op (S.q (q_move rfl) rfl rfl ?_)
  refine S.op (S.q (q_move rfl) rfl rfl ?_)
  refine S.op (S.q (q_sub rfl rfl (inI64 (by omega) (by omega))) rfl rfl ?_)
  refine S.op (S.q (q_move rfl) rfl rfl ?_)
  refine S.op (S.q (q_move rfl) rfl rfl ?_)
  refine S.op (S.q (q_add rfl rfl (inI64 (by omega) (by omega))) rfl rfl ?_)
  refine S.op (S.q (q_move rfl) rfl rfl ?_)
  refine S.op (S.call Tryd.en136 (vs := [_, _, _, _, _]) ⟨rfl, rfl, rfl, rfl, rfl, trivial⟩ ((by rw [show ((x : Int) - 1) = ((x - 1 : Nat) : Int) by omega]; exact median_S s d (x - 1) x (x + 1) p k K (by omega) (by omega) hx hk hK hsn)) rfl ?_)
  rintro v Θ ⟨u, k', hu, hk', rfl, rfl⟩
  refine S.op (S.q (q_assign rfl) rfl rfl ?_)
  first | with_reducible refine S.nilK ?_ | refine S.nil ?_
  refine hK2 _ _ ?_
  refine S.ret ?_
  with_reducible repeat (first | refine S.then_n ?_ | refine S.then_x ?_ | refine S.then_r ?_ | refine S.inBlock_n ?_ | refine S.inBlock_r ?_ | refine S.inBlock_x rfl ?_ | refine S.noGoto_r ?_ | refine S.noGoto_n ?_ | refine S.noGoto_x ?_)
  exact S.fin (rs := [_]) (vs := [_]) Tryd.results135 (⟨rfl, trivial⟩)  (⟨u, k', by omega, hk', rfl, rfl⟩) Sub.ent
theorem choose_S (s : SV) (d : Array Int) (a b : Nat) (hab : a + 12 < b) (hb : b ≤ d.size) (hsz : d.size ≤ 65535) (hsn : s.n = d.size) : Spec Tryd.prog 124 [s.v, .int .i64 (a : Int), .int .i64 (b : Int)] [own s 68 1 (uA d)] fun Γ v Θ =>
    ∃ (u : Nat) (h : Int), (a ≤ u ∧ u < b) ∧ v = .tuple #[.int .i64 (u : Int), .int .i64 h] ∧ Θ = own s 68 1 (uA d) :: Γ := by
  refine Spec.of_body Tryd.func124 rfl Tryd.ntmps124 rfl ?_
  intro w0 Γ
  show S _ w0 [(0, s.v), (1, .int .i64 (a : Int)), (2, .int .i64 (b : Int))] (own s 68 1 (uA d) :: Γ) _
  obtain ⟨i, hi⟩ : ∃ i : Nat, (i : Int) = a + (b - a) / 4 * 1 := ⟨a + (b - a) / 4 * 1, by omega⟩
  obtain ⟨j, hj⟩ : ∃ j : Nat, (j : Int) = a + (b - a) / 4 * 2 := ⟨a + (b - a) / 4 * 2, by omega⟩
  obtain ⟨l, hl⟩ : ∃ l : Nat, (l : Int) = a + (b - a) / 4 * 3 := ⟨a + (b - a) / 4 * 3, by omega⟩
  refine S.seq fun K1 hK1 => ?_
  refine S.region rfl ?_
  refine S.op (S.q (q_assign rfl) rfl rfl ?_)
  refine S.op (S.q (q_assign rfl) rfl rfl ?_)
  first | with_reducible refine S.nilK ?_ | refine S.nil ?_
  refine hK1 _ _ ?_
  refine S.seq fun K2 hK2 => ?_
  refine S.region rfl ?_
  refine S.op (S.q (q_move rfl) rfl rfl ?_)
  refine S.op (S.q (q_move rfl) rfl rfl ?_)
  refine S.op (S.q (q_sub rfl rfl (inI64 (by omega) (by omega))) rfl rfl ?_)
  refine S.op (S.q (q_assign rfl) rfl rfl ?_)
  first | with_reducible refine S.nilK ?_ | refine S.nil ?_
  refine hK2 _ _ ?_
  refine S.seq fun K3 hK3 => ?_
  refine S.region rfl ?_
  refine S.op (S.alloc Tryd.z3 rfl ?_)
  intro b9
  first | with_reducible refine S.nilK ?_ | refine S.nil ?_
  refine hK3 _ _ ?_
  refine S.seq fun K4 hK4 => ?_
  refine S.region rfl ?_
  refine S.op (S.q (q_move rfl) rfl rfl ?_)
  refine S.op (S.q (q_move rfl) rfl rfl ?_)
  refine S.op (S.q (q_quo rfl rfl (⟨by omega, by omega⟩) (inI64 (by omega) (by omega))) rfl rfl ?_)
  refine S.op (S.q (q_mul rfl rfl (inI64 (by omega) (by omega))) rfl rfl ?_)
  refine S.op (S.q (q_add rfl rfl (inI64 (by omega) (by omega))) rfl rfl ?_)
  refine S.op (S.q (q_assign rfl) rfl rfl ?_)
  first | with_reducible refine S.nilK ?_ | refine S.nil ?_
  refine hK4 _ _ ?_
  refine S.seq fun K5 hK5 => ?_
  refine S.region rfl ?_
  refine S.op (S.q (q_move rfl) rfl rfl ?_)
  refine S.op (S.q (q_move rfl) rfl rfl ?_)
  refine S.op (S.q (q_quo rfl rfl (⟨by omega, by omega⟩) (inI64 (by omega) (by omega))) rfl rfl ?_)
  refine S.op (S.q (q_mul rfl rfl (inI64 (by omega) (by omega))) rfl rfl ?_)
  refine S.op (S.q (q_add rfl rfl (inI64 (by omega) (by omega))) rfl rfl ?_)
  refine S.op (S.q (q_assign rfl) rfl rfl ?_)
  first | with_reducible refine S.nilK ?_ | refine S.nil ?_
  refine hK5 _ _ ?_
  refine S.seq fun K6 hK6 => ?_
  refine S.region rfl ?_
  refine S.op (S.q (q_move rfl) rfl rfl ?_)
  refine S.op (S.q (q_move rfl) rfl rfl ?_)
  refine S.op (S.q (q_quo rfl rfl (⟨by omega, by omega⟩) (inI64 (by omega) (by omega))) rfl rfl ?_)
  refine S.op (S.q (q_mul rfl rfl (inI64 (by omega) (by omega))) rfl rfl ?_)
  refine S.op (S.q (q_add rfl rfl (inI64 (by omega) (by omega))) rfl rfl ?_)
  refine S.op (S.q (q_assign rfl) rfl rfl ?_)
  first | with_reducible refine S.nilK ?_ | refine S.nil ?_
  refine hK6 _ _ ?_
  refine S.seq fun K7 hK7 => ?_
  refine S.seq fun K8 hK8 => ?_
  refine S.region rfl ?_
  rw [← hi, ← hj, ← hl]
  refine S.op (S.q (q_move rfl) rfl rfl ?_)
  refine S.op (S.q (q_ge rfl rfl) rfl rfl ?_)
  first | with_reducible refine S.nilK ?_ | refine S.nil ?_
  refine hK8 _ _ ?_
  refine S.condD rfl (fun h1 => ?_) (fun h1 => ?_)
  · refine S.seq fun K9 hK9 => ?_
    refine S.seq fun K10 hK10 => ?_
    refine S.region rfl ?_
    refine S.op (S.q (q_move rfl) rfl rfl ?_)
    refine S.op (S.q (q_ge rfl rfl) rfl rfl ?_)
    first | with_reducible refine S.nilK ?_ | refine S.nil ?_
    refine hK10 _ _ ?_
    refine S.cut (fun ρ' Γ' => ∃ (i2 j2 l2 : Nat) (k3 : Int), (a ≤ i2 ∧ i2 < b) ∧ (a ≤ j2 ∧ j2 < b) ∧ (a ≤ l2 ∧ l2 < b) ∧ (0 ≤ k3 ∧ k3 ≤ 9) ∧ ρ' = [(0, s.v), (9, .pointer (some ⟨b9, 0, none⟩)), (10, .int .i64 (i2 : Int)), (11, .int .i64 (j2 : Int)), (12, .int .i64 (l2 : Int))] ∧ Γ' = own s 68 1 (uA d) :: blk b9 3 #[.int .i64 k3] :: Γ) ?_ ?_
    · refine S.condD rfl (fun h2 => ?_) (fun h2 => ?_)
      · refine S.seq fun K11 hK11 => ?_
        refine S.region rfl ?_
        refine S.op (S.q (q_move rfl) rfl rfl ?_)
        refine S.op (S.q (q_move rfl) rfl rfl ?_)
        refine S.op (S.call Tryd.en135 (vs := [_, _, _]) ⟨rfl, rfl, rfl, trivial⟩ (medianAdj_S s d i b9 0 0 (by omega) (by omega) hsz (by omega) (by omega) hsn) rfl ?_)
        rintro v Θ ⟨i2, k1, hi2, hk1, rfl, rfl⟩
        refine S.op (S.q (q_assign rfl) rfl rfl ?_)
        first | with_reducible refine S.nilK ?_ | refine S.nil ?_
        refine hK11 _ _ ?_
        refine S.seq fun K12 hK12 => ?_
        refine S.region rfl ?_
        refine S.op (S.q (q_move rfl) rfl rfl ?_)
        refine S.op (S.q (q_move rfl) rfl rfl ?_)
        refine S.op (S.call Tryd.en135 (vs := [_, _, _]) ⟨rfl, rfl, rfl, trivial⟩ (medianAdj_S s d j b9 k1 (0 + 3) (by omega) (by omega) hsz hk1 (by omega) hsn) rfl ?_)
        rintro v Θ ⟨j2, k2, hj2, hk2, rfl, rfl⟩
        refine S.op (S.q (q_assign rfl) rfl rfl ?_)
        first | with_reducible refine S.nilK ?_ | refine S.nil ?_
        refine hK12 _ _ ?_
        refine S.region rfl ?_
        refine S.op (S.q (q_move rfl) rfl rfl ?_)
        refine S.op (S.q (q_move rfl) rfl rfl ?_)
        refine S.op (S.call Tryd.en135 (vs := [_, _, _]) ⟨rfl, rfl, rfl, trivial⟩ (medianAdj_S s d l b9 k2 (0 + 3 + 3) (by omega) (by omega) hsz hk2 (by omega) hsn) rfl ?_)
        rintro v Θ ⟨l2, k3, hl2, hk3, rfl, rfl⟩
        refine S.op (S.q (q_assign rfl) rfl rfl ?_)
        first | with_reducible refine S.nilK ?_ | refine S.nil ?_
        with_reducible repeat (first | refine S.then_n ?_ | refine S.then_x ?_ | refine S.then_r ?_ | refine S.inBlock_n ?_ | refine S.inBlock_r ?_ | refine S.inBlock_x rfl ?_ | refine S.noGoto_r ?_ | refine S.noGoto_n ?_ | refine S.noGoto_x ?_)
        first | exact S.meet ⟨i2, j2, l2, k3, by omega, by omega, by omega, by omega, rfl, rfl⟩ ⟨rfl, rfl, rfl, rfl, rfl, trivial⟩ Sub.ent | exact S.meet ⟨i, j, l, 0, by omega, by omega, by omega, by omega, rfl, rfl⟩ ⟨rfl, rfl, rfl, rfl, rfl, trivial⟩ Sub.ent
      · refine S.skip ?_
        with_reducible repeat (first | refine S.then_n ?_ | refine S.then_x ?_ | refine S.then_r ?_ | refine S.inBlock_n ?_ | refine S.inBlock_r ?_ | refine S.inBlock_x rfl ?_ | refine S.noGoto_r ?_ | refine S.noGoto_n ?_ | refine S.noGoto_x ?_)
        with_reducible repeat (first | refine S.then_n ?_ | refine S.then_x ?_ | refine S.then_r ?_ | refine S.inBlock_n ?_ | refine S.inBlock_r ?_ | refine S.inBlock_x rfl ?_ | refine S.noGoto_r ?_ | refine S.noGoto_n ?_ | refine S.noGoto_x ?_)
        first | exact S.meet ⟨i2, j2, l2, k3, by omega, by omega, by omega, by omega, rfl, rfl⟩ ⟨rfl, rfl, rfl, rfl, rfl, trivial⟩ Sub.ent | exact S.meet ⟨i, j, l, 0, by omega, by omega, by omega, by omega, rfl, rfl⟩ ⟨rfl, rfl, rfl, rfl, rfl, trivial⟩ Sub.ent
    · rintro ρ' Γ' ⟨i2, j2, l2, k3, hi2, hj2, hl2, hk3, rfl, rfl⟩
      refine hK9 _ _ ?_
      refine S.region rfl ?_
      refine S.op (S.q (q_move rfl) rfl rfl ?_)
      refine S.op (S.q (q_move rfl) rfl rfl ?_)
      refine S.op (S.q (q_move rfl) rfl rfl ?_)
      refine S.op (S.q (q_move rfl) rfl rfl ?_)
      refine S.op (S.call Tryd.en136 (vs := [_, _, _, _, _]) ⟨rfl, rfl, rfl, rfl, rfl, trivial⟩ (median_S s d i2 j2 l2 b9 k3 9 (by omega) (by omega) (by omega) hk3 (by omega) hsn) rfl ?_)
      rintro v Θ ⟨u, k4, hu, hk4, rfl, rfl⟩
      refine S.op (S.q (q_assign rfl) rfl rfl ?_)
      first | with_reducible refine S.nilK ?_ | refine S.nil ?_
      refine hK7 _ _ ?_
      refine S.seq fun K13 hK13 => ?_
      refine S.region rfl ?_
      refine S.op (S.q (q_load Tryd.at3 rfl rfl) rfl rfl ?_)
      first | with_reducible refine S.nilK ?_ | refine S.nil ?_
      refine hK13 _ _ ?_
      refine S.block ?_
      refine S.seq fun K14 hK14 => ?_
      refine S.region rfl ?_
      refine S.op (S.q (q_eq rfl rfl) rfl rfl ?_)
      refine S.op (S.q (q_assign rfl) rfl rfl ?_)
      first | with_reducible refine S.nilK ?_ | refine S.nil ?_
      refine hK14 _ _ ?_
      refine S.condD rfl (fun h3 => ?_) (fun h3 => ?_)
      · refine S.seq fun K15 hK15 => ?_
        refine S.region rfl ?_
        refine S.op (S.q (q_move rfl) rfl rfl ?_)
        refine S.op (S.q (q_assign rfl) rfl rfl ?_)
        refine S.op (S.q (q_assign rfl) rfl rfl ?_)
        first | with_reducible refine S.nilK ?_ | refine S.nil ?_
        refine hK15 _ _ ?_
        refine S.ret ?_
        with_reducible repeat (first | refine S.then_n ?_ | refine S.then_x ?_ | refine S.then_r ?_ | refine S.inBlock_n ?_ | refine S.inBlock_r ?_ | refine S.inBlock_x rfl ?_ | refine S.noGoto_r ?_ | refine S.noGoto_n ?_ | refine S.noGoto_x ?_)
        exact S.fin (rs := [_, _]) (vs := [_, _]) Tryd.results124 (⟨rfl, rfl, trivial⟩)  (⟨u, 1, by omega, rfl, rfl⟩) Sub.ent
      · refine S.seq fun K16 hK16 => ?_
        refine S.region rfl ?_
        refine S.op (S.q (q_eq rfl rfl) rfl rfl ?_)
        refine S.op (S.q (q_assign rfl) rfl rfl ?_)
        first | with_reducible refine S.nilK ?_ | refine S.nil ?_
        refine hK16 _ _ ?_
        refine S.condD rfl (fun h4 => ?_) (fun h4 => ?_)
        · refine S.seq fun K17 hK17 => ?_
          refine S.region rfl ?_
          refine S.op (S.q (q_move rfl) rfl rfl ?_)
          refine S.op (S.q (q_assign rfl) rfl rfl ?_)
          refine S.op (S.q (q_assign rfl) rfl rfl ?_)
          first | with_reducible refine S.nilK ?_ | refine S.nil ?_
          refine hK17 _ _ ?_
          refine S.ret ?_
          with_reducible repeat (first | refine S.then_n ?_ | refine S.then_x ?_ | refine S.then_r ?_ | refine S.inBlock_n ?_ | refine S.inBlock_r ?_ | refine S.inBlock_x rfl ?_ | refine S.noGoto_r ?_ | refine S.noGoto_n ?_ | refine S.noGoto_x ?_)
          exact S.fin (rs := [_, _]) (vs := [_, _]) Tryd.results124 (⟨rfl, rfl, trivial⟩)  (⟨u, 2, by omega, rfl, rfl⟩) Sub.ent
        · refine S.seq fun K18 hK18 => ?_
          refine S.region rfl ?_
          refine S.op (S.q (q_move rfl) rfl rfl ?_)
          refine S.op (S.q (q_assign rfl) rfl rfl ?_)
          refine S.op (S.q (q_assign rfl) rfl rfl ?_)
          first | with_reducible refine S.nilK ?_ | refine S.nil ?_
          refine hK18 _ _ ?_
          refine S.ret ?_
          with_reducible repeat (first | refine S.then_n ?_ | refine S.then_x ?_ | refine S.then_r ?_ | refine S.inBlock_n ?_ | refine S.inBlock_r ?_ | refine S.inBlock_x rfl ?_ | refine S.noGoto_r ?_ | refine S.noGoto_n ?_ | refine S.noGoto_x ?_)
          exact S.fin (rs := [_, _]) (vs := [_, _]) Tryd.results124 (⟨rfl, rfl, trivial⟩)  (⟨u, 0, by omega, rfl, rfl⟩) Sub.ent
  · omega
/-! Whole numbers of 64 bits. -/
section
variable {P : Program} {n : Nat} {ρ : Env} {Γ : List Assn} {ty : TypeId} {pos : String} {af : Array Edge} {gd : Option (Nat × Bool)} {ds : Option Tmp}
theorem wrap64_rng (z : Int) : 0 ≤ IntKind.u64.wrap z ∧ IntKind.u64.wrap z ≤ 18446744073709551615 := by
  have e : IntKind.u64.wrap z = z % 18446744073709551616 := by
    simp only [IntKind.wrap, IntKind.bits, IntKind.signed, Bool.false_and, Bool.false_eq_true, if_false]
    rfl
  rw [e]
  have h1 := Int.emod_nonneg z (show (18446744073709551616 : Int) ≠ 0 by decide)
  have h2 := Int.emod_lt_of_pos z (show (0 : Int) < 18446744073709551616 by decide)
  omega
theorem q_shlE {t yt : TypeId} {x y : Operand} {k ky : IntKind} {p q : Int} (m : Nat) (hx : ev ρ x = some (.int k p)) (hy : ev ρ y = some (.int ky q)) (hq : q = ((m : Nat) : Int)) (hm : Nat.ble m k.bits = true) : Qv P n ρ Γ ⟨ds, .binOp .shl t x y yt, ty, pos, af, gd⟩ (.int k (k.wrap (p * 2 ^ m))) := fun a w ha _ => by
  subst hq
  have h0 : ¬ ((m : Int) < 0) := by omega
  have h1 : min m k.bits = m := Nat.min_eq_left (Nat.le_of_ble_eq_true hm)
  simp [execOp, ha.ev hx, ha.ev hy, eqGuard, binOp, Op.shift, h0, h1]
abbrev xorV (p q : Int) : Int := IntKind.u64.wrap ((BitVec.ofInt 64 p ^^^ BitVec.ofInt 64 q).toNat : Int)
theorem q_xorE {t yt : TypeId} {x y : Operand} {p q : Int} (hx : ev ρ x = some (.int .u64 p)) (hy : ev ρ y = some (.int .u64 q)) : Qv P n ρ Γ ⟨ds, .binOp .xor t x y yt, ty, pos, af, gd⟩ (.int .u64 (xorV p q)) := fun a w ha _ => by
  simp [execOp, ha.ev hx, ha.ev hy, eqGuard, binOp, Op.intBits, IntKind.bits]
  rfl
abbrev andV (p q : Int) : Int := IntKind.u64.wrap ((BitVec.ofInt 64 p &&& BitVec.ofInt 64 q).toNat : Int)
theorem q_andE {t yt : TypeId} {x y : Operand} {p q : Int} (hx : ev ρ x = some (.int .u64 p)) (hy : ev ρ y = some (.int .u64 q)) : Qv P n ρ Γ ⟨ds, .binOp .and t x y yt, ty, pos, af, gd⟩ (.int .u64 (andV p q)) := fun a w ha _ => by
  simp [execOp, ha.ev hx, ha.ev hy, eqGuard, binOp, Op.intBits, IntKind.bits]
  rfl
theorem toNat64 {q : Int} (hq : 0 ≤ q ∧ q ≤ 18446744073709551615) : (BitVec.ofInt 64 q).toNat = q.toNat := by
  have e : ((2 ^ 64 : Nat) : Int) = 18446744073709551616 := by decide
  rw [BitVec.toNat_ofInt, e, Int.emod_eq_of_lt hq.1 (by omega)]
theorem andV_le (p : Int) {q : Int} (hq : 0 ≤ q ∧ q ≤ 18446744073709551615) : 0 ≤ andV p q ∧ andV p q ≤ q := by
  have h1 := toNat64 hq
  have h2 : (BitVec.ofInt 64 p &&& BitVec.ofInt 64 q).toNat ≤ q.toNat := by
    rw [BitVec.toNat_and, ← h1]
    exact Nat.and_le_right
  have h3 : andV p q = ((BitVec.ofInt 64 p &&& BitVec.ofInt 64 q).toNat : Int) := wrap_in (inU64 (by omega) (by omega))
  rw [h3]
  omega
/-- The table of how many bits a byte's number takes. -/
def lenOk (bs : ByteArray) : Bool := (List.range 256).all fun i => match bs[i]? with
  | some b => b.toNat == bitsLen i
  | none => false
theorem q_lenAt {t : TypeId} {x y : Operand} {bs : ByteArray} {ky : IntKind} {z : Int} (i : Nat) (ht : P.underlying t = some .string) (hx : ev ρ x = some (.string bs)) (hb : lenOk bs = true) (hy : ev ρ y = some (.int ky z)) (hz : z = ((i : Nat) : Int)) (hi : i < 256) : Qv P n ρ Γ ⟨ds, .index t x y, ty, pos, af, gd⟩ (.int .u8 ((bitsLen i : Nat) : Int)) := fun a w ha _ => by
  subst hz
  have h := List.all_eq_true.1 hb i (List.mem_range.2 hi)
  cases e : bs[i]? with
  | none => rw [e] at h; cases h
  | some b =>
    rw [e] at h
    have h : b.toNat = bitsLen i := by simpa using h
    simp [execOp, ha.ev hx, ha.ev hy, Instr.index, asIntOf, run_underlying ht, e, h]
end
theorem bitsLen_256 {x : Nat} (h : 256 ≤ x) : bitsLen x = bitsLen (x / 256) + 8 := by
  have key : ∀ k, bitsLen x ≤ k ↔ bitsLen (x / 256) + 8 ≤ k := fun k => by
    rw [bitsLen_le_iff]
    by_cases hk : k < 8
    · have h1 : 2 ^ k ≤ 2 ^ 8 := Nat.pow_le_pow_right (by omega) (by omega)
      constructor
      · intro h2; omega
      · intro h2; omega
    · obtain ⟨m, rfl⟩ : ∃ m, k = m + 8 := ⟨k - 8, by omega⟩
      have h1 := bitsLen_le_iff (x / 256) m
      have h2 : x / 256 < 2 ^ m ↔ x < 2 ^ (m + 8) := by rw [Nat.div_lt_iff_lt_mul (by omega), Nat.pow_add]
      rw [← h2, ← h1]
      omega
  have h1 := (key _).1 (Nat.le_refl _)
  have h2 := (key _).2 (Nat.le_refl _)
  omega
theorem Len64_S (x : Nat) (hx : x < 65536) : Spec Tryd.prog 105 [.int .u64 (x : Int)] [] fun Γ v Θ => v = .int .i64 (bitsLen x : Nat) ∧ Θ = Γ := by
  refine Spec.of_body Tryd.func105 rfl Tryd.ntmps105 rfl ?_
  intro w0 Γ
  show S _ w0 [(0, .int .u64 (x : Int))] Γ _
  have hle : ∀ i, i < 256 → bitsLen i ≤ 8 := fun i hi => (bitsLen_le_iff i 8).2 hi
  refine S.seq fun K1 hK1 => ?_
  refine S.region rfl ?_
  refine S.op (S.q (q_assign rfl) rfl rfl ?_)
  first | with_reducible refine S.nilK ?_ | refine S.nil ?_
  refine hK1 _ _ ?_
  refine S.seq fun K2 hK2 => ?_
  refine S.seq fun K3 hK3 => ?_
  refine S.region rfl ?_
  refine S.op (S.q (q_move rfl) rfl rfl ?_)
  refine S.op (S.q (q_ge rfl rfl) rfl rfl ?_)
  first | with_reducible refine S.nilK ?_ | refine S.nil ?_
  refine hK3 _ _ ?_
  refine S.condD rfl (fun h1 => ?_) (fun h1 => ?_)
  · omega
  · refine S.skip ?_
    with_reducible repeat (first | refine S.then_n ?_ | refine S.then_x ?_ | refine S.then_r ?_ | refine S.inBlock_n ?_ | refine S.inBlock_r ?_ | refine S.inBlock_x rfl ?_ | refine S.noGoto_r ?_ | refine S.noGoto_n ?_ | refine S.noGoto_x ?_)
    refine hK2 _ _ ?_
    refine S.seq fun K4 hK4 => ?_
    refine S.seq fun K5 hK5 => ?_
    refine S.region rfl ?_
    refine S.op (S.q (q_move rfl) rfl rfl ?_)
    refine S.op (S.q (q_ge rfl rfl) rfl rfl ?_)
    first | with_reducible refine S.nilK ?_ | refine S.nil ?_
    refine hK5 _ _ ?_
    refine S.condD rfl (fun h2 => ?_) (fun h2 => ?_)
    · omega
    · refine S.skip ?_
      with_reducible repeat (first | refine S.then_n ?_ | refine S.then_x ?_ | refine S.then_r ?_ | refine S.inBlock_n ?_ | refine S.inBlock_r ?_ | refine S.inBlock_x rfl ?_ | refine S.noGoto_r ?_ | refine S.noGoto_n ?_ | refine S.noGoto_x ?_)
      refine hK4 _ _ ?_
      refine S.seq fun K6 hK6 => ?_
      refine S.seq fun K7 hK7 => ?_
      refine S.region rfl ?_
      refine S.op (S.q (q_move rfl) rfl rfl ?_)
      refine S.op (S.q (q_ge rfl rfl) rfl rfl ?_)
      first | with_reducible refine S.nilK ?_ | refine S.nil ?_
      refine hK7 _ _ ?_
      refine S.condD rfl (fun h3 => ?_) (fun h3 => ?_)
      · have e3 : ((x : Int) / 2 ^ 8) = ((x / 256 : Nat) : Int) := by omega
        have h25 := hle (x / 256) (by omega)
        have hfin : (0 : Int) + 8 + (bitsLen (x / 256) : Nat) = (bitsLen x : Nat) := by rw [bitsLen_256 (x := x) (by omega)]; omega
        refine S.seq fun K8 hK8 => ?_
        refine S.region rfl ?_
        refine S.op (S.q (q_move rfl) rfl rfl ?_)
        refine S.op (S.q (q_shr 8 rfl rfl rfl rfl) rfl rfl ?_)
        refine S.op (S.q (q_assign rfl) rfl rfl ?_)
        first | with_reducible refine S.nilK ?_ | refine S.nil ?_
        refine hK8 _ _ ?_
        refine S.region rfl ?_
        refine S.op (S.q (q_move rfl) rfl rfl ?_)
        refine S.op (S.q (q_add rfl rfl (inI64 (by omega) (by omega))) rfl rfl ?_)
        refine S.op (S.q (q_assign rfl) rfl rfl ?_)
        first | with_reducible refine S.nilK ?_ | refine S.nil ?_
        refine hK6 _ _ ?_
        refine S.seq fun K9 hK9 => ?_
        refine S.region rfl ?_
        refine S.op (S.q (q_move rfl) rfl rfl ?_)
        refine S.op (S.q (q_move rfl) rfl rfl ?_)
        refine S.op (S.q (q_conv Tryd.it5 (by rw [Tryd.underlying174]; rfl) rfl (inU8 (by omega) (by omega))) rfl rfl ?_)
        refine S.op (S.q (q_lenAt _ Tryd.underlying9 rfl (by kernel_rfl) rfl e3 (by omega)) rfl rfl ?_)
        refine S.op (S.q (q_conv Tryd.it3 (by rw [Tryd.underlying5]; rfl) rfl (inI64 (by omega) (by omega))) rfl rfl ?_)
        refine S.op (S.q (q_add rfl rfl (inI64 (by omega) (by omega))) rfl rfl ?_)
        refine S.op (S.q (q_assign rfl) rfl rfl ?_)
        first | with_reducible refine S.nilK ?_ | refine S.nil ?_
        refine hK9 _ _ ?_
        refine S.ret ?_
        with_reducible repeat (first | refine S.then_n ?_ | refine S.then_x ?_ | refine S.then_r ?_ | refine S.inBlock_n ?_ | refine S.inBlock_r ?_ | refine S.inBlock_x rfl ?_ | refine S.noGoto_r ?_ | refine S.noGoto_n ?_ | refine S.noGoto_x ?_)
        exact S.fin (rs := [_]) (vs := [_]) Tryd.results105 (⟨rfl, trivial⟩)  (⟨by simp only [resV]; rw [hfin], rfl⟩) Sub.ent
      · have e3 : (x : Int) = ((x : Nat) : Int) := rfl
        have h25 := hle x (by omega)
        have hfin : (0 : Int) + (bitsLen x : Nat) = (bitsLen x : Nat) := by omega
        refine S.skip ?_
        with_reducible repeat (first | refine S.then_n ?_ | refine S.then_x ?_ | refine S.then_r ?_ | refine S.inBlock_n ?_ | refine S.inBlock_r ?_ | refine S.inBlock_x rfl ?_ | refine S.noGoto_r ?_ | refine S.noGoto_n ?_ | refine S.noGoto_x ?_)
        refine hK6 _ _ ?_
        refine S.seq fun K10 hK10 => ?_
        refine S.region rfl ?_
        refine S.op (S.q (q_move rfl) rfl rfl ?_)
        refine S.op (S.q (q_move rfl) rfl rfl ?_)
        refine S.op (S.q (q_conv Tryd.it5 (by rw [Tryd.underlying174]; rfl) rfl (inU8 (by omega) (by omega))) rfl rfl ?_)
        refine S.op (S.q (q_lenAt _ Tryd.underlying9 rfl (by kernel_rfl) rfl e3 (by omega)) rfl rfl ?_)
        refine S.op (S.q (q_conv Tryd.it3 (by rw [Tryd.underlying5]; rfl) rfl (inI64 (by omega) (by omega))) rfl rfl ?_)
        refine S.op (S.q (q_add rfl rfl (inI64 (by omega) (by omega))) rfl rfl ?_)
        refine S.op (S.q (q_assign rfl) rfl rfl ?_)
        first | with_reducible refine S.nilK ?_ | refine S.nil ?_
        refine hK10 _ _ ?_
        refine S.ret ?_
        with_reducible repeat (first | refine S.then_n ?_ | refine S.then_x ?_ | refine S.then_r ?_ | refine S.inBlock_n ?_ | refine S.inBlock_r ?_ | refine S.inBlock_x rfl ?_ | refine S.noGoto_r ?_ | refine S.noGoto_n ?_ | refine S.noGoto_x ?_)
        exact S.fin (rs := [_]) (vs := [_]) Tryd.results105 (⟨rfl, trivial⟩)  (⟨by simp only [resV]; rw [hfin], rfl⟩) Sub.ent
theorem Len_S (x : Nat) (hx : x < 65536) : Spec Tryd.prog 89 [.int .u64 (x : Int)] [] fun Γ v Θ => v = .int .i64 (bitsLen x : Nat) ∧ Θ = Γ := by
  refine Spec.of_body Tryd.func89 rfl Tryd.ntmps89 rfl ?_
  intro w0 Γ
  show S _ w0 [(0, .int .u64 (x : Int))] Γ _
  refine S.seq fun K1 hK1 => ?_
  refine S.region rfl ?_
  refine S.op (S.q (q_assign rfl) rfl rfl ?_)
  first | with_reducible refine S.nilK ?_ | refine S.nil ?_
  refine hK1 _ _ ?_
  refine S.seq fun K2 hK2 => ?_
  refine S.condF rfl ?_
  refine S.skip ?_
  with_reducible repeat (first | refine S.then_n ?_ | refine S.then_x ?_ | refine S.then_r ?_ | refine S.inBlock_n ?_ | refine S.inBlock_r ?_ | refine S.inBlock_x rfl ?_ | refine S.noGoto_r ?_ | refine S.noGoto_n ?_ | refine S.noGoto_x ?_)
  refine hK2 _ _ ?_
  refine S.seq fun K3 hK3 => ?_
  refine S.region rfl ?_
  refine S.op (S.q (q_move rfl) rfl rfl ?_)
  refine S.op (S.call Tryd.en105 (vs := [_]) ⟨rfl, trivial⟩ (Len64_S x hx) rfl ?_)
  rintro v Θ ⟨rfl, rfl⟩
  refine S.op (S.q (q_assign rfl) rfl rfl ?_)
  first | with_reducible refine S.nilK ?_ | refine S.nil ?_
  refine hK3 _ _ ?_
  refine S.ret ?_
  with_reducible repeat (first | refine S.then_n ?_ | refine S.then_x ?_ | refine S.then_r ?_ | refine S.inBlock_n ?_ | refine S.inBlock_r ?_ | refine S.inBlock_x rfl ?_ | refine S.noGoto_r ?_ | refine S.noGoto_n ?_ | refine S.noGoto_x ?_)
  exact S.fin (rs := [_]) (vs := [_]) Tryd.results89 (⟨rfl, trivial⟩)  (⟨rfl, rfl⟩) Sub.ent
theorem nextPow_S (x : Nat) (hx0 : 0 < x) (hx : x < 65536) : Spec Tryd.prog 117 [.int .i64 (x : Int)] [] fun Γ v Θ => ∃ p : Int, (x < p ∧ p ≤ 2 * x) ∧ v = .int .u64 p ∧ Θ = Γ := by
  refine Spec.of_body Tryd.func117 rfl Tryd.ntmps117 rfl ?_
  intro w0 Γ
  show S _ w0 [(0, .int .i64 (x : Int))] Γ _
  have h1 := lt_two_pow_bitsLen x
  have h2 := two_pow_bitsLen_le hx0
  have hb : bitsLen x ≤ 16 := (bitsLen_le_iff x 16).2 (by omega)
  have e2 : ((1 : Int) * 2 ^ bitsLen x) = ((2 ^ bitsLen x : Nat) : Int) := by rw [Int.one_mul]; norm_cast
  have hw : IntKind.u64.wrap ((1 : Int) * 2 ^ bitsLen x) = ((2 ^ bitsLen x : Nat) : Int) := by rw [e2]; exact wrap_in (inU64 (by omega) (by omega))
  refine S.seq fun K1 hK1 => ?_
  refine S.region rfl ?_
  refine S.op (S.q (q_assign rfl) rfl rfl ?_)
  first | with_reducible refine S.nilK ?_ | refine S.nil ?_
  refine hK1 _ _ ?_
  refine S.seq fun K2 hK2 => ?_
  refine S.region rfl ?_
  refine S.op (S.q (q_move rfl) rfl rfl ?_)
  refine S.op (S.q (q_conv Tryd.it160 (by rw [Tryd.underlying3]; rfl) rfl (inU64 (by omega) (by omega))) rfl rfl ?_)
  refine S.op (S.call Tryd.en89 (vs := [_]) ⟨rfl, trivial⟩ (Len_S x hx) rfl ?_)
  rintro v Θ ⟨rfl, rfl⟩
  refine S.op (S.q (q_shlE (bitsLen x) rfl rfl rfl (Nat.ble_eq_true_of_le (Nat.le_trans hb (by decide)))) rfl rfl ?_)
  refine S.op (S.q (q_assign rfl) rfl rfl ?_)
  first | with_reducible refine S.nilK ?_ | refine S.nil ?_
  refine hK2 _ _ ?_
  refine S.ret ?_
  with_reducible repeat (first | refine S.then_n ?_ | refine S.then_x ?_ | refine S.then_r ?_ | refine S.inBlock_n ?_ | refine S.inBlock_r ?_ | refine S.inBlock_x rfl ?_ | refine S.noGoto_r ?_ | refine S.noGoto_n ?_ | refine S.noGoto_x ?_)
  exact S.fin (rs := [_]) (vs := [_]) Tryd.results117 (⟨rfl, trivial⟩)  (⟨_, ⟨by rw [hw]; omega, by rw [hw]; omega⟩, rfl, rfl⟩) Sub.ent
theorem xorNext_S (b : Nat) (r : Int) : Spec Tryd.prog 118 [.pointer (some ⟨b, 0, none⟩)] [blk b 182 #[.int .u64 r]] fun Γ v Θ => ∃ r', v = .int .u64 r' ∧ Θ = blk b 182 #[.int .u64 r'] :: Γ := by
  refine Spec.of_body Tryd.func118 rfl Tryd.ntmps118 rfl ?_
  intro w0 Γ
  show S _ w0 [(0, .pointer (some ⟨b, 0, none⟩))] (blk b 182 #[.int .u64 r] :: Γ) _
  refine S.seq fun K1 hK1 => ?_
  refine S.region rfl ?_
  refine S.op (S.q (q_assign rfl) rfl rfl ?_)
  first | with_reducible refine S.nilK ?_ | refine S.nil ?_
  refine hK1 _ _ ?_
  refine S.seq fun K2 hK2 => ?_
  refine S.draw ([blk b 182 #[.int .u64 r]]) [9] Tryd.mixed ?_
  refine S.dr_take 0 [1, 2, 7, 8, 9] rfl (by kernel_rfl) rfl rfl rfl (q_move rfl) Sub.ent ?_
  refine S.dr_take 1 [2, 7, 8, 9] rfl (by kernel_rfl) rfl rfl rfl (q_nilCheck rfl) Sub.ent ?_
  refine S.dr_take 2 [7, 8, 9] rfl (by kernel_rfl) rfl rfl rfl (q_load Tryd.at182 rfl rfl) Sub.ent ?_
  refine S.dr_take 3 [4, 5, 6, 7, 8, 9] rfl (by kernel_rfl) rfl rfl rfl (q_move rfl) Sub.ent ?_
  refine S.dr_take 4 [5, 6, 7, 8, 9] rfl (by kernel_rfl) rfl rfl rfl (q_nilCheck rfl) Sub.ent ?_
  refine S.dr_take 5 [6, 7, 8, 9] rfl (by kernel_rfl) rfl rfl rfl (q_load Tryd.at182 rfl rfl) Sub.ent ?_
  refine S.dr_take 6 [7, 8, 9] rfl (by kernel_rfl) rfl rfl rfl (q_shlE 13 rfl rfl rfl rfl) Sub.ent ?_
  refine S.dr_take 7 [8, 9] rfl (by kernel_rfl) rfl rfl rfl (q_xorE rfl rfl) Sub.ent ?_
  refine S.dr_take 8 [9] rfl (by kernel_rfl) rfl rfl rfl (q_nilCheck rfl) Sub.ent ?_
  refine S.dr_1 (i := 9) (by kernel_rfl) rfl rfl ?_
  generalize xorV r (IntKind.u64.wrap (r * 2 ^ 13)) = r1
  refine  (S.store (cs' := [_]) Tryd.at182 rfl rfl rfl rfl rfl ?_)
  refine S.dr_late ([]) [] rfl ?_
  first | with_reducible refine S.dr_doneK (by kernel_rfl) ?_ | refine S.dr_done (by kernel_rfl) ?_
  refine hK2 _ _ ?_
  refine S.seq fun K3 hK3 => ?_
  refine S.draw ([blk b 182 #[.int .u64 r1]]) [9] Tryd.mixed ?_
  refine S.dr_take 0 [1, 2, 7, 8, 9] rfl (by kernel_rfl) rfl rfl rfl (q_move rfl) Sub.ent ?_
  refine S.dr_take 1 [2, 7, 8, 9] rfl (by kernel_rfl) rfl rfl rfl (q_nilCheck rfl) Sub.ent ?_
  refine S.dr_take 2 [7, 8, 9] rfl (by kernel_rfl) rfl rfl rfl (q_load Tryd.at182 rfl rfl) Sub.ent ?_
  refine S.dr_take 3 [4, 5, 6, 7, 8, 9] rfl (by kernel_rfl) rfl rfl rfl (q_move rfl) Sub.ent ?_
  refine S.dr_take 4 [5, 6, 7, 8, 9] rfl (by kernel_rfl) rfl rfl rfl (q_nilCheck rfl) Sub.ent ?_
  refine S.dr_take 5 [6, 7, 8, 9] rfl (by kernel_rfl) rfl rfl rfl (q_load Tryd.at182 rfl rfl) Sub.ent ?_
  refine S.dr_take 6 [7, 8, 9] rfl (by kernel_rfl) rfl rfl rfl (q_shr 7 rfl rfl rfl rfl) Sub.ent ?_
  refine S.dr_take 7 [8, 9] rfl (by kernel_rfl) rfl rfl rfl (q_xorE rfl rfl) Sub.ent ?_
  refine S.dr_take 8 [9] rfl (by kernel_rfl) rfl rfl rfl (q_nilCheck rfl) Sub.ent ?_
  refine S.dr_1 (i := 9) (by kernel_rfl) rfl rfl ?_
  generalize xorV r1 (r1 / 2 ^ 7) = r2
  refine  (S.store (cs' := [_]) Tryd.at182 rfl rfl rfl rfl rfl ?_)
  refine S.dr_late ([]) [] rfl ?_
  first | with_reducible refine S.dr_doneK (by kernel_rfl) ?_ | refine S.dr_done (by kernel_rfl) ?_
  refine hK3 _ _ ?_
  refine S.seq fun K4 hK4 => ?_
  refine S.draw ([blk b 182 #[.int .u64 r2]]) [9] Tryd.mixed ?_
  refine S.dr_take 0 [1, 2, 7, 8, 9] rfl (by kernel_rfl) rfl rfl rfl (q_move rfl) Sub.ent ?_
  refine S.dr_take 1 [2, 7, 8, 9] rfl (by kernel_rfl) rfl rfl rfl (q_nilCheck rfl) Sub.ent ?_
  refine S.dr_take 2 [7, 8, 9] rfl (by kernel_rfl) rfl rfl rfl (q_load Tryd.at182 rfl rfl) Sub.ent ?_
  refine S.dr_take 3 [4, 5, 6, 7, 8, 9] rfl (by kernel_rfl) rfl rfl rfl (q_move rfl) Sub.ent ?_
  refine S.dr_take 4 [5, 6, 7, 8, 9] rfl (by kernel_rfl) rfl rfl rfl (q_nilCheck rfl) Sub.ent ?_
  refine S.dr_take 5 [6, 7, 8, 9] rfl (by kernel_rfl) rfl rfl rfl (q_load Tryd.at182 rfl rfl) Sub.ent ?_
  refine S.dr_take 6 [7, 8, 9] rfl (by kernel_rfl) rfl rfl rfl (q_shlE 17 rfl rfl rfl rfl) Sub.ent ?_
  refine S.dr_take 7 [8, 9] rfl (by kernel_rfl) rfl rfl rfl (q_xorE rfl rfl) Sub.ent ?_
  refine S.dr_take 8 [9] rfl (by kernel_rfl) rfl rfl rfl (q_nilCheck rfl) Sub.ent ?_
  refine S.dr_1 (i := 9) (by kernel_rfl) rfl rfl ?_
  generalize xorV r2 (IntKind.u64.wrap (r2 * 2 ^ 17)) = r3
  refine  (S.store (cs' := [_]) Tryd.at182 rfl rfl rfl rfl rfl ?_)
  refine S.dr_late ([]) [] rfl ?_
  first | with_reducible refine S.dr_doneK (by kernel_rfl) ?_ | refine S.dr_done (by kernel_rfl) ?_
  refine hK4 _ _ ?_
  refine S.seq fun K5 hK5 => ?_
  refine S.region rfl ?_
  refine S.op (S.q (q_move rfl) rfl rfl ?_)
  refine S.op (S.q (q_nilCheck rfl) rfl rfl ?_)
  refine S.op (S.q (q_load Tryd.at182 rfl rfl) rfl rfl ?_)
  refine S.op (S.q (q_assign rfl) rfl rfl ?_)
  first | with_reducible refine S.nilK ?_ | refine S.nil ?_
  refine hK5 _ _ ?_
  refine S.ret ?_
  with_reducible repeat (first | refine S.then_n ?_ | refine S.then_x ?_ | refine S.then_r ?_ | refine S.inBlock_n ?_ | refine S.inBlock_r ?_ | refine S.inBlock_x rfl ?_ | refine S.noGoto_r ?_ | refine S.noGoto_n ?_ | refine S.noGoto_x ?_)
  exact S.fin (rs := [_]) (vs := [_]) Tryd.results118 (⟨rfl, trivial⟩)  (⟨_, rfl, rfl⟩) Sub.ent
theorem break_S (s : SV) (d : Array Int) (a b : Nat) (hab : a + 12 < b) (hb : b ≤ d.size) (hsz : d.size ≤ 65535) (hsn : s.n = d.size) : Spec Tryd.prog 123 [s.v, .int .i64 (a : Int), .int .i64 (b : Int)] [own s 68 1 (uA d)] fun Γ _ Θ => ∃ e, PermIn a b d e ∧ Θ = own s 68 1 (uA e) :: Γ := by
  refine Spec.of_body Tryd.func123 rfl Tryd.ntmps123 rfl ?_
  intro w0 Γ
  show S _ w0 [(0, s.v), (1, .int .i64 (a : Int)), (2, .int .i64 (b : Int))] (own s 68 1 (uA d) :: Γ) _
  refine S.ownSome s (by omega) fun sb so hsa _ _ _ => ?_
  obtain ⟨l, hl⟩ : ∃ l : Nat, (l : Int) = (b : Int) - a := ⟨b - a, by omega⟩
  refine S.seq fun K1 hK1 => ?_
  refine S.region rfl ?_
  refine S.op (S.q (q_move rfl) rfl rfl ?_)
  refine S.op (S.q (q_move rfl) rfl rfl ?_)
  refine S.op (S.q (q_sub rfl rfl (inI64 (by omega) (by omega))) rfl rfl ?_)
  refine S.op (S.q (q_assign rfl) rfl rfl ?_)
  first | with_reducible refine S.nilK ?_ | refine S.nil ?_
  refine hK1 _ _ ?_
  refine S.seq fun K2 hK2 => ?_
  refine S.region rfl ?_
  refine S.op (S.q (q_move rfl) rfl rfl ?_)
  refine S.op (S.q (q_ge rfl rfl) rfl rfl ?_)
  first | with_reducible refine S.nilK ?_ | refine S.nil ?_
  refine hK2 _ _ ?_
  refine S.condD rfl (fun h1 => ?_) (fun h1 => ?_)
  · refine S.seq fun K3 hK3 => ?_
    refine S.region rfl ?_
    refine S.op (S.q (q_move rfl) rfl rfl ?_)
    rw [← hl]
    refine S.op (S.q (q_conv Tryd.it182 (by rw [Tryd.underlying3]; rfl) rfl (inU64 (by omega) (by omega))) rfl rfl ?_)
    refine S.op (S.alloc Tryd.z182 rfl ?_)
    intro b7
    refine S.op (S.store (cs' := [_]) Tryd.at182 rfl rfl rfl rfl rfl ?_)
    first | with_reducible refine S.nilK ?_ | refine S.nil ?_
    refine hK3 _ _ ?_
    refine S.seq fun K4 hK4 => ?_
    refine S.region rfl ?_
    refine S.op (S.q (q_move rfl) rfl rfl ?_)
    refine S.op (S.call Tryd.en117 (vs := [_]) ⟨rfl, trivial⟩ (nextPow_S l (by omega) (by omega)) rfl ?_)
    rintro v Θ ⟨p, hp, rfl, rfl⟩
    refine S.op (S.q (q_assign rfl) rfl rfl ?_)
    first | with_reducible refine S.nilK ?_ | refine S.nil ?_
    refine hK4 _ _ ?_
    refine S.seq fun K5 hK5 => ?_
    refine S.region rfl ?_
    refine S.op (S.q (q_move rfl) rfl rfl ?_)
    refine S.op (S.q (q_move rfl) rfl rfl ?_)
    refine S.op (S.q (q_quo rfl rfl (⟨by omega, by omega⟩) (inI64 (by omega) (by omega))) rfl rfl ?_)
    refine S.op (S.q (q_mul rfl rfl (inI64 (by omega) (by omega))) rfl rfl ?_)
    refine S.op (S.q (q_add rfl rfl (inI64 (by omega) (by omega))) rfl rfl ?_)
    refine S.op (S.q (q_sub rfl rfl (inI64 (by omega) (by omega))) rfl rfl ?_)
    refine S.op (S.q (q_assign rfl) rfl rfl ?_)
    first | with_reducible refine S.nilK ?_ | refine S.nil ?_
    refine hK5 _ _ ?_
    refine S.block ?_
    refine S.loop (fun q ρ' Γ' => ∃ (x : Nat) (zx : Int) (r : Int) (e : Array Int), q = a + l - x ∧ zx = x ∧ a ≤ x ∧ x ≤ a + l / 4 * 2 + 2 ∧ e.size = d.size ∧ PermIn a b d e ∧ ρ' = [(0, s.v), (1, .int .i64 (a : Int)), (6, .int .i64 (l : Int)), (7, .pointer (some ⟨b7, 0, none⟩)), (8, .int .u64 p), (9, .int .i64 zx)] ∧ Γ' = own s 68 1 (uA e) :: blk b7 182 #[.int .u64 r] :: Γ) (m := _) (ρ0 := _) (Γ0 := _) (⟨a + l / 4 * 2 - 1, (a : Int) + (l : Int) / 4 * 2 - 1, (l : Int), d, rfl, by omega, by omega, by omega, rfl, permIn_refl _ _ _, rfl, rfl⟩) (by repeat (first | exact trivial | refine ⟨rfl, ?_⟩)) Sub.ent ?_
    rintro q ρ' Γ' ⟨x, zx, r, e, hq, hzx, hax, hxl, hes, hpe, rfl, rfl⟩
    refine S.seq fun K6 hK6 => ?_
    refine S.seq fun K7 hK7 => ?_
    refine S.region rfl ?_
    refine S.op (S.q (q_move rfl) rfl rfl ?_)
    refine S.op (S.q (q_move rfl) rfl rfl ?_)
    refine S.op (S.q (q_move rfl) rfl rfl ?_)
    refine S.op (S.q (q_quo rfl rfl (⟨by omega, by omega⟩) (inI64 (by omega) (by omega))) rfl rfl ?_)
    refine S.op (S.q (q_mul rfl rfl (inI64 (by omega) (by omega))) rfl rfl ?_)
    refine S.op (S.q (q_add rfl rfl (inI64 (by omega) (by omega))) rfl rfl ?_)
    refine S.op (S.q (q_add rfl rfl (inI64 (by omega) (by omega))) rfl rfl ?_)
    refine S.op (S.q (q_le rfl rfl) rfl rfl ?_)
    first | with_reducible refine S.nilK ?_ | refine S.nil ?_
    refine hK7 _ _ ?_
    refine S.condD rfl (fun h2 => ?_) (fun h2 => ?_)
    · refine S.skip ?_
      with_reducible repeat (first | refine S.then_n ?_ | refine S.then_x ?_ | refine S.then_r ?_ | refine S.inBlock_n ?_ | refine S.inBlock_r ?_ | refine S.inBlock_x rfl ?_ | refine S.noGoto_r ?_ | refine S.noGoto_n ?_ | refine S.noGoto_x ?_)
      refine hK6 _ _ ?_
      refine S.seq fun K8 hK8 => ?_
      refine S.block ?_
      refine S.seq fun K9 hK9 => ?_
      refine S.region rfl ?_
      refine S.op (S.call Tryd.en118 (vs := [_]) ⟨rfl, trivial⟩ (xorNext_S b7 r) rfl ?_)
      rintro v Θ ⟨r2, rfl, rfl⟩
      refine S.op (S.q (q_move rfl) rfl rfl ?_)
      refine S.op (S.q (q_sub rfl rfl (inU64 (by omega) (by omega))) rfl rfl ?_)
      refine S.op (S.q (q_andE rfl rfl) rfl rfl ?_)
      obtain ⟨o, ho⟩ : ∃ o, o = andV r2 (p - 1) := ⟨_, rfl⟩
      have hor := andV_le r2 (q := p - 1) ⟨by omega, by omega⟩
      rw [← ho] at hor ⊢
      refine S.op (S.q (q_conv Tryd.it3 (by rw [Tryd.underlying160]; rfl) rfl (inI64 (by omega) (by omega))) rfl rfl ?_)
      refine S.op (S.q (q_assign rfl) rfl rfl ?_)
      first | with_reducible refine S.nilK ?_ | refine S.nil ?_
      refine hK9 _ _ ?_
      refine S.seq fun K10 hK10 => ?_
      refine S.seq fun K11 hK11 => ?_
      refine S.region rfl ?_
      refine S.op (S.q (q_move rfl) rfl rfl ?_)
      refine S.op (S.q (q_move rfl) rfl rfl ?_)
      refine S.op (S.q (q_ge rfl rfl) rfl rfl ?_)
      first | with_reducible refine S.nilK ?_ | refine S.nil ?_
      refine hK11 _ _ ?_
      refine S.cut (fun ρ' Γ' => ∃ (y : Nat) (zy : Int), zy = y ∧ y < l ∧ ρ' = [(0, s.v), (1, .int .i64 (a : Int)), (6, .int .i64 (l : Int)), (7, .pointer (some ⟨b7, 0, none⟩)), (8, .int .u64 p), (9, .int .i64 zx), (10, .int .i64 zy)] ∧ Γ' = own s 68 1 (uA e) :: blk b7 182 #[.int .u64 r2] :: Γ) ?_ ?_
      · refine S.condD rfl (fun h3 => ?_) (fun h3 => ?_)
        · refine S.region rfl ?_
          refine S.op (S.q (q_move rfl) rfl rfl ?_)
          refine S.op (S.q (q_move rfl) rfl rfl ?_)
          refine S.op (S.q (q_sub rfl rfl (inI64 (by omega) (by omega))) rfl rfl ?_)
          refine S.op (S.q (q_assign rfl) rfl rfl ?_)
          first | with_reducible refine S.nilK ?_ | refine S.nil ?_
          with_reducible repeat (first | refine S.then_n ?_ | refine S.then_x ?_ | refine S.then_r ?_ | refine S.inBlock_n ?_ | refine S.inBlock_r ?_ | refine S.inBlock_x rfl ?_ | refine S.noGoto_r ?_ | refine S.noGoto_n ?_ | refine S.noGoto_x ?_)
          first | exact S.meet ⟨(o - l).toNat, o - l, by omega, by omega, rfl, rfl⟩ ⟨rfl, rfl, rfl, rfl, rfl, rfl, rfl, trivial⟩ Sub.ent | exact S.meet ⟨o.toNat, o, by omega, by omega, rfl, rfl⟩ ⟨rfl, rfl, rfl, rfl, rfl, rfl, rfl, trivial⟩ Sub.ent
        · refine S.skip ?_
          with_reducible repeat (first | refine S.then_n ?_ | refine S.then_x ?_ | refine S.then_r ?_ | refine S.inBlock_n ?_ | refine S.inBlock_r ?_ | refine S.inBlock_x rfl ?_ | refine S.noGoto_r ?_ | refine S.noGoto_n ?_ | refine S.noGoto_x ?_)
          with_reducible repeat (first | refine S.then_n ?_ | refine S.then_x ?_ | refine S.then_r ?_ | refine S.inBlock_n ?_ | refine S.inBlock_r ?_ | refine S.inBlock_x rfl ?_ | refine S.noGoto_r ?_ | refine S.noGoto_n ?_ | refine S.noGoto_x ?_)
          first | exact S.meet ⟨(o - l).toNat, o - l, by omega, by omega, rfl, rfl⟩ ⟨rfl, rfl, rfl, rfl, rfl, rfl, rfl, trivial⟩ Sub.ent | exact S.meet ⟨o.toNat, o, by omega, by omega, rfl, rfl⟩ ⟨rfl, rfl, rfl, rfl, rfl, rfl, rfl, trivial⟩ Sub.ent
      · rintro ρ' Γ' ⟨y, zy, hzy, hyl, rfl, rfl⟩
        refine hK10 _ _ ?_
        refine S.draw ([own s 68 1 (uA e)]) [17] Tryd.mixed ?_
        refine S.dr_take 0 [16, 17, 18, 19] rfl (by kernel_rfl) rfl rfl rfl (q_move rfl) Sub.ent ?_
        refine S.dr_take 1 [16, 17, 18, 19] rfl (by kernel_rfl) rfl rfl rfl (q_move rfl) Sub.ent ?_
        refine S.dr_takeP 2 rfl (by kernel_rfl) rfl rfl rfl (q_move rfl) Sub.ent ?_
        refine S.dr_takeP 3 rfl (by kernel_rfl) rfl rfl rfl (q_move rfl) Sub.ent ?_
        refine S.dr_takeP 4 rfl (by kernel_rfl) rfl rfl rfl (q_move rfl) Sub.ent ?_
        refine S.dr_takeP 5 rfl (by kernel_rfl) rfl rfl rfl (q_add rfl rfl (inI64 (by omega) (by omega))) Sub.ent ?_
        refine S.dr_take 6 [10, 11, 16, 17, 18, 19] rfl (by kernel_rfl) rfl rfl rfl (q_move rfl) Sub.ent ?_
        refine S.dr_take 7 [9, 10, 11, 16, 17, 18, 19] rfl (by kernel_rfl) rfl rfl rfl (q_move rfl) Sub.ent ?_
        refine S.dr_take 8 [9, 10, 11, 16, 17, 18, 19] rfl (by kernel_rfl) rfl rfl rfl (q_move rfl) Sub.ent ?_
        refine S.dr_take 9 [10, 11, 16, 17, 18, 19] rfl (by kernel_rfl) rfl rfl rfl (q_add rfl rfl (inI64 (by omega) (by omega))) Sub.ent ?_
        refine S.dr_take 10 [11, 16, 17, 18, 19] rfl (by kernel_rfl) rfl rfl rfl (q_indexO (a + y) Tryd.el31 rfl hsa rfl (by omega) (by omega)) Sub.ent ?_
        refine S.dr_take 11 [16, 17, 18, 19] rfl (by kernel_rfl) rfl rfl rfl (q_loadOw (s) (a + y) Tryd.at68 rfl hsa (by first | rfl | exact Nat.add_assoc _ _ _ | omega) (uA_get (by omega))) Sub.ent ?_
        refine S.dr_take 12 [14, 15, 16, 17, 18, 19] rfl (by kernel_rfl) rfl rfl rfl (q_move rfl) Sub.ent ?_
        refine S.dr_take 13 [14, 15, 16, 17, 18, 19] rfl (by kernel_rfl) rfl rfl rfl (q_move rfl) Sub.ent ?_
        refine S.dr_take 14 [15, 16, 17, 18, 19] rfl (by kernel_rfl) rfl rfl rfl (q_indexO (x) Tryd.el31 rfl hsa rfl hzx (by omega)) Sub.ent ?_
        refine S.dr_take 15 [16, 17, 18, 19] rfl (by kernel_rfl) rfl rfl rfl (q_loadOw (s) (x) Tryd.at68 rfl hsa (by first | rfl | exact Nat.add_assoc _ _ _ | omega) (uA_get (by omega))) Sub.ent ?_
        refine S.dr_take 16 [17, 18, 19] rfl (by kernel_rfl) rfl rfl rfl (q_indexO (x) Tryd.el31 rfl hsa rfl hzx (by omega)) Sub.ent ?_
        refine S.dr_1 (i := 17) (by kernel_rfl) rfl rfl ?_
        refine  (S.storeOw (s) (x) Tryd.at68 rfl rfl rfl hsa (by first | rfl | exact Nat.add_assoc _ _ _ | omega) (by rw [uA_len]; omega) (uA_set _ _ _) ?_)
        refine S.dr_late ([]) [] rfl ?_
        refine S.dr_take 18 [] rfl (by kernel_rfl) rfl rfl rfl (q_indexO (a + y) Tryd.el31 rfl hsa rfl (by omega) (by omega)) Sub.ent ?_
        refine S.dr_1 (i := 19) (by kernel_rfl) rfl rfl ?_
        refine  (S.storeOw (s) (a + y) Tryd.at68 rfl rfl rfl hsa (by first | rfl | exact Nat.add_assoc _ _ _ | omega) (by rw [uA_len, Array.size_setIfInBounds]; omega) (show _ = uA (Go.Sort.swp e (x) (a + y)) from uA_set _ _ _) ?_)
        refine S.dr_k rfl Sub.ent ?_
        first | with_reducible refine S.dr_doneK (by kernel_rfl) ?_ | refine S.dr_done (by kernel_rfl) ?_
        with_reducible repeat (first | refine S.then_n ?_ | refine S.then_x ?_ | refine S.then_r ?_ | refine S.inBlock_n ?_ | refine S.inBlock_r ?_ | refine S.inBlock_x rfl ?_ | refine S.noGoto_r ?_ | refine S.noGoto_n ?_ | refine S.noGoto_x ?_)
        refine hK8 _ _ ?_
        refine S.region rfl ?_
        refine S.op (S.q (q_move rfl) rfl rfl ?_)
        refine S.op (S.q (q_add rfl rfl (inI64 (by omega) (by omega))) rfl rfl ?_)
        refine S.op (S.q (q_assign rfl) rfl rfl ?_)
        first | with_reducible refine S.nilK ?_ | refine S.nil ?_
        with_reducible repeat (first | refine S.then_n ?_ | refine S.then_x ?_ | refine S.then_r ?_ | refine S.inBlock_n ?_ | refine S.inBlock_r ?_ | refine S.inBlock_x rfl ?_ | refine S.noGoto_r ?_ | refine S.noGoto_n ?_ | refine S.noGoto_x ?_)
        exact S.next (q - 1) (⟨x + 1, zx + 1, r2, swp e x (a + y), by omega, by omega, by omega, by omega, by rw [swpZ, hes], PermIn.swpZ (a := a) (b := b) (d := d) (e := e) hpe (by omega) (by omega) (by omega) (by omega) hb, rfl, rfl⟩) (by omega) (by repeat (first | exact trivial | refine ⟨rfl, ?_⟩)) Sub.ent
    · refine S.exit ?_
      with_reducible repeat (first | refine S.then_n ?_ | refine S.then_x ?_ | refine S.then_r ?_ | refine S.inBlock_n ?_ | refine S.inBlock_r ?_ | refine S.inBlock_x rfl ?_ | refine S.noGoto_r ?_ | refine S.noGoto_n ?_ | refine S.noGoto_x ?_)
      with_reducible refine S.inBlock_s ?_
      with_reducible repeat (first | refine S.then_n ?_ | refine S.then_x ?_ | refine S.then_r ?_ | refine S.inBlock_n ?_ | refine S.inBlock_r ?_ | refine S.inBlock_x rfl ?_ | refine S.noGoto_r ?_ | refine S.noGoto_n ?_ | refine S.noGoto_x ?_)
      with_reducible repeat (first | refine S.then_n ?_ | refine S.then_x ?_ | refine S.then_r ?_ | refine S.inBlock_n ?_ | refine S.inBlock_r ?_ | refine S.inBlock_x rfl ?_ | refine S.noGoto_r ?_ | refine S.noGoto_n ?_ | refine S.noGoto_x ?_)
      exact S.finN (rs := []) (vs := []) Tryd.results123 (trivial)  (⟨e, hpe, rfl⟩) Sub.ent
  · omega
end Go.Proofs.YtegjmmocnffpiaaDoor
