/- RowsApart: no cell is two jobs'. -/
import Derived.Test.YtmhdapbfpenjpaaDoorMG5
/- RowsApart: no cell is two jobs'. -/
namespace Go.Proofs.YtmhdapbfpenjpaaDoor
open Go.RowKit
set_option maxRecDepth 20000
set_option maxHeartbeats 1000000 in
theorem RowsApart_S (r n : Int) (ws gs : List Int) (s t : SV) (hr : 0 ≤ r ∧ r ≤ 255) (hn : 0 ≤ n ∧ n ≤ 255) {W : World} (hW : TabW W) (hs : BW W s ws) (ht : BW W t gs) : LawS 7 [.int .u8 r, .int .u8 n, s.v, t.v] W := by
  refine Spec.of_body Tryd.func7 rfl Tryd.ntmps7 rfl ?_
  intro w0 Γ
  show S _ w0 [(0, .int .u8 r), (1, .int .u8 n), (2, s.v), (3, t.v)] (old W :: Γ) _
  obtain ⟨m, hm⟩ : ∃ m, m = buildR r n ws gs := ⟨_, rfl⟩
  have hok : MxOk m := by rw [hm]; exact buildR_ok r n ws gs
  have hwide : ∀ x ∈ m.js, ((lst x.ns).length : Int) = 1 + ws.getD (x.id - 1) 0 % 6 := fun x hx => by rw [hm] at hx; exact buildR_wide hx
  have hidr : ∀ x ∈ m.js, 1 ≤ x.id ∧ x.id ≤ min ws.length 40 := fun x hx => by rw [hm] at hx; exact buildR_ids hx
  have hR8 := hok.R8
  have hN16 := hok.N16
  have h128 := sum_lens m hok
  have hRs : RdS (old W) s s.n 1 (bcells ws) := by rw [hs.len]; exact RdS.old hs.at_
  have hsl := hs.len
  refine S.seq fun K1 hK1 => ?_
  refine S.region rfl ?_
  refine S.op (S.q (q_assign rfl) rfl rfl ?_)
  first | with_reducible refine S.nilK ?_ | refine S.nil ?_
  refine hK1 _ _ ?_
  refine S.seq fun K2 hK2 => ?_
  refine S.seq fun K3 hK3 => ?_
  refine S.region rfl ?_
  refine S.op (S.call Tryd.en32 (vs := []) trivial (awake_S hW) rfl ?_)
  rintro v Θ ⟨rfl, rfl⟩
  refine S.op (S.q (q_not rfl) rfl rfl ?_)
  first | with_reducible refine S.nilK ?_ | refine S.nil ?_
  refine hK3 _ _ ?_
  refine S.condF rfl ?_
  refine S.skip ?_
  with_reducible repeat (first | refine S.then_n ?_ | refine S.then_x ?_ | refine S.then_r ?_ | refine S.inBlock_n ?_ | refine S.inBlock_r ?_ | refine S.inBlock_x rfl ?_ | refine S.noGoto_r ?_ | refine S.noGoto_n ?_ | refine S.noGoto_x ?_)
  refine hK2 _ _ ?_
  refine S.seq fun K4 hK4 => ?_
  refine S.region rfl ?_
  refine S.op (S.q (q_move rfl) rfl rfl ?_)
  refine S.op (S.q (q_move rfl) rfl rfl ?_)
  refine S.op (S.q (q_move rfl) rfl rfl ?_)
  refine S.op (S.q (q_move rfl) rfl rfl ?_)
  refine S.op (S.call Tryd.en33 (vs := [_, _, _, _]) ⟨rfl, rfl, rfl, rfl, trivial⟩ (build_S r n ws gs s t hr hn hW hs ht) rfl ?_)
  rintro v Θ ⟨b, kk, rfl, rfl⟩
  rw [← hm]
  refine S.op (S.q (q_move rfl) rfl rfl ?_)
  refine S.op (S.q (q_extract rfl rfl) rfl rfl ?_)
  refine S.op (S.q (q_extract rfl rfl) rfl rfl ?_)
  refine S.op (S.q (q_assign rfl) rfl rfl ?_)
  refine S.op (S.q (q_assign rfl) rfl rfl ?_)
  first | with_reducible refine S.nilK ?_ | refine S.nil ?_
  refine hK4 _ _ ?_
  refine S.seq fun K5 hK5 => ?_
  refine S.region rfl ?_
  refine S.op (S.q (q_move rfl) rfl rfl ?_)
  refine S.op (S.call Tryd.en34 (vs := [_]) ⟨rfl, trivial⟩ (Size_S b m) rfl ?_)
  rintro v Θ ⟨rfl, rfl⟩
  refine S.op (S.q (q_move rfl) rfl rfl ?_)
  refine S.op (S.q (q_extract rfl rfl) rfl rfl ?_)
  refine S.op (S.q (q_extract rfl rfl) rfl rfl ?_)
  refine S.op (S.q (q_assign rfl) rfl rfl ?_)
  refine S.op (S.q (q_assign rfl) rfl rfl ?_)
  first | with_reducible refine S.nilK ?_ | refine S.nil ?_
  refine hK5 _ _ ?_
  refine S.seq fun K6 hK6 => ?_
  refine S.region rfl ?_
  refine S.op (S.makeMap .i64 rfl ?_)
  intro b45
  refine S.conv (mapL b45 .i64 []) (Ent.setK b45 .i64 _) ?_
  refine S.op (S.q (q_assign rfl) rfl rfl ?_)
  first | with_reducible refine S.nilK ?_ | refine S.nil ?_
  refine hK6 _ _ ?_
  refine S.seq fun K7 hK7 => ?_
  refine S.seq fun K8 hK8 => ?_
  refine S.region rfl ?_
  refine S.op (S.q (q_move rfl) rfl rfl ?_)
  refine S.op (S.call Tryd.en37 (vs := [_]) ⟨rfl, trivial⟩ (Jobs_S b m) rfl ?_)
  rintro v Θ ⟨jv, rfl, hjv, rfl⟩
  have hjl : (jobIds m).length = m.js.length := List.length_map ..
  refine S.op (S.q (q_len Tryd.underlying31 rfl) rfl rfl ?_)
  refine S.op (S.q (q_move rfl) rfl rfl ?_)
  first | with_reducible refine S.nilK ?_ | refine S.nil ?_
  refine hK8 _ _ ?_
  refine S.block ?_
  refine S.loop (fun q ρ' Γ' => ∃ (p : Nat) (l : List (Nat × Nat)), q = m.js.length - p ∧ p ≤ m.js.length ∧ (∀ z ∈ l, ∃ y ∈ m.js.take p, y.row = z.1 ∧ y.ns.getLsbD z.2 = true) ∧ ρ' = [(2, s.v), (9, .pointer (some ⟨b, 0, none⟩)), (11, .int .i64 (m.R : Int)), (13, .map (some b45)), (47, jv.v), (48, .int .i64 jv.n), (49, .int .i64 (p : Int))] ∧   Γ' = own jv 44 1 (idsV (jobIds m)) :: setK b45 l :: MI b m :: old W :: Γ) (m := _) (ρ0 := _) (Γ0 := _) (⟨0, [], rfl, by omega, fun z hz => (by cases hz), rfl, rfl⟩) (by repeat (first | exact trivial | refine ⟨rfl, ?_⟩)) Sub.ent ?_
  rintro q ρ' Γ' ⟨p, l, hq, hp, hl, rfl, rfl⟩
  refine S.seq fun K9 hK9 => ?_
  refine S.region rfl ?_
  refine S.op (S.q (q_lt rfl rfl) rfl rfl ?_)
  first | with_reducible refine S.nilK ?_ | refine S.nil ?_
  refine hK9 _ _ ?_
  refine S.seq fun K10 hK10 => ?_
  refine S.condD rfl (fun h2 => ?_) (fun h2 => ?_)
  · refine S.ownSome jv (by omega) fun jb jo hja _ _ _ => ?_
    obtain ⟨x, hx⟩ := getE (show p < m.js.length by omega)
    have hxm := List.mem_of_getElem? hx
    have hof := ofR_some (look_mem hok.srt hxm)
    have hx16 := lst_len x.ns
    have hxr := hok.row x hxm
    obtain ⟨hid1, hid2⟩ := hidr x hxm
    have hxw := hwide x hxm
    obtain ⟨wx, hwx⟩ := getE (show x.id - 1 < ws.length by omega)
    have hwd : ws.getD (x.id - 1) 0 = wx := by simp [List.getD, hwx]
    have hwr := hs.rng wx (List.mem_of_getElem? hwx)
    rw [hwd] at hxw
    refine S.rSome hRs (by omega) fun sb so hsa => ?_
    have htk : ∀ y ∈ m.js.take p, y ∈ m.js ∧ y.id ≠ x.id := fun y hy => by
      refine ⟨List.mem_of_mem_take hy, fun e => ?_⟩
      obtain ⟨hp2, he⟩ := List.getElem?_eq_some_iff.1 hx
      have h9 := hok.srt
      rw [← List.take_append_drop p m.js, List.drop_eq_getElem_cons hp2, he] at h9
      have := (List.pairwise_append.1 h9).2.2 y hy x (List.mem_cons_self ..)
      omega
    refine S.skip ?_
    with_reducible repeat (first | refine S.then_n ?_ | refine S.then_x ?_ | refine S.then_r ?_ | refine S.inBlock_n ?_ | refine S.inBlock_r ?_ | refine S.inBlock_x rfl ?_ | refine S.noGoto_r ?_ | refine S.noGoto_n ?_ | refine S.noGoto_x ?_)
    refine hK10 _ _ ?_
    refine S.seq fun K11 hK11 => ?_
    refine S.block ?_
    refine S.seq fun K12 hK12 => ?_
    refine S.region rfl ?_
    refine S.op (S.q (q_indexO (p) Tryd.el31 rfl hja rfl rfl (by omega)) rfl rfl ?_)
    refine S.op (S.q (q_loadOw (jv) (p) Tryd.at44 rfl hja (by first | rfl | exact Nat.add_assoc _ _ _ | omega) (idsV_at hx)) rfl rfl ?_)
    refine S.op (S.q (q_assign rfl) rfl rfl ?_)
    first | with_reducible refine S.nilK ?_ | refine S.nil ?_
    refine hK12 _ _ ?_
    refine S.seq fun K13 hK13 => ?_
    refine S.region rfl ?_
    refine S.op (S.q (q_move rfl) rfl rfl ?_)
    refine S.op (S.q (q_move rfl) rfl rfl ?_)
    refine S.op (S.call Tryd.en21 (vs := [_, _]) ⟨rfl, rfl, trivial⟩ (Of_S b m x.id hW) rfl ?_)
    rintro v Θ ⟨nv1, rfl, hnv, rfl⟩
    rw [hof] at hnv ⊢
    simp only at hnv ⊢
    refine S.op (S.q (q_move rfl) rfl rfl ?_)
    refine S.op (S.q (q_extract rfl rfl) rfl rfl ?_)
    refine S.op (S.q (q_extract rfl rfl) rfl rfl ?_)
    refine S.op (S.q (q_extract rfl rfl) rfl rfl ?_)
    refine S.op (S.q (q_assign rfl) rfl rfl ?_)
    refine S.op (S.q (q_assign rfl) rfl rfl ?_)
    refine S.op (S.q (q_assign rfl) rfl rfl ?_)
    first | with_reducible refine S.nilK ?_ | refine S.nil ?_
    refine hK13 _ _ ?_
    refine S.seq fun K14 hK14 => ?_
    refine S.seq fun K15 hK15 => ?_
    refine S.regionG ?_
    refine S.g_op rfl (S.q (q_move rfl) rfl rfl ?_)
    refine S.g_op rfl (S.q (q_not rfl) rfl rfl ?_)
    refine S.g_op rfl (S.q (q_move rfl) rfl rfl ?_)
    refine S.g_yes rfl rfl rfl (rfl) (S.q (q_move rfl) rfl rfl ?_)
    refine S.g_yes rfl rfl rfl (rfl) (S.q (q_len Tryd.underlying47 rfl) rfl rfl ?_)
    refine S.g_yes rfl rfl rfl (rfl) (S.q (q_move rfl) rfl rfl ?_)
    refine S.g_yes rfl rfl rfl (rfl) (S.q (q_move rfl) rfl rfl ?_)
    refine S.g_yes rfl rfl rfl (rfl) (S.q (q_sub rfl rfl (inU32 (by omega) (by omega))) rfl rfl ?_)
    refine S.g_yes rfl rfl rfl (rfl) (S.q (q_indexO (x.id - 1) Tryd.el70 rfl hsa rfl (by omega) (by omega)) rfl rfl ?_)
    refine S.g_yes rfl rfl rfl (rfl) (S.q (q_loadR hRs (x.id - 1) Tryd.at5 rfl hsa (by omega) (by omega) (by rw [bcells, List.getElem?_map, hwx]; rfl)) rfl rfl ?_)
    refine S.g_yes rfl rfl rfl (rfl) (S.q (q_rem rfl rfl (⟨by omega, by omega⟩)) rfl rfl ?_)
    refine S.g_yes rfl rfl rfl (rfl) (S.q (q_conv Tryd.it3 (by rw [Tryd.underlying5]; rfl) rfl (inI64 (by omega) (by omega))) rfl rfl ?_)
    refine S.g_yes rfl rfl rfl (rfl) (S.q (q_add rfl rfl (inI64 (by omega) (by omega))) rfl rfl ?_)
    refine S.g_yes rfl rfl rfl (rfl) (S.q (q_ne rfl rfl) rfl rfl ?_)
    refine S.g_op rfl (S.q (q_pickF rfl (rfl) rfl) rfl rfl ?_)
    first | with_reducible refine S.g_nilK ?_ | refine S.g_nil ?_
    refine hK15 _ _ ?_
    refine S.condD rfl (fun h3 => ?_) (fun h3 => ?_)
    · exact absurd (show (nv1.n : Int) = 1 + wx % 6 by omega) h3
    · refine S.skip ?_
      with_reducible repeat (first | refine S.then_n ?_ | refine S.then_x ?_ | refine S.then_r ?_ | refine S.inBlock_n ?_ | refine S.inBlock_r ?_ | refine S.inBlock_x rfl ?_ | refine S.noGoto_r ?_ | refine S.noGoto_n ?_ | refine S.noGoto_x ?_)
      refine hK14 _ _ ?_
      refine S.seq fun K16 hK16 => ?_
      refine S.region rfl ?_
      refine S.op (S.q (q_move rfl) rfl rfl ?_)
      refine S.op (S.q (q_len Tryd.underlying47 rfl) rfl rfl ?_)
      refine S.op (S.q (q_move rfl) rfl rfl ?_)
      first | with_reducible refine S.nilK ?_ | refine S.nil ?_
      refine hK16 _ _ ?_
      refine S.block ?_
      refine S.loop (fun q2 ρ' Γ' => ∃ (i : Nat) (l2 : List (Nat × Nat)), q2 = (lst x.ns).length - i ∧ i ≤ (lst x.ns).length ∧ (∀ z ∈ l2, (∃ y ∈ m.js.take p, y.row = z.1 ∧ y.ns.getLsbD z.2 = true) ∨ (z.1 = x.row ∧ z.2 ∈ (lst x.ns).take i)) ∧ ρ' = [(2, s.v), (9, .pointer (some ⟨b, 0, none⟩)), (11, .int .i64 (m.R : Int)), (13, .map (some b45)), (15, .int .u32 (x.id : Int)), (16, .int .i64 (x.row : Int)), (47, jv.v), (48, .int .i64 jv.n), (49, .int .i64 (p : Int)), (75, nv1.v), (76, .int .i64 nv1.n), (77, .int .i64 (i : Int))] ∧   Γ' = own nv1 3 1 (nds (lst x.ns)) :: own jv 44 1 (idsV (jobIds m)) :: setK b45 l2 :: MI b m :: old W :: Γ) (m := _) (ρ0 := _) (Γ0 := _) (⟨0, l, rfl, by omega, fun z hz => .inl (hl z hz), rfl, rfl⟩) (by repeat (first | exact trivial | refine ⟨rfl, ?_⟩)) Sub.ent ?_
      rintro q2 ρ' Γ' ⟨i, l2, hq2, hi, hl2, rfl, rfl⟩
      refine S.seq fun K17 hK17 => ?_
      refine S.region rfl ?_
      refine S.op (S.q (q_lt rfl rfl) rfl rfl ?_)
      first | with_reducible refine S.nilK ?_ | refine S.nil ?_
      refine hK17 _ _ ?_
      refine S.seq fun K18 hK18 => ?_
      refine S.condD rfl (fun h4 => ?_) (fun h4 => ?_)
      · refine S.ownSome nv1 (by omega) fun nb no hna _ _ _ => ?_
        obtain ⟨y, hy⟩ := getE (show i < (lst x.ns).length by omega)
        have hyb := mem_lst.1 (List.mem_of_getElem? hy)
        have hyN : y < m.N := hok.ns x hxm y hyb
        have hnew : (x.row, y) ∉ l2 := fun h => by
          rcases hl2 _ h with ⟨z, z1, z2, z3⟩ | ⟨_, z2⟩
          · obtain ⟨z4, z5⟩ := htk z z1
            exact hok.dis z z4 x hxm z5 z2 y z3 hyb
          · obtain ⟨hi2, he⟩ := List.getElem?_eq_some_iff.1 hy
            have h9 := lst_rise x.ns
            rw [← List.take_append_drop i (lst x.ns), List.drop_eq_getElem_cons hi2, he] at h9
            have := (List.pairwise_append.1 h9).2.2 y z2 y (List.mem_cons_self ..)
            omega
        have hat : atR m (x.row : Nat) (y : Nat) = x.id := by
          rw [atR, rowB_iff.2 ⟨by omega, by omega⟩, nodeB_iff.2 ⟨by omega, by omega⟩, Int.toNat_natCast, Int.toNat_natCast]
          exact atJ_some hok hxm rfl hyb
        have hl3 : ∀ z ∈ l2 ++ [(x.row, y)], (∃ y ∈ m.js.take p, y.row = z.1 ∧ y.ns.getLsbD z.2 = true) ∨ (z.1 = x.row ∧ z.2 ∈ (lst x.ns).take (i + 1)) := fun z hz => by
          rw [List.take_add_one, hy]
          rcases List.mem_append.1 hz with hz | hz
          · rcases hl2 z hz with h | ⟨h1, h2⟩
            · exact .inl h
            · exact .inr ⟨h1, List.mem_append_left _ h2⟩
          · rw [List.mem_singleton] at hz
            rw [hz]
            exact .inr ⟨rfl, List.mem_append_right _ (by simp)⟩
        refine S.skip ?_
        with_reducible repeat (first | refine S.then_n ?_ | refine S.then_x ?_ | refine S.then_r ?_ | refine S.inBlock_n ?_ | refine S.inBlock_r ?_ | refine S.inBlock_x rfl ?_ | refine S.noGoto_r ?_ | refine S.noGoto_n ?_ | refine S.noGoto_x ?_)
        refine hK18 _ _ ?_
        refine S.seq fun K19 hK19 => ?_
        refine S.block ?_
        refine S.seq fun K20 hK20 => ?_
        refine S.region rfl ?_
        refine S.op (S.q (q_indexO (i) Tryd.el47 rfl hna rfl rfl (by omega)) rfl rfl ?_)
        refine S.op (S.q (q_loadOw (nv1) (i) Tryd.at3 rfl hna (by first | rfl | exact Nat.add_assoc _ _ _ | omega) (by rw [List.getElem?_map, hy]; rfl)) rfl rfl ?_)
        refine S.op (S.q (q_assign rfl) rfl rfl ?_)
        first | with_reducible refine S.nilK ?_ | refine S.nil ?_
        refine hK20 _ _ ?_
        refine S.seq fun K21 hK21 => ?_
        refine S.seq fun K22 hK22 => ?_
        refine S.regionG ?_
        refine S.g_op rfl (S.q (q_move rfl) rfl rfl ?_)
        refine S.g_op rfl (S.q (q_move rfl) rfl rfl ?_)
        refine S.g_op rfl (S.q (q_move rfl) rfl rfl ?_)
        refine S.g_op rfl (S.q (q_buildA (pvs := [(_, _), (_, _)]) [_, _] Tryd.z80 Tryd.ar80 ⟨⟨rfl, rfl⟩, ⟨rfl, rfl⟩, trivial⟩ rfl) rfl rfl ?_)
        refine S.g_op rfl (S.q (q_lookupK (x.row, y) rfl rfl (show x.row < 8 by omega) (show y < 16 by omega) hnew) rfl rfl ?_)
        refine S.g_op rfl (S.q (q_move rfl) rfl rfl ?_)
        refine S.g_yes rfl rfl rfl (rfl) (S.q (q_move rfl) rfl rfl ?_)
        refine S.g_yes rfl rfl rfl (rfl) (S.q (q_move rfl) rfl rfl ?_)
        refine S.g_yes rfl rfl rfl (rfl) (S.q (q_move rfl) rfl rfl ?_)
        refine S.g_yes rfl rfl rfl (rfl) (S.call Tryd.en38 (vs := [_, _, _]) ⟨rfl, rfl, rfl, trivial⟩ (At_S b m x.row y) rfl ?_)
        rintro v Θ ⟨rfl, rfl⟩
        rw [hat]
        refine S.g_yes rfl rfl rfl (rfl) (S.q (q_move rfl) rfl rfl ?_)
        refine S.g_yes rfl rfl rfl (rfl) (S.q (q_ne rfl rfl) rfl rfl ?_)
        refine S.g_op rfl (S.q (q_pickF rfl (rfl) rfl) rfl rfl ?_)
        first | with_reducible refine S.g_nilK ?_ | refine S.g_nil ?_
        refine hK22 _ _ ?_
        refine S.condD rfl (fun h5 => ?_) (fun h5 => ?_)
        · exact absurd rfl h5
        · refine S.skip ?_
          with_reducible repeat (first | refine S.then_n ?_ | refine S.then_x ?_ | refine S.then_r ?_ | refine S.inBlock_n ?_ | refine S.inBlock_r ?_ | refine S.inBlock_x rfl ?_ | refine S.noGoto_r ?_ | refine S.noGoto_n ?_ | refine S.noGoto_x ?_)
          refine hK21 _ _ ?_
          refine S.region rfl ?_
          refine S.op (S.q (q_move rfl) rfl rfl ?_)
          refine S.op (S.q (q_move rfl) rfl rfl ?_)
          refine S.op (S.q (q_move rfl) rfl rfl ?_)
          refine S.op (S.q (q_buildA (pvs := [(_, _), (_, _)]) [_, _] Tryd.z80 Tryd.ar80 ⟨⟨rfl, rfl⟩, ⟨rfl, rfl⟩, trivial⟩ rfl) rfl rfl ?_)
          refine S.op (S.mapUpdateK (x.row, y) rfl rfl rfl (show x.row < 8 by omega) (show y < 16 by omega) hnew ?_)
          first | with_reducible refine S.nilK ?_ | refine S.nil ?_
          with_reducible repeat (first | refine S.then_n ?_ | refine S.then_x ?_ | refine S.then_r ?_ | refine S.inBlock_n ?_ | refine S.inBlock_r ?_ | refine S.inBlock_x rfl ?_ | refine S.noGoto_r ?_ | refine S.noGoto_n ?_ | refine S.noGoto_x ?_)
          refine hK19 _ _ ?_
          refine S.region rfl ?_
          refine S.op (S.q (q_add rfl rfl (inI64 (by omega) (by omega))) rfl rfl ?_)
          refine S.op (S.q (q_move rfl) rfl rfl ?_)
          first | with_reducible refine S.nilK ?_ | refine S.nil ?_
          with_reducible repeat (first | refine S.then_n ?_ | refine S.then_x ?_ | refine S.then_r ?_ | refine S.inBlock_n ?_ | refine S.inBlock_r ?_ | refine S.inBlock_x rfl ?_ | refine S.noGoto_r ?_ | refine S.noGoto_n ?_ | refine S.noGoto_x ?_)
          exact S.next (q2 - 1) (⟨i + 1, l2 ++ [(x.row, y)], by omega, by omega, hl3, rfl, rfl⟩) (by omega) (by repeat (first | exact trivial | refine ⟨rfl, ?_⟩)) Sub.ent
      · have hl4 : ∀ z ∈ l2, ∃ y ∈ m.js.take (p + 1), y.row = z.1 ∧ y.ns.getLsbD z.2 = true := fun z hz => by
          rw [List.take_add_one, hx]
          rcases hl2 z hz with ⟨y, y1, y2⟩ | ⟨h1, h2⟩
          · exact ⟨y, List.mem_append_left _ y1, y2⟩
          · exact ⟨x, List.mem_append_right _ (by simp), h1.symm, mem_lst.1 (List.mem_of_mem_take h2)⟩
        refine S.exit ?_
        with_reducible repeat (first | refine S.then_n ?_ | refine S.then_x ?_ | refine S.then_r ?_ | refine S.inBlock_n ?_ | refine S.inBlock_r ?_ | refine S.inBlock_x rfl ?_ | refine S.noGoto_r ?_ | refine S.noGoto_n ?_ | refine S.noGoto_x ?_)
        with_reducible refine S.inBlock_s ?_
        with_reducible repeat (first | refine S.then_n ?_ | refine S.then_x ?_ | refine S.then_r ?_ | refine S.inBlock_n ?_ | refine S.inBlock_r ?_ | refine S.inBlock_x rfl ?_ | refine S.noGoto_r ?_ | refine S.noGoto_n ?_ | refine S.noGoto_x ?_)
        with_reducible repeat (first | refine S.then_n ?_ | refine S.then_x ?_ | refine S.then_r ?_ | refine S.inBlock_n ?_ | refine S.inBlock_r ?_ | refine S.inBlock_x rfl ?_ | refine S.noGoto_r ?_ | refine S.noGoto_n ?_ | refine S.noGoto_x ?_)
        refine hK11 _ _ ?_
        refine S.region rfl ?_
        refine S.op (S.q (q_add rfl rfl (inI64 (by omega) (by omega))) rfl rfl ?_)
        refine S.op (S.q (q_move rfl) rfl rfl ?_)
        first | with_reducible refine S.nilK ?_ | refine S.nil ?_
        with_reducible repeat (first | refine S.then_n ?_ | refine S.then_x ?_ | refine S.then_r ?_ | refine S.inBlock_n ?_ | refine S.inBlock_r ?_ | refine S.inBlock_x rfl ?_ | refine S.noGoto_r ?_ | refine S.noGoto_n ?_ | refine S.noGoto_x ?_)
        exact S.next (q - 1) (⟨p + 1, l2, by omega, by omega, hl4, rfl, rfl⟩) (by omega) (by repeat (first | exact trivial | refine ⟨rfl, ?_⟩)) Sub.ent
  · refine S.exit ?_
    with_reducible repeat (first | refine S.then_n ?_ | refine S.then_x ?_ | refine S.then_r ?_ | refine S.inBlock_n ?_ | refine S.inBlock_r ?_ | refine S.inBlock_x rfl ?_ | refine S.noGoto_r ?_ | refine S.noGoto_n ?_ | refine S.noGoto_x ?_)
    with_reducible refine S.inBlock_s ?_
    with_reducible repeat (first | refine S.then_n ?_ | refine S.then_x ?_ | refine S.then_r ?_ | refine S.inBlock_n ?_ | refine S.inBlock_r ?_ | refine S.inBlock_x rfl ?_ | refine S.noGoto_r ?_ | refine S.noGoto_n ?_ | refine S.noGoto_x ?_)
    refine hK7 _ _ ?_
    refine S.seq fun K23 hK23 => ?_
    refine S.seq fun K24 hK24 => ?_
    refine S.region rfl ?_
    refine S.op (S.q (q_move rfl) rfl rfl ?_)
    refine S.op (S.q (q_move rfl) rfl rfl ?_)
    first | with_reducible refine S.nilK ?_ | refine S.nil ?_
    refine hK24 _ _ ?_
    refine S.block ?_
    refine S.loop (fun q ρ' Γ' => ∃ k : Nat, q = m.R - k ∧ k ≤ m.R ∧ ρ' = [(9, .pointer (some ⟨b, 0, none⟩)), (100, .int .i64 (m.R : Int)), (101, .int .i64 (k : Int))] ∧ Γ' = MI b m :: old W :: Γ) (m := _) (ρ0 := _) (Γ0 := _) (⟨0, rfl, by omega, rfl, rfl⟩) (by repeat (first | exact trivial | refine ⟨rfl, ?_⟩)) Sub.ent ?_
    rintro q ρ' Γ' ⟨k, hq, hk, rfl, rfl⟩
    refine S.seq fun K25 hK25 => ?_
    refine S.region rfl ?_
    refine S.op (S.q (q_lt rfl rfl) rfl rfl ?_)
    first | with_reducible refine S.nilK ?_ | refine S.nil ?_
    refine hK25 _ _ ?_
    refine S.seq fun K26 hK26 => ?_
    refine S.condD rfl (fun h6 => ?_) (fun h6 => ?_)
    · have hkR : k < m.R := by omega
      obtain ⟨G, hG⟩ : ∃ G, G = goJ m k := ⟨_, rfl⟩
      have hids := goJ_ids hkR
      have hl16 := rowJ_len m k
      have hf16 := fillUp_len m k m.R
      have hGl : G.length ≤ 144 := by rw [hG, goJ, List.length_append]; omega
      rw [← hG] at hids
      have hidl := congrArg List.length hids
      rw [List.length_append, List.length_map] at hidl
      refine S.skip ?_
      with_reducible repeat (first | refine S.then_n ?_ | refine S.then_x ?_ | refine S.then_r ?_ | refine S.inBlock_n ?_ | refine S.inBlock_r ?_ | refine S.inBlock_x rfl ?_ | refine S.noGoto_r ?_ | refine S.noGoto_n ?_ | refine S.noGoto_x ?_)
      refine hK26 _ _ ?_
      refine S.seq fun K27 hK27 => ?_
      refine S.block ?_
      refine S.seq fun K28 hK28 => ?_
      refine S.region rfl ?_
      refine S.op (S.q (q_move rfl) rfl rfl ?_)
      refine S.op (S.q (q_assign rfl) rfl rfl ?_)
      first | with_reducible refine S.nilK ?_ | refine S.nil ?_
      refine hK28 _ _ ?_
      refine S.seq fun K29 hK29 => ?_
      refine S.region rfl ?_
      refine S.op (S.makeMap .i64 rfl ?_)
      intro b104
      refine S.op (S.q (q_assign rfl) rfl rfl ?_)
      first | with_reducible refine S.nilK ?_ | refine S.nil ?_
      refine hK29 _ _ ?_
      refine S.seq fun K30 hK30 => ?_
      refine S.region rfl ?_
      refine S.op (S.q (q_move rfl) rfl rfl ?_)
      refine S.op (S.q (q_move rfl) rfl rfl ?_)
      refine S.op (S.call Tryd.en35 (vs := [_, _]) ⟨rfl, rfl, trivial⟩ (Row_S b m k hW) rfl ?_)
      rintro v Θ ⟨rv, rfl, hrv, rfl⟩
      refine S.op (S.q (q_move rfl) rfl rfl ?_)
      refine S.op (S.q (q_move rfl) rfl rfl ?_)
      refine S.op (S.call Tryd.en36 (vs := [_, _]) ⟨rfl, rfl, trivial⟩ (Fill_S b m k hW) rfl ?_)
      rintro v Θ ⟨fv, rfl, hfv, rfl⟩
      refine S.op (S.appendOw (s := rv) (fv.n) (idsV (fillIds m k)) Tryd.underlying31 Tryd.inf44 rfl rfl rfl (fun w hs => (RdS.own (s := fv) (e := 44) (sz := 1) (xs := idsV (fillIds m k))).at_ hs) (ids_one _) (⟨by omega, by omega⟩) rfl ?_)
      intro gv hgv
      rw [show idsV (rowIds m k) ++ idsV (fillIds m k) = idsV (G.map (·.id)) by rw [← hids]; exact (List.map_append).symm]
      refine S.op (S.q (q_len Tryd.underlying31 rfl) rfl rfl ?_)
      refine S.op (S.q (q_move rfl) rfl rfl ?_)
      first | with_reducible refine S.nilK ?_ | refine S.nil ?_
      refine hK30 _ _ ?_
      refine S.block ?_
      refine S.loop (fun q2 ρ' Γ' => ∃ (p : Nat) (ml : List (Int × Value)), q2 = G.length - p ∧ p ≤ G.length ∧ (∀ y : Nat, alGet (y : Int) ml = if (orJ (G.take p)).getLsbD y = true then some (.bool true) else none) ∧ ρ' = [(9, .pointer (some ⟨b, 0, none⟩)), (22, .map (some b104)), (100, .int .i64 (m.R : Int)), (101, .int .i64 (k : Int)), (111, gv.v), (112, .int .i64 gv.n), (113, .int .i64 (p : Int))] ∧   Γ' = mapL b104 .i64 ml :: own gv 44 1 (idsV (G.map (·.id))) :: MI b m :: old W :: Γ) (m := _) (ρ0 := _) (Γ0 := _) (⟨0, [], rfl, by omega, fun _ => by simp [orJ, alGet], rfl, rfl⟩) (by repeat (first | exact trivial | refine ⟨rfl, ?_⟩)) Sub.ent ?_
      rintro q2 ρ' Γ' ⟨p, ml, hq2, hp, hml, rfl, rfl⟩
      refine S.seq fun K31 hK31 => ?_
      refine S.region rfl ?_
      refine S.op (S.q (q_lt rfl rfl) rfl rfl ?_)
      first | with_reducible refine S.nilK ?_ | refine S.nil ?_
      refine hK31 _ _ ?_
      refine S.seq fun K32 hK32 => ?_
      refine S.condD rfl (fun h7 => ?_) (fun h7 => ?_)
      · refine S.ownSome gv (by omega) fun gb go hga _ _ _ => ?_
        obtain ⟨x, hx⟩ := getE (show p < G.length by omega)
        have hxm : x ∈ m.js := goJ_mem hok (k := k) (by rw [← hG]; exact List.mem_of_getElem? hx)
        have hof := ofR_some (look_mem hok.srt hxm)
        have hfree : ∀ i, x.ns.getLsbD i = true → (orJ (G.take p)).getLsbD i = false := by rw [hG] at hx ⊢; exact goJ_step hok hx
        have ht1 : G.take (p + 1) = G.take p ++ [x] := by rw [List.take_add_one, hx]; rfl
        have hx16 := lst_len x.ns
        refine S.skip ?_
        with_reducible repeat (first | refine S.then_n ?_ | refine S.then_x ?_ | refine S.then_r ?_ | refine S.inBlock_n ?_ | refine S.inBlock_r ?_ | refine S.inBlock_x rfl ?_ | refine S.noGoto_r ?_ | refine S.noGoto_n ?_ | refine S.noGoto_x ?_)
        refine hK32 _ _ ?_
        refine S.seq fun K33 hK33 => ?_
        refine S.block ?_
        refine S.seq fun K34 hK34 => ?_
        refine S.region rfl ?_
        refine S.op (S.q (q_indexO (p) Tryd.el31 rfl hga rfl rfl (by omega)) rfl rfl ?_)
        refine S.op (S.q (q_loadOw (gv) (p) Tryd.at44 rfl hga (by first | rfl | exact Nat.add_assoc _ _ _ | omega) (idsV_at hx)) rfl rfl ?_)
        refine S.op (S.q (q_assign rfl) rfl rfl ?_)
        first | with_reducible refine S.nilK ?_ | refine S.nil ?_
        refine hK34 _ _ ?_
        refine S.seq fun K35 hK35 => ?_
        refine S.region rfl ?_
        refine S.op (S.q (q_move rfl) rfl rfl ?_)
        refine S.op (S.q (q_move rfl) rfl rfl ?_)
        refine S.op (S.call Tryd.en21 (vs := [_, _]) ⟨rfl, rfl, trivial⟩ (Of_S b m x.id hW) rfl ?_)
        rintro v Θ ⟨nv1, rfl, hnv, rfl⟩
        rw [hof] at hnv ⊢
        simp only at hnv ⊢
        refine S.op (S.q (q_move rfl) rfl rfl ?_)
        refine S.op (S.q (q_extract rfl rfl) rfl rfl ?_)
        refine S.op (S.q (q_extract rfl rfl) rfl rfl ?_)
        refine S.op (S.q (q_extract rfl rfl) rfl rfl ?_)
        refine S.op (S.q (q_assign rfl) rfl rfl ?_)
        refine S.op (S.q (q_assign rfl) rfl rfl ?_)
        refine S.op (S.q (q_assign rfl) rfl rfl ?_)
        first | with_reducible refine S.nilK ?_ | refine S.nil ?_
        refine hK35 _ _ ?_
        refine S.seq fun K36 hK36 => ?_
        refine S.region rfl ?_
        refine S.op (S.q (q_move rfl) rfl rfl ?_)
        refine S.op (S.q (q_len Tryd.underlying47 rfl) rfl rfl ?_)
        refine S.op (S.q (q_move rfl) rfl rfl ?_)
        first | with_reducible refine S.nilK ?_ | refine S.nil ?_
        refine hK36 _ _ ?_
        refine S.block ?_
        refine S.loop (fun q3 ρ' Γ' => ∃ (i : Nat) (T : Bs) (ml2 : List (Int × Value)), q3 = (lst x.ns).length - i ∧ i ≤ (lst x.ns).length ∧ T = orJ (G.take p) ||| ofL ((lst x.ns).take i) ∧ (∀ y : Nat, alGet (y : Int) ml2 = if T.getLsbD y = true then some (.bool true) else none) ∧ ρ' = [(9, .pointer (some ⟨b, 0, none⟩)), (22, .map (some b104)), (100, .int .i64 (m.R : Int)), (101, .int .i64 (k : Int)), (111, gv.v), (112, .int .i64 gv.n), (113, .int .i64 (p : Int)), (124, nv1.v), (125, .int .i64 nv1.n), (126, .int .i64 (i : Int))] ∧   Γ' = own nv1 3 1 (nds (lst x.ns)) :: mapL b104 .i64 ml2 :: own gv 44 1 (idsV (G.map (·.id))) :: MI b m :: old W :: Γ) (m := _) (ρ0 := _) (Γ0 := _) (⟨0, orJ (G.take p), ml, rfl, by omega, by simp [ofL], hml, rfl, rfl⟩) (by repeat (first | exact trivial | refine ⟨rfl, ?_⟩)) Sub.ent ?_
        rintro q3 ρ' Γ' ⟨i, T, ml2, hq3, hi, hT, hml2, rfl, rfl⟩
        refine S.seq fun K37 hK37 => ?_
        refine S.region rfl ?_
        refine S.op (S.q (q_lt rfl rfl) rfl rfl ?_)
        first | with_reducible refine S.nilK ?_ | refine S.nil ?_
        refine hK37 _ _ ?_
        refine S.seq fun K38 hK38 => ?_
        refine S.condD rfl (fun h8 => ?_) (fun h8 => ?_)
        · refine S.ownSome nv1 (by omega) fun nb no hna _ _ _ => ?_
          obtain ⟨y, hy⟩ := getE (show i < (lst x.ns).length by omega)
          have hyN : y < m.N := hok.ns x hxm y (mem_lst.1 (List.mem_of_getElem? hy))
          obtain ⟨hb1, hb2⟩ := node_step hfree hy
          rw [← hT] at hb1 hb2
          have hml3 : ∀ z : Nat, alGet (z : Int) (alPut (y : Int) (.bool true) ml2) = if (T ||| BitVec.twoPow 16 y).getLsbD z = true then some (.bool true) else none := fun z => by
            rw [alGet_put, hml2 z, BitVec.getLsbD_or, BitVec.getLsbD_twoPow]
            by_cases e : z = y
            · subst e
              have : z < 16 := by omega
              simp [this]
            · have e2 : ¬ y = z := fun h => e h.symm
              rw [if_neg (by omega)]
              simp [e2]
          refine S.skip ?_
          with_reducible repeat (first | refine S.then_n ?_ | refine S.then_x ?_ | refine S.then_r ?_ | refine S.inBlock_n ?_ | refine S.inBlock_r ?_ | refine S.inBlock_x rfl ?_ | refine S.noGoto_r ?_ | refine S.noGoto_n ?_ | refine S.noGoto_x ?_)
          refine hK38 _ _ ?_
          refine S.seq fun K39 hK39 => ?_
          refine S.block ?_
          refine S.seq fun K40 hK40 => ?_
          refine S.region rfl ?_
          refine S.op (S.q (q_indexO (i) Tryd.el47 rfl hna rfl rfl (by omega)) rfl rfl ?_)
          refine S.op (S.q (q_loadOw (nv1) (i) Tryd.at3 rfl hna (by first | rfl | exact Nat.add_assoc _ _ _ | omega) (by rw [List.getElem?_map, hy]; rfl)) rfl rfl ?_)
          refine S.op (S.q (q_assign rfl) rfl rfl ?_)
          first | with_reducible refine S.nilK ?_ | refine S.nil ?_
          refine hK40 _ _ ?_
          refine S.seq fun K41 hK41 => ?_
          refine S.seq fun K42 hK42 => ?_
          refine S.region rfl ?_
          refine S.op (S.q (q_move rfl) rfl rfl ?_)
          refine S.op (S.q (q_move rfl) rfl rfl ?_)
          refine S.op (S.q (q_lookup1 (.bool false) Tryd.underlying82 Tryd.underlying3 Tryd.zv4 rfl rfl rfl (by rw [hml2 y, if_neg (by rw [hb1]; decide)]; rfl)) rfl rfl ?_)
          first | with_reducible refine S.nilK ?_ | refine S.nil ?_
          refine hK42 _ _ ?_
          refine S.condF rfl ?_
          refine S.skip ?_
          with_reducible repeat (first | refine S.then_n ?_ | refine S.then_x ?_ | refine S.then_r ?_ | refine S.inBlock_n ?_ | refine S.inBlock_r ?_ | refine S.inBlock_x rfl ?_ | refine S.noGoto_r ?_ | refine S.noGoto_n ?_ | refine S.noGoto_x ?_)
          refine hK41 _ _ ?_
          refine S.region rfl ?_
          refine S.op (S.q (q_move rfl) rfl rfl ?_)
          refine S.op (S.q (q_move rfl) rfl rfl ?_)
          refine S.op (S.mapUpdate Tryd.underlying82 Tryd.underlying3 rfl rfl rfl rfl ?_)
          first | with_reducible refine S.nilK ?_ | refine S.nil ?_
          with_reducible repeat (first | refine S.then_n ?_ | refine S.then_x ?_ | refine S.then_r ?_ | refine S.inBlock_n ?_ | refine S.inBlock_r ?_ | refine S.inBlock_x rfl ?_ | refine S.noGoto_r ?_ | refine S.noGoto_n ?_ | refine S.noGoto_x ?_)
          refine hK39 _ _ ?_
          refine S.region rfl ?_
          refine S.op (S.q (q_add rfl rfl (inI64 (by omega) (by omega))) rfl rfl ?_)
          refine S.op (S.q (q_move rfl) rfl rfl ?_)
          first | with_reducible refine S.nilK ?_ | refine S.nil ?_
          with_reducible repeat (first | refine S.then_n ?_ | refine S.then_x ?_ | refine S.then_r ?_ | refine S.inBlock_n ?_ | refine S.inBlock_r ?_ | refine S.inBlock_x rfl ?_ | refine S.noGoto_r ?_ | refine S.noGoto_n ?_ | refine S.noGoto_x ?_)
          exact S.next (q3 - 1) (⟨i + 1, T ||| BitVec.twoPow 16 y, _, by omega, by omega, hb2, hml3, rfl, rfl⟩) (by omega) (by repeat (first | exact trivial | refine ⟨rfl, ?_⟩)) Sub.ent
        · rw [show i = (lst x.ns).length by omega, List.take_length, ofL_lst, ← orJ_snoc, ← ht1] at hT
          rw [hT] at hml2
          refine S.exit ?_
          with_reducible repeat (first | refine S.then_n ?_ | refine S.then_x ?_ | refine S.then_r ?_ | refine S.inBlock_n ?_ | refine S.inBlock_r ?_ | refine S.inBlock_x rfl ?_ | refine S.noGoto_r ?_ | refine S.noGoto_n ?_ | refine S.noGoto_x ?_)
          with_reducible refine S.inBlock_s ?_
          with_reducible repeat (first | refine S.then_n ?_ | refine S.then_x ?_ | refine S.then_r ?_ | refine S.inBlock_n ?_ | refine S.inBlock_r ?_ | refine S.inBlock_x rfl ?_ | refine S.noGoto_r ?_ | refine S.noGoto_n ?_ | refine S.noGoto_x ?_)
          with_reducible repeat (first | refine S.then_n ?_ | refine S.then_x ?_ | refine S.then_r ?_ | refine S.inBlock_n ?_ | refine S.inBlock_r ?_ | refine S.inBlock_x rfl ?_ | refine S.noGoto_r ?_ | refine S.noGoto_n ?_ | refine S.noGoto_x ?_)
          refine hK33 _ _ ?_
          refine S.region rfl ?_
          refine S.op (S.q (q_add rfl rfl (inI64 (by omega) (by omega))) rfl rfl ?_)
          refine S.op (S.q (q_move rfl) rfl rfl ?_)
          first | with_reducible refine S.nilK ?_ | refine S.nil ?_
          with_reducible repeat (first | refine S.then_n ?_ | refine S.then_x ?_ | refine S.then_r ?_ | refine S.inBlock_n ?_ | refine S.inBlock_r ?_ | refine S.inBlock_x rfl ?_ | refine S.noGoto_r ?_ | refine S.noGoto_n ?_ | refine S.noGoto_x ?_)
          exact S.next (q2 - 1) (⟨p + 1, ml2, by omega, by omega, hml2, rfl, rfl⟩) (by omega) (by repeat (first | exact trivial | refine ⟨rfl, ?_⟩)) Sub.ent
      · refine S.exit ?_
        with_reducible repeat (first | refine S.then_n ?_ | refine S.then_x ?_ | refine S.then_r ?_ | refine S.inBlock_n ?_ | refine S.inBlock_r ?_ | refine S.inBlock_x rfl ?_ | refine S.noGoto_r ?_ | refine S.noGoto_n ?_ | refine S.noGoto_x ?_)
        with_reducible refine S.inBlock_s ?_
        with_reducible repeat (first | refine S.then_n ?_ | refine S.then_x ?_ | refine S.then_r ?_ | refine S.inBlock_n ?_ | refine S.inBlock_r ?_ | refine S.inBlock_x rfl ?_ | refine S.noGoto_r ?_ | refine S.noGoto_n ?_ | refine S.noGoto_x ?_)
        with_reducible repeat (first | refine S.then_n ?_ | refine S.then_x ?_ | refine S.then_r ?_ | refine S.inBlock_n ?_ | refine S.inBlock_r ?_ | refine S.inBlock_x rfl ?_ | refine S.noGoto_r ?_ | refine S.noGoto_n ?_ | refine S.noGoto_x ?_)
        refine hK27 _ _ ?_
        refine S.region rfl ?_
        refine S.op (S.q (q_add rfl rfl (inI64 (by omega) (by omega))) rfl rfl ?_)
        refine S.op (S.q (q_move rfl) rfl rfl ?_)
        first | with_reducible refine S.nilK ?_ | refine S.nil ?_
        with_reducible repeat (first | refine S.then_n ?_ | refine S.then_x ?_ | refine S.then_r ?_ | refine S.inBlock_n ?_ | refine S.inBlock_r ?_ | refine S.inBlock_x rfl ?_ | refine S.noGoto_r ?_ | refine S.noGoto_n ?_ | refine S.noGoto_x ?_)
        exact S.next (q - 1) (⟨k + 1, by omega, by omega, rfl, rfl⟩) (by omega) (by repeat (first | exact trivial | refine ⟨rfl, ?_⟩)) Sub.ent
    · refine S.exit ?_
      with_reducible repeat (first | refine S.then_n ?_ | refine S.then_x ?_ | refine S.then_r ?_ | refine S.inBlock_n ?_ | refine S.inBlock_r ?_ | refine S.inBlock_x rfl ?_ | refine S.noGoto_r ?_ | refine S.noGoto_n ?_ | refine S.noGoto_x ?_)
      with_reducible refine S.inBlock_s ?_
      with_reducible repeat (first | refine S.then_n ?_ | refine S.then_x ?_ | refine S.then_r ?_ | refine S.inBlock_n ?_ | refine S.inBlock_r ?_ | refine S.inBlock_x rfl ?_ | refine S.noGoto_r ?_ | refine S.noGoto_n ?_ | refine S.noGoto_x ?_)
      refine hK23 _ _ ?_
      refine S.seq fun K43 hK43 => ?_
      refine S.region rfl ?_
      refine S.op (S.q (q_assign rfl) rfl rfl ?_)
      first | with_reducible refine S.nilK ?_ | refine S.nil ?_
      refine hK43 _ _ ?_
      refine S.ret ?_
      with_reducible repeat (first | refine S.then_n ?_ | refine S.then_x ?_ | refine S.then_r ?_ | refine S.inBlock_n ?_ | refine S.inBlock_r ?_ | refine S.inBlock_x rfl ?_ | refine S.noGoto_r ?_ | refine S.noGoto_n ?_ | refine S.noGoto_x ?_)
      exact S.fin (rs := [_]) (vs := [_]) Tryd.results7 (⟨rfl, trivial⟩)  (⟨rfl, rfl⟩) Sub.ent
open Go.ChangeShapes Go.WideShapes Go.ChangeAt
theorem RowsApart_law {H : Type} (enc : TypeId × Value → H) : LawWalkT enc Rows.rowsApartRow.laid 7 Tryd.f7 := by
  intro W base args ds before hval hA _ _ hL
  rw [Tryd.params7] at hA hval
  obtain ⟨v0, vs0, d0, ds0, p0, q0, hargs, rfl, rfl, h0, r0⟩ := trodAll_cons hA
  obtain ⟨v1, vs1, d1, ds1, p1, q1, rfl, rfl, rfl, h1, r1⟩ := trodAll_cons r0
  obtain ⟨v2, vs2, d2, ds2, p2, q2, rfl, rfl, rfl, h2, r2⟩ := trodAll_cons r1
  obtain ⟨v3, vs3, d3, ds3, p3, q3, rfl, rfl, rfl, h3, r3⟩ := trodAll_cons r2
  obtain ⟨rfl, rfl, rfl⟩ := trodAll_nil r3
  obtain rfl : args = #[v0, v1, v2, v3] := by cases args; simp_all
  obtain ⟨r, rfl, hr⟩ := arg_int Tryd.underlying5 (hval 0 5 v0 rfl rfl) h0
  obtain ⟨n, rfl, hn⟩ := arg_int Tryd.underlying5 (hval 1 5 v1 rfl rfl) h1
  obtain ⟨s, ws, e2, hs⟩ := rd_bytes (arg_slice 4 Tryd.underlying70 (by kernel_rfl) (hval 2 70 v2 rfl rfl) h2)
  simp only [List.cons.injEq, and_true] at e2
  subst e2
  obtain ⟨t, gs, e3, ht⟩ := rd_bytes (arg_slice 4 Tryd.underlying70 (by kernel_rfl) (hval 3 70 v3 rfl rfl) h3)
  simp only [List.cons.injEq, and_true] at e3
  subst e3
  exact law_run (RowsApart_S r n ws gs s t (u8_rng hr) (u8_rng hn) (tabW_of rfl hL) hs ht)
set_option maxRecDepth 100000 in
theorem RowsApart_met (os : Os) (args : Array Value) : laidMetH Tryd.prog Rows.rowsApartRow.laid ((World.doorLaid Tryd.prog 14 os).forCall (fun _ _ => 0) ⟨#[], args, []⟩).memory :=
  laidMetH_of_parts3 (fuel := 8) (laidMet_of_run' 8 (by kernel_rfl) (by kernel_rfl)) (by kernel_rfl) (by kernel_rfl)
set_option maxRecDepth 100000 in
theorem RowsApart_lifted (os : Os) (started : os.Started) (H : Type) (enc : TypeId × Value → H) :
    ReturnsInHanded {} Tryd.checked os 7 .any (fun w args => (Rows.rowsApartSpec.pre enc Tryd.prog Tryd.f7 [] false w args ∧ laidMetH Tryd.prog Rows.rowsApartRow.laid w) ∧ sizedMet enc Tryd.prog Tryd.f7 (OpenSpec.ofChange Rows.rowsApartSpec) false w args) (Rows.rowsApartSpec.post enc Tryd.prog Tryd.f7 false true false false) :=
  lift_trueT started Tryd.func7 (by kernel_rfl)
    (ChangeSpec.witness_shaped (enc := enc) (C := Tryd.checked) (os := os) (X := fun w _ => laidMetH Tryd.prog Rows.rowsApartRow.laid w) false (World.doorLaid Tryd.prog 14 os) #[.int .u8 0, .int .u8 0, .slice none 0 0, .slice none 0 0] 8 rfl (World.shaped_of_RefB (by kernel_rfl) (by kernel_rfl)) (by kernel_rfl) (by kernel_rfl) (by kernel_rfl) (RowsApart_met os _))
    rfl rfl (by kernel_rfl) (fun ds h => by match ds, h with | [a0, a1, a2, a3], _ => rfl) (RowsApart_law enc)
theorem RowsApart_over : Rows.rowsApartRow.holds Tryd.pinned (OpenSpec.ofChange Rows.rowsApartSpec) :=
  OpenClaim.holds_of_wide 7 Tryd.f7 rfl rfl rfl rfl rfl rfl rfl ⟨rfl, rfl, rfl, rfl, rfl⟩ rfl rfl rfl rfl rfl (by kernel_rfl) Tryd.func7 (by kernel_rfl)
    (of_decide_eq_true (by kernel_rfl)) (by unfold Func.isWrapper; first | (rw [if_pos (by decide +kernel)]; kernel_rfl) | (rw [if_neg (by decide +kernel)]; exact ⟨rfl, rfl⟩))
    (fun os started H enc _ => RowsApart_lifted os started H enc)
theorem RowsApart_holds : Rows.RowsApartCardSaid :=
  Claim7.holds_tied_plain_at .later [] [.data] true (true, "21aec34ea999ad6b65f709c9daebdd010d0ae6c2425dde88f7cd8918f57ba87f") true
    RowsApart_over (fun _ h => by cases h) (by kernel_rfl) (fun _ h => by cases h) rowsApart_row_tie rfl ⟨rfl, rfl⟩ (by kernel_rfl) rfl
    (fun f fn hf hfn => by
      obtain rfl : f = 7 := Option.some.inj ((show Tryd.prog.funcNamed "quadrille/quadrillelaw12.RowsApart" = some 7 by kernel_rfl).symm.trans hf) |>.symm
      obtain rfl : fn = Tryd.f7 := (Option.some.inj (Tryd.func7.symm.trans hfn)).symm
      exact ⟨by kernel_rfl, fun j t ht => by
        rw [Tryd.params7] at ht
        have hm : t ∈ [5, 5, 70, 70] := by simpa using Array.mem_of_getElem? ht
        have hall : ([5, 5, 70, 70].all fun u => !Tryd.prog.wantsStandIn u) = true := by kernel_rfl
        exact (show Tryd.prog.wantsStandIn t = false by simpa using List.all_eq_true.1 hall t hm)⟩)
    (by kernel_rfl)
#print axioms RowsApart_holds
end Go.Proofs.YtmhdapbfpenjpaaDoor
