/- The law AirOrder: what is taken down by the oldest number comes in the order in which it began to fly. -/
import Derived.Test.YthbckdjncmipeaaAirSame
namespace Go.Proofs.Ythbckdjncmipeaa
open Go.RowKit
abbrev idC (x : Flt) : List Value := [.int .u64 x.id]
abbrev brC (r : BR) : List Value := [r.v.v]
/-- What flies is what is wanted, in order. -/
def Wants (W : World) (ws : List BR) (os : List Flt) : Prop := ws.length = os.length ∧ (∀ w ∈ ws, BW W w.v w.l) ∧ ∀ (i : Nat) (x : Flt) (w : BR), os[i]? = some x → ws[i]? = some w → x.data = w.l ∧ x.data.length ≤ 40
theorem Wants.nil (W : World) : Wants W [] [] := ⟨rfl, fun _ h => (by cases h), fun i x w h _ => (by simp at h)⟩
theorem Wants.snoc {W : World} {ws : List BR} {os : List Flt} (h : Wants W ws os) {w : BR} {x : Flt} (hw : BW W w.v w.l) (hx : x.data = w.l) (hl : x.data.length ≤ 40) : Wants W (ws ++ [w]) (os ++ [x]) := by
  refine ⟨by simp [h.1], fun z hz => ?_, fun i y z hy hz => ?_⟩
  · rcases List.mem_append.1 hz with hz | hz
    · exact h.2.1 z hz
    · simp at hz; subst hz; exact hw
  · by_cases hi : i < os.length
    · rw [List.getElem?_append_left hi] at hy
      rw [List.getElem?_append_left (by rw [h.1]; exact hi)] at hz
      exact h.2.2 i y z hy hz
    · rw [List.getElem?_append_right (by omega)] at hy
      rw [List.getElem?_append_right (by rw [h.1]; omega)] at hz
      have h1 := (List.getElem?_eq_some_iff.1 hy).1
      simp at h1
      have e0 : i = os.length := by omega
      rw [e0, h.1] at hz
      rw [e0] at hy
      simp at hy hz
      subst hy hz
      exact ⟨hx, hl⟩
set_option maxHeartbeats 800000 in
theorem AirOrder_S (s0 : SV) (rs : List BR) (ec : Int) (W : World) (hn0 : s0.n = rs.length) (h0 : SlAt W s0.v rs.length 1 (rs.flatMap fun r => [r.v.v])) (hr : ∀ r ∈ rs, BW W r.v r.l) (hw : 0 ≤ ec ∧ ec ≤ 255) : LawS 3 [s0.v, .int .u8 ec] W := by
  have hm0 := slAt_cap h0
  unfold maxLen at hm0
  refine Spec.of_body Try.func3 rfl Try.ntmps3 rfl ?_
  intro w0 Γ
  show S _ w0 [(0, s0.v), (1, .int .u8 ec)] (old W :: Γ) _
  refine S.seq fun K1 hK1 => ?_
  refine S.region rfl ?_
  refine S.op (S.q (q_assign rfl) rfl rfl ?_)
  first | with_reducible refine S.nilK ?_ | refine S.nil ?_
  refine hK1 _ _ ?_
  refine S.seq fun K2 hK2 => ?_
  refine S.seq fun K3 hK3 => ?_
  refine S.region rfl ?_
  refine S.op (S.call Try.en7 (vs := []) trivial (awake_S) rfl ?_)
  rintro v Θ ⟨rfl, rfl⟩
  refine S.op (S.q (q_not rfl) rfl rfl ?_)
  first | with_reducible refine S.nilK ?_ | refine S.nil ?_
  refine hK3 _ _ ?_
  refine S.condF rfl ?_
  refine S.skip ?_
  with_reducible repeat (first | refine S.then_n ?_ | refine S.then_x ?_ | refine S.then_r ?_ | refine S.inBlock_n ?_ | refine S.inBlock_r ?_ | refine S.inBlock_x rfl ?_ | refine S.noGoto_r ?_ | refine S.noGoto_n ?_ | refine S.noGoto_x ?_)
  refine hK2 _ _ ?_
  refine S.seq fun K4 hK4 => ?_
  refine S.region rfl ?_
  refine S.op (S.call Try.en8 (vs := [_]) ⟨rfl, trivial⟩ (New_S 100 (by omega)) rfl ?_)
  rintro v Θ ⟨t, rfl, rfl⟩
  refine S.op (S.q (q_move rfl) rfl rfl ?_)
  refine S.op (S.q (q_extract rfl rfl) rfl rfl ?_)
  refine S.op (S.q (q_extract rfl rfl) rfl rfl ?_)
  refine S.op (S.q (q_assign rfl) rfl rfl ?_)
  refine S.op (S.q (q_assign rfl) rfl rfl ?_)
  first | with_reducible refine S.nilK ?_ | refine S.nil ?_
  refine hK4 _ _ ?_
  refine S.seq fun K5 hK5 => ?_
  refine S.seq fun K6 hK6 => ?_
  refine S.region rfl ?_
  refine S.op (S.q (q_move rfl) rfl rfl ?_)
  refine S.op (S.q (q_ne rfl rfl) rfl rfl ?_)
  first | with_reducible refine S.nilK ?_ | refine S.nil ?_
  refine hK6 _ _ ?_
  refine S.condD rfl (fun h2 => ?_) (fun h2 => ?_)
  · exact absurd rfl h2
  · refine S.skip ?_
    with_reducible repeat (first | refine S.then_n ?_ | refine S.then_x ?_ | refine S.then_r ?_ | refine S.inBlock_n ?_ | refine S.inBlock_r ?_ | refine S.inBlock_x rfl ?_ | refine S.noGoto_r ?_ | refine S.noGoto_n ?_ | refine S.noGoto_x ?_)
    refine hK5 _ _ ?_
    refine S.seq fun K7 hK7 => ?_
    refine S.region rfl ?_
    refine S.op (S.q (q_assign rfl) rfl rfl ?_)
    first | with_reducible refine S.nilK ?_ | refine S.nil ?_
    refine hK7 _ _ ?_
    refine S.seq fun K8 hK8 => ?_
    refine S.region rfl ?_
    refine S.op (S.q (q_assign rfl) rfl rfl ?_)
    first | with_reducible refine S.nilK ?_ | refine S.nil ?_
    refine hK8 _ _ ?_
    refine S.seq fun K9 hK9 => ?_
    refine S.seq fun K10 hK10 => ?_
    refine S.region rfl ?_
    refine S.air0 ?_
    refine S.ent (show Ent _ (own SV.nil 30 1 (([] : List Flt).flatMap idC) :: _) from Ent.ownNil _ _) ?_
    refine S.ent (show Ent _ (own SV.nil 29 1 (([] : List BR).flatMap brC) :: _) from Ent.ownNil _ _) ?_
    refine S.op (S.q (q_move rfl) rfl rfl ?_)
    refine S.op (S.q (q_len Try.underlying22 rfl) rfl rfl ?_)
    refine S.op (S.q (q_move rfl) rfl rfl ?_)
    first | with_reducible refine S.nilK ?_ | refine S.nil ?_
    refine hK10 _ _ ?_
    refine S.block ?_
    refine S.loop (fun m ρ' Γ' => ∃ (k : Nat) (q : Int) (lv iv wv : SV) (os : List Flt) (ws : List BR), m + k = rs.length ∧ q = 1 + (os.length : Int) ∧ os.length = k ∧ k ≤ 40 ∧ lv.n = k ∧ Nums 1 os ∧ Wants W ws os ∧ ρ' = [(0, s0.v), (1, .int .u8 ec), (5, .pointer (some ⟨t, 0, none⟩)), (7, wv.v), (8, iv.v), (30, s0.v), (31, .int .i64 s0.n), (32, .int .i64 k)] ∧ Γ' = own wv 29 1 (ws.flatMap brC) :: own iv 30 1 (os.flatMap idC) :: blk t 67 (airC 100 q lv).toArray :: own lv 70 3 (os.flatMap fltC) :: alls os fltB :: old W :: Γ) (m := _) (ρ0 := _) (Γ0 := _) (⟨0, 1, SV.nil, SV.nil, SV.nil, [], [], rfl, rfl, rfl, by omega, rfl, Nums.nil _, Wants.nil _, rfl, rfl⟩) (by repeat (first | exact trivial | refine ⟨rfl, ?_⟩)) Sub.ent ?_
    rintro m ρ' Γ' ⟨k, q, lv, iv, wv, os, ws, hk1, hq, hos, hk40, hlv, hsq, hwn, rfl, rfl⟩
    refine S.ownLen iv fun hivl _ _ => ?_
    refine S.ownLen wv fun hwvl _ _ => ?_
    rw [flat_length (enc := idC) (sz := 1) (fun _ => rfl)] at hivl
    rw [flat_length (enc := brC) (sz := 1) (fun _ => rfl)] at hwvl
    have hws := hwn.1
    refine S.seq fun K11 hK11 => ?_
    refine S.region rfl ?_
    refine S.op (S.q (q_lt rfl rfl) rfl rfl ?_)
    first | with_reducible refine S.nilK ?_ | refine S.nil ?_
    refine hK11 _ _ ?_
    refine S.seq fun K12 hK12 => ?_
    refine S.condD rfl (fun h3 => ?_) (fun h3 => ?_)
    · obtain ⟨r, hrk⟩ := getE (l := rs) (i := k) (by omega)
      have hbr := hr r (List.mem_of_getElem? hrk)
      have hcr := slAt_cap hbr.at_
      have hlr := hbr.len
      unfold maxLen at hcr
      obtain ⟨b, off, hb, hcell⟩ := slAt_some h0 (by omega)
      refine S.skip ?_
      with_reducible repeat (first | refine S.then_n ?_ | refine S.then_x ?_ | refine S.then_r ?_ | refine S.inBlock_n ?_ | refine S.inBlock_r ?_ | refine S.inBlock_x rfl ?_ | refine S.noGoto_r ?_ | refine S.noGoto_n ?_ | refine S.noGoto_x ?_)
      refine hK12 _ _ ?_
      refine S.seq fun K13 hK13 => ?_
      refine S.block ?_
      refine S.seq fun K14 hK14 => ?_
      refine S.region rfl ?_
      refine S.op (S.q (q_move rfl) rfl rfl ?_)
      refine S.op (S.q (q_indexO (k) Try.el22 rfl hb rfl rfl (by omega)) rfl rfl ?_)
      refine S.op (S.q (q_loadW Try.at29 rfl (hcell _ _ (rows_get hrk))) rfl rfl ?_)
      refine S.op (S.q (q_assign rfl) rfl rfl ?_)
      refine S.op (S.q (q_assign rfl) rfl rfl ?_)
      first | with_reducible refine S.nilK ?_ | refine S.nil ?_
      refine hK14 _ _ ?_
      refine S.seq fun K15 hK15 => ?_
      refine S.seq fun K16 hK16 => ?_
      refine S.region rfl ?_
      refine S.op (S.q (q_move rfl) rfl rfl ?_)
      refine S.op (S.q (q_ge rfl rfl) rfl rfl ?_)
      first | with_reducible refine S.nilK ?_ | refine S.nil ?_
      refine hK16 _ _ ?_
      refine S.condD rfl (fun h4 => ?_) (fun h4 => ?_)
      · refine S.exit ?_
        with_reducible repeat (first | refine S.then_n ?_ | refine S.then_x ?_ | refine S.then_r ?_ | refine S.inBlock_n ?_ | refine S.inBlock_r ?_ | refine S.inBlock_x rfl ?_ | refine S.noGoto_r ?_ | refine S.noGoto_n ?_ | refine S.noGoto_x ?_)
        with_reducible refine S.inBlock_s ?_
        with_reducible repeat (first | refine S.then_n ?_ | refine S.then_x ?_ | refine S.then_r ?_ | refine S.inBlock_n ?_ | refine S.inBlock_r ?_ | refine S.inBlock_x rfl ?_ | refine S.noGoto_r ?_ | refine S.noGoto_n ?_ | refine S.noGoto_x ?_)
        refine hK9 _ _ ?_
        refine S.seq fun K17 hK17 => ?_
        refine S.seq fun K18 hK18 => ?_
        refine S.region rfl ?_
        refine S.op (S.q (q_move rfl) rfl rfl ?_)
        refine S.op (S.q (q_len Try.underlying28 rfl) rfl rfl ?_)
        refine S.op (S.q (q_gt rfl rfl) rfl rfl ?_)
        first | with_reducible refine S.nilK ?_ | refine S.nil ?_
        refine hK18 _ _ ?_
        refine S.condD rfl (fun h6 => ?_) (fun h6 => ?_)
        · refine S.seq fun K19 hK19 => ?_
          refine S.region rfl ?_
          refine S.op (S.q (q_move rfl) rfl rfl ?_)
          refine S.op (S.q (q_conv Try.it3 (by rw [Try.underlying5]; rfl) rfl (inI64 (by omega) (by omega))) rfl rfl ?_)
          refine S.op (S.q (q_move rfl) rfl rfl ?_)
          refine S.op (S.q (q_len Try.underlying28 rfl) rfl rfl ?_)
          have hiv0 : (0 : Int) < iv.n := by omega
          refine S.op (S.q (q_rem rfl rfl (⟨by omega, by omega⟩)) rfl rfl ?_)
          refine S.op (S.q (q_assign rfl) rfl rfl ?_)
          first | with_reducible refine S.nilK ?_ | refine S.nil ?_
          refine hK19 _ _ ?_
          refine S.seq fun K20 hK20 => ?_
          refine S.seq fun K21 hK21 => ?_
          refine S.region rfl ?_
          have hmod : 0 ≤ ec % (iv.n : Int) ∧ ec % (iv.n : Int) < iv.n := ⟨Int.emod_nonneg _ (by omega), Int.emod_lt_of_pos _ (by omega)⟩
          obtain ⟨A, hA⟩ : ∃ A : Nat, ec % (iv.n : Int) = (A : Int) := ⟨(ec % (iv.n : Int)).toNat, by omega⟩
          rw [hA] at hmod
          rw [hA]
          obtain ⟨x, hx⟩ := getE (l := os) (i := A) (by omega)
          obtain ⟨y, hy⟩ := getE (l := ws) (i := A) (by omega)
          have hxy := hwn.2.2 A x y hx hy
          refine S.ownSome iv (by omega) fun bi offi hbi _ _ _ => ?_
          refine S.ownSome wv (by omega) fun bw offw hbw _ _ _ => ?_
          refine S.op (S.q (q_move rfl) rfl rfl ?_)
          refine S.op (S.q (q_move rfl) rfl rfl ?_)
          refine S.op (S.q (q_move rfl) rfl rfl ?_)
          refine S.op (S.q (q_indexO (A) Try.el28 rfl hbi rfl rfl (by omega)) rfl rfl ?_)
          refine S.op (S.q (q_loadOw (iv) (A * 1 + 0) Try.at30 rfl hbi (by first | rfl | exact Nat.add_assoc _ _ _ | omega) (flat_get (enc := idC) (sz := 1) (fun _ => rfl) hx rfl)) rfl rfl ?_)
          refine S.op (S.call Try.en10 (vs := [_, _]) ⟨rfl, rfl, trivial⟩ (Echo_S t 100 q lv os (by omega) hsq.asc A x hx x.id rfl (by omega) (by omega) (by omega) (by omega) (by omega)) rfl ?_)
          rintro v Θ ⟨u, lv2, rfl, hlv2, rfl⟩
          have hsq2 : Nums 1 (os ++ [(⟨q, x.dst, u, x.data⟩ : Flt)]) := hsq.snoc _ (by simp only; omega)
          have hwn2 : Wants W (ws ++ [y]) (os ++ [(⟨q, x.dst, u, x.data⟩ : Flt)]) := hwn.snoc (hwn.2.1 y (List.mem_of_getElem? hy)) hxy.1 hxy.2
          refine S.op (S.q (q_move rfl) rfl rfl ?_)
          refine S.op (S.q (q_extract rfl rfl) rfl rfl ?_)
          refine S.op (S.q (q_extract rfl rfl) rfl rfl ?_)
          refine S.op (S.q (q_assign rfl) rfl rfl ?_)
          refine S.op (S.q (q_assign rfl) rfl rfl ?_)
          first | with_reducible refine S.nilK ?_ | refine S.nil ?_
          refine hK21 _ _ ?_
          refine S.seq fun K22 hK22 => ?_
          refine S.region rfl ?_
          refine S.op (S.q (q_move rfl) rfl rfl ?_)
          refine S.op (S.q (q_ne rfl rfl) rfl rfl ?_)
          first | with_reducible refine S.nilK ?_ | refine S.nil ?_
          refine hK22 _ _ ?_
          refine S.condD rfl (fun h7 => ?_) (fun h7 => ?_)
          · exact absurd rfl h7
          · refine S.skip ?_
            with_reducible repeat (first | refine S.then_n ?_ | refine S.then_x ?_ | refine S.then_r ?_ | refine S.inBlock_n ?_ | refine S.inBlock_r ?_ | refine S.inBlock_x rfl ?_ | refine S.noGoto_r ?_ | refine S.noGoto_n ?_ | refine S.noGoto_x ?_)
            refine hK20 _ _ ?_
            refine S.region rfl ?_
            refine S.op (S.q (q_move rfl) rfl rfl ?_)
            refine S.op (S.q (q_move rfl) rfl rfl ?_)
            refine S.op (S.q (q_move rfl) rfl rfl ?_)
            refine S.op (S.q (q_indexO (A) Try.el22 rfl hbw rfl rfl (by omega)) rfl rfl ?_)
            refine S.op (S.q (q_loadOw (wv) (A * 1 + 0) Try.at29 rfl hbw (by first | rfl | exact Nat.add_assoc _ _ _ | omega) (flat_get (enc := brC) (sz := 1) (fun _ => rfl) hy rfl)) rfl rfl ?_)
            refine S.op (S.buildSlice (pvs := [(_, _)]) [_] Try.underlying22 Try.inf29 rfl rfl ⟨⟨rfl, rfl⟩, trivial⟩ rfl rfl ?_)
            intro b104
            refine S.op (S.appendOw (s := wv) (1) ([y.v.v]) Try.underlying22 Try.inf29 rfl rfl rfl (blk_slAt (b := b104) rfl (by unfold maxLen; omega)) (by first | rfl | exact allOne_bcells _) (⟨by omega, by omega⟩) rfl ?_)
            intro wv2 hwv2
            rw [show ws.flatMap brC ++ [y.v.v] = _ from flat_snoc brC ws y]
            replace hlv2 : lv2.n = (os ++ [(⟨q, x.dst, u, x.data⟩ : Flt)]).length := by simpa using hlv2
            have hl2 : (os ++ [(⟨q, x.dst, u, x.data⟩ : Flt)]).length ≤ 41 := by simp; omega
            have hq2 : ∃ q2, q2 = q + 1 := ⟨_, rfl⟩
            obtain ⟨q2, hq2⟩ := hq2
            rw [← hq2]
            generalize os ++ [(⟨q, x.dst, u, x.data⟩ : Flt)] = os2 at *
            generalize ws ++ [y] = ws2 at *
            refine S.op (S.q (q_assign rfl) rfl rfl ?_)
            first | with_reducible refine S.nilK ?_ | refine S.nil ?_
            refine hK17 _ _ ?_
            refine S.seq fun K23 hK23 => ?_
            refine S.seq fun K24 hK24 => ?_
            refine S.region rfl ?_
            refine S.ownLen wv2 fun hwv2l _ _ => ?_
            rw [flat_length (enc := brC) (sz := 1) (fun _ => rfl)] at hwv2l
            have hws2 := hwn2.1
            refine S.op (S.q (q_move rfl) rfl rfl ?_)
            refine S.op (S.q (q_len Try.underlying22 rfl) rfl rfl ?_)
            refine S.op (S.q (q_move rfl) rfl rfl ?_)
            first | with_reducible refine S.nilK ?_ | refine S.nil ?_
            refine hK24 _ _ ?_
            refine S.block ?_
            refine S.loop (fun m' ρ' Γ' => ∃ (j : Nat) (lv3 : SV) (os3 : List Flt), m' + j = os2.length ∧ os3 = os2.drop j ∧ lv3.n = os3.length ∧ ρ' = [(5, .pointer (some ⟨t, 0, none⟩)), (106, wv2.v), (107, .int .i64 wv2.n), (108, .int .i64 j)] ∧ Γ' = own wv2 29 1 (ws2.flatMap brC) :: blk t 67 (airC 100 q2 lv3).toArray :: own lv3 70 3 (os3.flatMap fltC) :: alls os3 fltB :: old W :: Γ) (m := _) (ρ0 := _) (Γ0 := _) (⟨0, lv2, os2, rfl, rfl, hlv2, rfl, rfl⟩) (by repeat (first | exact trivial | refine ⟨rfl, ?_⟩)) Sub.ent ?_
            rintro m' ρ' Γ' ⟨j, lv3, os3, hj1, ho3, hlv3, rfl, rfl⟩
            refine S.seq fun K25 hK25 => ?_
            refine S.region rfl ?_
            refine S.op (S.q (q_lt rfl rfl) rfl rfl ?_)
            first | with_reducible refine S.nilK ?_ | refine S.nil ?_
            refine hK25 _ _ ?_
            refine S.seq fun K26 hK26 => ?_
            refine S.condD rfl (fun h8 => ?_) (fun h8 => ?_)
            · obtain ⟨x3, hx3⟩ := getE (l := os2) (i := j) (by omega)
              obtain ⟨w3, hw3⟩ := getE (l := ws2) (i := j) (by omega)
              have hxw := hwn2.2.2 j x3 w3 hx3 hw3
              have hbw := hwn2.2.1 w3 (List.mem_of_getElem? hw3)
              have hd0 : os3[0]? = some x3 := by rw [ho3, List.getElem?_drop]; exact hx3
              have hasc : os3.Pairwise fun a b => a.id < b.id := by rw [ho3]; exact hsq2.asc.sublist (List.drop_sublist j os2)
              have hdl : os3.length = os2.length - j := by rw [ho3, List.length_drop]
              have hdj : os3.eraseIdx 0 = os2.drop (j + 1) := by rw [ho3, List.eraseIdx_zero, List.tail_drop]
              refine S.ownSome wv2 (by omega) fun b2 off2 hb2 _ _ _ => ?_
              refine S.skip ?_
              with_reducible repeat (first | refine S.then_n ?_ | refine S.then_x ?_ | refine S.then_r ?_ | refine S.inBlock_n ?_ | refine S.inBlock_r ?_ | refine S.inBlock_x rfl ?_ | refine S.noGoto_r ?_ | refine S.noGoto_n ?_ | refine S.noGoto_x ?_)
              refine hK26 _ _ ?_
              refine S.seq fun K27 hK27 => ?_
              refine S.block ?_
              refine S.seq fun K28 hK28 => ?_
              refine S.region rfl ?_
              refine S.op (S.q (q_indexO (j) Try.el22 rfl hb2 rfl rfl (by omega)) rfl rfl ?_)
              refine S.op (S.q (q_loadOw (wv2) (j * 1 + 0) Try.at29 rfl hb2 (by first | rfl | exact Nat.add_assoc _ _ _ | omega) (flat_get (enc := brC) (sz := 1) (fun _ => rfl) hw3 rfl)) rfl rfl ?_)
              refine S.op (S.q (q_assign rfl) rfl rfl ?_)
              first | with_reducible refine S.nilK ?_ | refine S.nil ?_
              refine hK28 _ _ ?_
              refine S.seq fun K29 hK29 => ?_
              refine S.region rfl ?_
              refine S.op (S.q (q_move rfl) rfl rfl ?_)
              refine S.op (S.call Try.en11 (vs := [_]) ⟨rfl, trivial⟩ (Oldest_S t 100 q2 lv3 os3 hlv3 x3 hd0) rfl ?_)
              rintro v Θ ⟨rfl, rfl⟩
              refine S.op (S.q (q_move rfl) rfl rfl ?_)
              refine S.op (S.q (q_extract rfl rfl) rfl rfl ?_)
              refine S.op (S.q (q_extract rfl rfl) rfl rfl ?_)
              refine S.op (S.q (q_assign rfl) rfl rfl ?_)
              refine S.op (S.q (q_assign rfl) rfl rfl ?_)
              first | with_reducible refine S.nilK ?_ | refine S.nil ?_
              refine hK29 _ _ ?_
              refine S.seq fun K30 hK30 => ?_
              refine S.region rfl ?_
              refine S.op (S.q (q_move rfl) rfl rfl ?_)
              refine S.op (S.q (q_move rfl) rfl rfl ?_)
              refine S.op (S.call Try.en12 (vs := [_, _]) ⟨rfl, rfl, trivial⟩ (Land_S t 100 q2 lv3 os3 hlv3 (by omega) hasc 0 x3 hd0 x3.id rfl) rfl ?_)
              rintro v Θ ⟨lv4, rfl, hlv4, rfl⟩
              rw [hdj] at hlv4
              rw [hdj]
              refine S.op (S.q (q_move rfl) rfl rfl ?_)
              refine S.op (S.q (q_extract rfl rfl) rfl rfl ?_)
              refine S.op (S.q (q_extract rfl rfl) rfl rfl ?_)
              refine S.op (S.alloc Try.z34 rfl ?_)
              intro b20
              refine S.op (S.storeS (cs' := [_, _]) Try.ag34 rfl rfl rfl rfl rfl rfl ?_)
              refine S.op (S.q (q_assign rfl) rfl rfl ?_)
              first | with_reducible refine S.nilK ?_ | refine S.nil ?_
              refine hK30 _ _ ?_
              refine S.seq fun K31 hK31 => ?_
              refine S.regionG ?_
              refine S.g_op rfl (S.q (q_move rfl) rfl rfl ?_)
              refine S.g_op rfl (S.q (q_not rfl) rfl rfl ?_)
              refine S.g_op rfl (S.q (q_move rfl) rfl rfl ?_)
              refine S.g_yes rfl rfl rfl (rfl) (S.q (q_move rfl) rfl rfl ?_)
              refine S.g_yes rfl rfl rfl (rfl) (S.q (q_ne rfl rfl) rfl rfl ?_)
              refine S.g_op rfl (S.q (q_pickF rfl (rfl) rfl) rfl rfl ?_)
              refine S.g_op rfl (S.q (q_move rfl) rfl rfl ?_)
              refine S.g_yes rfl rfl rfl (rfl) (S.q (q_field Try.fo34_1 rfl) rfl rfl ?_)
              refine S.g_yes rfl rfl rfl (rfl) (S.q (q_load Try.at29 rfl rfl) rfl rfl ?_)
              refine S.g_yes rfl rfl rfl (rfl) (S.q (q_move rfl) rfl rfl ?_)
              refine S.g_yes rfl rfl rfl (rfl) (S.callP Try.en13 (vs := [_, _]) ⟨rfl, rfl, trivial⟩ (fun w hs => Same_P x3.v w3.v x3.data w3.l w (flt_in (x := x3) hs) (HasOld.slAt inferInstance hs hbw.at_) (by rw [hxw.1]; exact hbw.rng) hbw.rng) rfl ?_)
              refine S.g_yes rfl rfl rfl (rfl) (S.q (q_not rfl) rfl rfl ?_)
              refine S.g_op rfl (S.q (q_pickF rfl (rfl) rfl) rfl rfl ?_)
              first | with_reducible refine S.g_nilK ?_ | refine S.g_nil ?_
              refine hK31 _ _ ?_
              refine S.cond rfl (fun h9 => ?_) (fun h9 => ?_)
              · exact absurd h9 (by simp [hxw.1])
              · refine S.skip ?_
                with_reducible repeat (first | refine S.then_n ?_ | refine S.then_x ?_ | refine S.then_r ?_ | refine S.inBlock_n ?_ | refine S.inBlock_r ?_ | refine S.inBlock_x rfl ?_ | refine S.noGoto_r ?_ | refine S.noGoto_n ?_ | refine S.noGoto_x ?_)
                with_reducible repeat (first | refine S.then_n ?_ | refine S.then_x ?_ | refine S.then_r ?_ | refine S.inBlock_n ?_ | refine S.inBlock_r ?_ | refine S.inBlock_x rfl ?_ | refine S.noGoto_r ?_ | refine S.noGoto_n ?_ | refine S.noGoto_x ?_)
                refine hK27 _ _ ?_
                refine S.region rfl ?_
                refine S.op (S.q (q_add rfl rfl (inI64 (by omega) (by omega))) rfl rfl ?_)
                refine S.op (S.q (q_move rfl) rfl rfl ?_)
                first | with_reducible refine S.nilK ?_ | refine S.nil ?_
                with_reducible repeat (first | refine S.then_n ?_ | refine S.then_x ?_ | refine S.then_r ?_ | refine S.inBlock_n ?_ | refine S.inBlock_r ?_ | refine S.inBlock_x rfl ?_ | refine S.noGoto_r ?_ | refine S.noGoto_n ?_ | refine S.noGoto_x ?_)
                exact S.next (m' - 1) (⟨j + 1, lv4, os2.drop (j + 1), by omega, rfl, hlv4, rfl, rfl⟩) (by omega) (by repeat (first | exact trivial | refine ⟨rfl, ?_⟩)) Sub.ent
            · have hfin : os3.length = 0 := by rw [ho3, List.length_drop]; omega
              refine S.exit ?_
              with_reducible repeat (first | refine S.then_n ?_ | refine S.then_x ?_ | refine S.then_r ?_ | refine S.inBlock_n ?_ | refine S.inBlock_r ?_ | refine S.inBlock_x rfl ?_ | refine S.noGoto_r ?_ | refine S.noGoto_n ?_ | refine S.noGoto_x ?_)
              with_reducible refine S.inBlock_s ?_
              with_reducible repeat (first | refine S.then_n ?_ | refine S.then_x ?_ | refine S.then_r ?_ | refine S.inBlock_n ?_ | refine S.inBlock_r ?_ | refine S.inBlock_x rfl ?_ | refine S.noGoto_r ?_ | refine S.noGoto_n ?_ | refine S.noGoto_x ?_)
              refine hK23 _ _ ?_
              refine S.seq fun K32 hK32 => ?_
              refine S.region rfl ?_
              refine S.op (S.q (q_move rfl) rfl rfl ?_)
              refine S.op (S.call Try.en14 (vs := [_]) ⟨rfl, trivial⟩ (Len_S t 100 q2 lv3) rfl ?_)
              rintro v Θ ⟨rfl, rfl⟩
              refine S.op (S.q (q_eq rfl rfl) rfl rfl ?_)
              refine S.op (S.q (q_assign rfl) rfl rfl ?_)
              first | with_reducible refine S.nilK ?_ | refine S.nil ?_
              refine hK32 _ _ ?_
              refine S.ret ?_
              with_reducible repeat (first | refine S.then_n ?_ | refine S.then_x ?_ | refine S.then_r ?_ | refine S.inBlock_n ?_ | refine S.inBlock_r ?_ | refine S.inBlock_x rfl ?_ | refine S.noGoto_r ?_ | refine S.noGoto_n ?_ | refine S.noGoto_x ?_)
              exact S.fin (rs := [_]) (vs := [_]) Try.results3 (⟨rfl, trivial⟩)  (⟨by simp only [resV]; rw [decide_eq_true (show (lv3.n : Int) = 0 by omega)], rfl⟩) Sub.ent
        · obtain ⟨lv2, rfl⟩ : ∃ lv2, lv2 = lv := ⟨_, rfl⟩
          obtain ⟨wv2, rfl⟩ : ∃ wv2, wv2 = wv := ⟨_, rfl⟩
          obtain ⟨os2, rfl⟩ : ∃ os2, os2 = os := ⟨_, rfl⟩
          obtain ⟨ws2, rfl⟩ : ∃ ws2, ws2 = ws := ⟨_, rfl⟩
          obtain ⟨q2, rfl⟩ : ∃ q2, q2 = q := ⟨_, rfl⟩
          have hsq2 := hsq
          have hwn2 := hwn
          have hlv2 : lv2.n = os2.length := by omega
          have hl2 : os2.length ≤ 41 := by omega
          refine S.skip ?_
          with_reducible repeat (first | refine S.then_n ?_ | refine S.then_x ?_ | refine S.then_r ?_ | refine S.inBlock_n ?_ | refine S.inBlock_r ?_ | refine S.inBlock_x rfl ?_ | refine S.noGoto_r ?_ | refine S.noGoto_n ?_ | refine S.noGoto_x ?_)
          refine hK17 _ _ ?_
          refine S.seq fun K33 hK33 => ?_
          refine S.seq fun K34 hK34 => ?_
          refine S.region rfl ?_
          refine S.ownLen wv2 fun hwv2l _ _ => ?_
          rw [flat_length (enc := brC) (sz := 1) (fun _ => rfl)] at hwv2l
          have hws2 := hwn2.1
          refine S.op (S.q (q_move rfl) rfl rfl ?_)
          refine S.op (S.q (q_len Try.underlying22 rfl) rfl rfl ?_)
          refine S.op (S.q (q_move rfl) rfl rfl ?_)
          first | with_reducible refine S.nilK ?_ | refine S.nil ?_
          refine hK34 _ _ ?_
          refine S.block ?_
          refine S.loop (fun m' ρ' Γ' => ∃ (j : Nat) (lv3 : SV) (os3 : List Flt), m' + j = os2.length ∧ os3 = os2.drop j ∧ lv3.n = os3.length ∧ ρ' = [(5, .pointer (some ⟨t, 0, none⟩)), (106, wv2.v), (107, .int .i64 wv2.n), (108, .int .i64 j)] ∧ Γ' = own wv2 29 1 (ws2.flatMap brC) :: blk t 67 (airC 100 q2 lv3).toArray :: own lv3 70 3 (os3.flatMap fltC) :: alls os3 fltB :: old W :: Γ) (m := _) (ρ0 := _) (Γ0 := _) (⟨0, lv2, os2, rfl, rfl, hlv2, rfl, rfl⟩) (by repeat (first | exact trivial | refine ⟨rfl, ?_⟩)) Sub.ent ?_
          rintro m' ρ' Γ' ⟨j, lv3, os3, hj1, ho3, hlv3, rfl, rfl⟩
          refine S.seq fun K35 hK35 => ?_
          refine S.region rfl ?_
          refine S.op (S.q (q_lt rfl rfl) rfl rfl ?_)
          first | with_reducible refine S.nilK ?_ | refine S.nil ?_
          refine hK35 _ _ ?_
          refine S.seq fun K36 hK36 => ?_
          refine S.condD rfl (fun h8 => ?_) (fun h8 => ?_)
          · obtain ⟨x3, hx3⟩ := getE (l := os2) (i := j) (by omega)
            obtain ⟨w3, hw3⟩ := getE (l := ws2) (i := j) (by omega)
            have hxw := hwn2.2.2 j x3 w3 hx3 hw3
            have hbw := hwn2.2.1 w3 (List.mem_of_getElem? hw3)
            have hd0 : os3[0]? = some x3 := by rw [ho3, List.getElem?_drop]; exact hx3
            have hasc : os3.Pairwise fun a b => a.id < b.id := by rw [ho3]; exact hsq2.asc.sublist (List.drop_sublist j os2)
            have hdl : os3.length = os2.length - j := by rw [ho3, List.length_drop]
            have hdj : os3.eraseIdx 0 = os2.drop (j + 1) := by rw [ho3, List.eraseIdx_zero, List.tail_drop]
            refine S.ownSome wv2 (by omega) fun b2 off2 hb2 _ _ _ => ?_
            refine S.skip ?_
            with_reducible repeat (first | refine S.then_n ?_ | refine S.then_x ?_ | refine S.then_r ?_ | refine S.inBlock_n ?_ | refine S.inBlock_r ?_ | refine S.inBlock_x rfl ?_ | refine S.noGoto_r ?_ | refine S.noGoto_n ?_ | refine S.noGoto_x ?_)
            refine hK36 _ _ ?_
            refine S.seq fun K37 hK37 => ?_
            refine S.block ?_
            refine S.seq fun K38 hK38 => ?_
            refine S.region rfl ?_
            refine S.op (S.q (q_indexO (j) Try.el22 rfl hb2 rfl rfl (by omega)) rfl rfl ?_)
            refine S.op (S.q (q_loadOw (wv2) (j * 1 + 0) Try.at29 rfl hb2 (by first | rfl | exact Nat.add_assoc _ _ _ | omega) (flat_get (enc := brC) (sz := 1) (fun _ => rfl) hw3 rfl)) rfl rfl ?_)
            refine S.op (S.q (q_assign rfl) rfl rfl ?_)
            first | with_reducible refine S.nilK ?_ | refine S.nil ?_
            refine hK38 _ _ ?_
            refine S.seq fun K39 hK39 => ?_
            refine S.region rfl ?_
            refine S.op (S.q (q_move rfl) rfl rfl ?_)
            refine S.op (S.call Try.en11 (vs := [_]) ⟨rfl, trivial⟩ (Oldest_S t 100 q2 lv3 os3 hlv3 x3 hd0) rfl ?_)
            rintro v Θ ⟨rfl, rfl⟩
            refine S.op (S.q (q_move rfl) rfl rfl ?_)
            refine S.op (S.q (q_extract rfl rfl) rfl rfl ?_)
            refine S.op (S.q (q_extract rfl rfl) rfl rfl ?_)
            refine S.op (S.q (q_assign rfl) rfl rfl ?_)
            refine S.op (S.q (q_assign rfl) rfl rfl ?_)
            first | with_reducible refine S.nilK ?_ | refine S.nil ?_
            refine hK39 _ _ ?_
            refine S.seq fun K40 hK40 => ?_
            refine S.region rfl ?_
            refine S.op (S.q (q_move rfl) rfl rfl ?_)
            refine S.op (S.q (q_move rfl) rfl rfl ?_)
            refine S.op (S.call Try.en12 (vs := [_, _]) ⟨rfl, rfl, trivial⟩ (Land_S t 100 q2 lv3 os3 hlv3 (by omega) hasc 0 x3 hd0 x3.id rfl) rfl ?_)
            rintro v Θ ⟨lv4, rfl, hlv4, rfl⟩
            rw [hdj] at hlv4
            rw [hdj]
            refine S.op (S.q (q_move rfl) rfl rfl ?_)
            refine S.op (S.q (q_extract rfl rfl) rfl rfl ?_)
            refine S.op (S.q (q_extract rfl rfl) rfl rfl ?_)
            refine S.op (S.alloc Try.z34 rfl ?_)
            intro b20
            refine S.op (S.storeS (cs' := [_, _]) Try.ag34 rfl rfl rfl rfl rfl rfl ?_)
            refine S.op (S.q (q_assign rfl) rfl rfl ?_)
            first | with_reducible refine S.nilK ?_ | refine S.nil ?_
            refine hK40 _ _ ?_
            refine S.seq fun K41 hK41 => ?_
            refine S.regionG ?_
            refine S.g_op rfl (S.q (q_move rfl) rfl rfl ?_)
            refine S.g_op rfl (S.q (q_not rfl) rfl rfl ?_)
            refine S.g_op rfl (S.q (q_move rfl) rfl rfl ?_)
            refine S.g_yes rfl rfl rfl (rfl) (S.q (q_move rfl) rfl rfl ?_)
            refine S.g_yes rfl rfl rfl (rfl) (S.q (q_ne rfl rfl) rfl rfl ?_)
            refine S.g_op rfl (S.q (q_pickF rfl (rfl) rfl) rfl rfl ?_)
            refine S.g_op rfl (S.q (q_move rfl) rfl rfl ?_)
            refine S.g_yes rfl rfl rfl (rfl) (S.q (q_field Try.fo34_1 rfl) rfl rfl ?_)
            refine S.g_yes rfl rfl rfl (rfl) (S.q (q_load Try.at29 rfl rfl) rfl rfl ?_)
            refine S.g_yes rfl rfl rfl (rfl) (S.q (q_move rfl) rfl rfl ?_)
            refine S.g_yes rfl rfl rfl (rfl) (S.callP Try.en13 (vs := [_, _]) ⟨rfl, rfl, trivial⟩ (fun w hs => Same_P x3.v w3.v x3.data w3.l w (flt_in (x := x3) hs) (HasOld.slAt inferInstance hs hbw.at_) (by rw [hxw.1]; exact hbw.rng) hbw.rng) rfl ?_)
            refine S.g_yes rfl rfl rfl (rfl) (S.q (q_not rfl) rfl rfl ?_)
            refine S.g_op rfl (S.q (q_pickF rfl (rfl) rfl) rfl rfl ?_)
            first | with_reducible refine S.g_nilK ?_ | refine S.g_nil ?_
            refine hK41 _ _ ?_
            refine S.cond rfl (fun h9 => ?_) (fun h9 => ?_)
            · exact absurd h9 (by simp [hxw.1])
            · refine S.skip ?_
              with_reducible repeat (first | refine S.then_n ?_ | refine S.then_x ?_ | refine S.then_r ?_ | refine S.inBlock_n ?_ | refine S.inBlock_r ?_ | refine S.inBlock_x rfl ?_ | refine S.noGoto_r ?_ | refine S.noGoto_n ?_ | refine S.noGoto_x ?_)
              with_reducible repeat (first | refine S.then_n ?_ | refine S.then_x ?_ | refine S.then_r ?_ | refine S.inBlock_n ?_ | refine S.inBlock_r ?_ | refine S.inBlock_x rfl ?_ | refine S.noGoto_r ?_ | refine S.noGoto_n ?_ | refine S.noGoto_x ?_)
              refine hK37 _ _ ?_
              refine S.region rfl ?_
              refine S.op (S.q (q_add rfl rfl (inI64 (by omega) (by omega))) rfl rfl ?_)
              refine S.op (S.q (q_move rfl) rfl rfl ?_)
              first | with_reducible refine S.nilK ?_ | refine S.nil ?_
              with_reducible repeat (first | refine S.then_n ?_ | refine S.then_x ?_ | refine S.then_r ?_ | refine S.inBlock_n ?_ | refine S.inBlock_r ?_ | refine S.inBlock_x rfl ?_ | refine S.noGoto_r ?_ | refine S.noGoto_n ?_ | refine S.noGoto_x ?_)
              exact S.next (m' - 1) (⟨j + 1, lv4, os2.drop (j + 1), by omega, rfl, hlv4, rfl, rfl⟩) (by omega) (by repeat (first | exact trivial | refine ⟨rfl, ?_⟩)) Sub.ent
          · have hfin : os3.length = 0 := by rw [ho3, List.length_drop]; omega
            refine S.exit ?_
            with_reducible repeat (first | refine S.then_n ?_ | refine S.then_x ?_ | refine S.then_r ?_ | refine S.inBlock_n ?_ | refine S.inBlock_r ?_ | refine S.inBlock_x rfl ?_ | refine S.noGoto_r ?_ | refine S.noGoto_n ?_ | refine S.noGoto_x ?_)
            with_reducible refine S.inBlock_s ?_
            with_reducible repeat (first | refine S.then_n ?_ | refine S.then_x ?_ | refine S.then_r ?_ | refine S.inBlock_n ?_ | refine S.inBlock_r ?_ | refine S.inBlock_x rfl ?_ | refine S.noGoto_r ?_ | refine S.noGoto_n ?_ | refine S.noGoto_x ?_)
            refine hK33 _ _ ?_
            refine S.seq fun K42 hK42 => ?_
            refine S.region rfl ?_
            refine S.op (S.q (q_move rfl) rfl rfl ?_)
            refine S.op (S.call Try.en14 (vs := [_]) ⟨rfl, trivial⟩ (Len_S t 100 q2 lv3) rfl ?_)
            rintro v Θ ⟨rfl, rfl⟩
            refine S.op (S.q (q_eq rfl rfl) rfl rfl ?_)
            refine S.op (S.q (q_assign rfl) rfl rfl ?_)
            first | with_reducible refine S.nilK ?_ | refine S.nil ?_
            refine hK42 _ _ ?_
            refine S.ret ?_
            with_reducible repeat (first | refine S.then_n ?_ | refine S.then_x ?_ | refine S.then_r ?_ | refine S.inBlock_n ?_ | refine S.inBlock_r ?_ | refine S.inBlock_x rfl ?_ | refine S.noGoto_r ?_ | refine S.noGoto_n ?_ | refine S.noGoto_x ?_)
            exact S.fin (rs := [_]) (vs := [_]) Try.results3 (⟨rfl, trivial⟩)  (⟨by simp only [resV]; rw [decide_eq_true (show (lv3.n : Int) = 0 by omega)], rfl⟩) Sub.ent
      · refine S.skip ?_
        with_reducible repeat (first | refine S.then_n ?_ | refine S.then_x ?_ | refine S.then_r ?_ | refine S.inBlock_n ?_ | refine S.inBlock_r ?_ | refine S.inBlock_x rfl ?_ | refine S.noGoto_r ?_ | refine S.noGoto_n ?_ | refine S.noGoto_x ?_)
        refine hK15 _ _ ?_
        refine S.seq fun K43 hK43 => ?_
        refine S.region rfl ?_
        refine S.op (S.q (q_move rfl) rfl rfl ?_)
        refine S.op (S.q (q_move rfl) rfl rfl ?_)
        refine S.op (S.q (q_len Try.underlying29 rfl) rfl rfl ?_)
        refine S.op (S.q (q_min (((min r.l.length 40 : Nat) : Int)) rfl rfl (by omega)) rfl rfl ?_)
        refine S.op (S.q (q_sliceTo (min r.l.length 40) Try.el29 rfl rfl rfl (by omega)) rfl rfl ?_)
        refine S.op (S.q (q_assign rfl) rfl rfl ?_)
        first | with_reducible refine S.nilK ?_ | refine S.nil ?_
        refine hK43 _ _ ?_
        refine S.seq fun K44 hK44 => ?_
        refine S.region rfl ?_
        refine S.op (S.q (q_move rfl) rfl rfl ?_)
        refine S.op (S.q (q_move rfl) rfl rfl ?_)
        refine S.op (S.buildSlice0 Try.underlying29 Try.inf5 rfl ?_)
        intro b47 hb47
        refine S.op (S.q (q_move rfl) rfl rfl ?_)
        refine S.op (S.appendOw (s := b47) (min r.l.length 40) (bcells (r.l.take (min r.l.length 40))) Try.underlying29 Try.inf5 rfl rfl rfl (fun w hs => take_at (R := old W) (fun Γ w h => hbr.old h) hs _ (Nat.min_le_left _ _)) (by first | rfl | exact allOne_bcells _) (⟨by omega, by omega⟩) rfl ?_)
        intro u hu
        rw [List.nil_append]
        refine S.op (S.q (q_build (pvs := [(_, _), (_, _)]) [_, _] Try.z34 Try.p34 ⟨⟨rfl, rfl⟩, ⟨rfl, rfl⟩, trivial⟩ rfl) rfl rfl ?_)
        refine S.op (S.call Try.en9 (vs := [_, _]) ⟨rfl, rfl, trivial⟩ (FlyD_S t 100 q lv os k u (r.l.take (min r.l.length 40)) (obytes u (r.l.take (min r.l.length 40))) (fun Γ w h => obytes_at h) (by simp only [List.length_take]; omega) (by omega) (by omega) (by omega) (by omega) (by omega)) rfl ?_)
        rintro v Θ ⟨u', lv', rfl, hlv', rfl⟩
        refine S.op (S.q (q_move rfl) rfl rfl ?_)
        refine S.op (S.q (q_extract rfl rfl) rfl rfl ?_)
        refine S.op (S.q (q_extract rfl rfl) rfl rfl ?_)
        refine S.op (S.q (q_assign rfl) rfl rfl ?_)
        refine S.op (S.q (q_assign rfl) rfl rfl ?_)
        first | with_reducible refine S.nilK ?_ | refine S.nil ?_
        refine hK44 _ _ ?_
        refine S.seq fun K45 hK45 => ?_
        refine S.seq fun K46 hK46 => ?_
        refine S.regionG ?_
        refine S.g_op rfl (S.q (q_move rfl) rfl rfl ?_)
        refine S.g_op rfl (S.q (q_ne rfl rfl) rfl rfl ?_)
        refine S.g_op rfl (S.q (q_move rfl) rfl rfl ?_)
        refine S.g_yes rfl rfl rfl (rfl) (S.q (q_move rfl) rfl rfl ?_)
        refine S.g_yes rfl rfl rfl (rfl) (S.q (q_len Try.underlying28 rfl) rfl rfl ?_)
        refine S.g_yes rfl rfl rfl (rfl) (S.q (q_gt rfl rfl) rfl rfl ?_)
        refine S.g_yes rfl rfl rfl (rfl) (S.q (q_move rfl) rfl rfl ?_)
        by_cases hg14_6 : (0 : Int) < iv.n
        · obtain ⟨z, hz⟩ := getE (l := os) (i := os.length - 1) (by omega)
          have hzid : z.id = (os.length : Int) := by have := hsq _ z hz; omega
          refine S.ownSome iv (by omega) fun bi offi hbi _ _ _ => ?_
          refine S.g_yes rfl rfl rfl (decide_eq_true hg14_6) (S.q (q_move rfl) rfl rfl ?_)
          refine S.g_yes rfl rfl rfl (decide_eq_true hg14_6) (S.q (q_move rfl) rfl rfl ?_)
          refine S.g_yes rfl rfl rfl (decide_eq_true hg14_6) (S.q (q_move rfl) rfl rfl ?_)
          refine S.g_yes rfl rfl rfl (decide_eq_true hg14_6) (S.q (q_len Try.underlying28 rfl) rfl rfl ?_)
          refine S.g_yes rfl rfl rfl (decide_eq_true hg14_6) (S.q (q_sub rfl rfl (inI64 (by omega) (by omega))) rfl rfl ?_)
          refine S.g_yes rfl rfl rfl (decide_eq_true hg14_6) (S.q (q_indexO (os.length - 1) Try.el28 rfl hbi rfl (by omega) (by omega)) rfl rfl ?_)
          refine S.g_yes rfl rfl rfl (decide_eq_true hg14_6) (S.q (q_loadOw (iv) ((os.length - 1) * 1 + 0) Try.at30 rfl hbi (by first | rfl | exact Nat.add_assoc _ _ _ | omega) (flat_get (enc := idC) (sz := 1) (fun _ => rfl) hz rfl)) rfl rfl ?_)
          refine S.g_yes rfl rfl rfl (decide_eq_true hg14_6) (S.q (q_le rfl rfl) rfl rfl ?_)
          refine S.g_yes rfl rfl rfl (rfl) (S.q (q_pickT rfl (decide_eq_true hg14_6) rfl) rfl rfl ?_)
          refine S.g_op rfl (S.q (q_pickF rfl (rfl) rfl) rfl rfl ?_)
          first | with_reducible refine S.g_nilK ?_ | refine S.g_nil ?_
          refine hK46 _ _ ?_
          refine S.condD rfl (fun h5 => ?_) (fun h5 => ?_)
          · exact absurd h5 (by omega)
          · refine S.skip ?_
            with_reducible repeat (first | refine S.then_n ?_ | refine S.then_x ?_ | refine S.then_r ?_ | refine S.inBlock_n ?_ | refine S.inBlock_r ?_ | refine S.inBlock_x rfl ?_ | refine S.noGoto_r ?_ | refine S.noGoto_n ?_ | refine S.noGoto_x ?_)
            refine hK45 _ _ ?_
            refine S.region rfl ?_
            refine S.op (S.q (q_move rfl) rfl rfl ?_)
            refine S.op (S.q (q_move rfl) rfl rfl ?_)
            refine S.op (S.buildSlice (pvs := [(_, _)]) [_] Try.underlying28 Try.inf30 rfl rfl ⟨⟨rfl, rfl⟩, trivial⟩ rfl rfl ?_)
            intro b73
            refine S.op (S.appendOw (s := iv) (1) ([.int .u64 q]) Try.underlying28 Try.inf30 rfl rfl rfl (blk_slAt (b := b73) rfl (by unfold maxLen; omega)) (by first | rfl | exact allOne_bcells _) (⟨by omega, by omega⟩) rfl ?_)
            intro iv' hiv'
            refine S.op (S.q (q_move rfl) rfl rfl ?_)
            refine S.op (S.q (q_move rfl) rfl rfl ?_)
            refine S.op (S.buildSlice (pvs := [(_, _)]) [_] Try.underlying22 Try.inf29 rfl rfl ⟨⟨rfl, rfl⟩, trivial⟩ rfl rfl ?_)
            intro b77
            refine S.op (S.appendOw (s := wv) (1) ([.slice r.v.a (min r.l.length 40) r.v.c]) Try.underlying22 Try.inf29 rfl rfl rfl (blk_slAt (b := b77) rfl (by unfold maxLen; omega)) (by first | rfl | exact allOne_bcells _) (⟨by omega, by omega⟩) rfl ?_)
            intro wv' hwv'
            refine S.op (S.q (q_assign rfl) rfl rfl ?_)
            refine S.op (S.q (q_assign rfl) rfl rfl ?_)
            first | with_reducible refine S.nilK ?_ | refine S.nil ?_
            with_reducible repeat (first | refine S.then_n ?_ | refine S.then_x ?_ | refine S.then_r ?_ | refine S.inBlock_n ?_ | refine S.inBlock_r ?_ | refine S.inBlock_x rfl ?_ | refine S.noGoto_r ?_ | refine S.noGoto_n ?_ | refine S.noGoto_x ?_)
            refine hK13 _ _ ?_
            refine S.region rfl ?_
            refine S.op (S.q (q_add rfl rfl (inI64 (by omega) (by omega))) rfl rfl ?_)
            refine S.op (S.q (q_move rfl) rfl rfl ?_)
            first | with_reducible refine S.nilK ?_ | refine S.nil ?_
            with_reducible repeat (first | refine S.then_n ?_ | refine S.then_x ?_ | refine S.then_r ?_ | refine S.inBlock_n ?_ | refine S.inBlock_r ?_ | refine S.inBlock_x rfl ?_ | refine S.noGoto_r ?_ | refine S.noGoto_n ?_ | refine S.noGoto_x ?_)
            rw [show os.flatMap idC ++ [Value.int .u64 q] = _ from flat_snoc idC os (⟨q, k, u', r.l.take (min r.l.length 40)⟩ : Flt)]
            rw [show ws.flatMap brC ++ [Value.slice r.v.a (min r.l.length 40) r.v.c] = _ from flat_snoc brC ws (⟨⟨r.v.a, min r.l.length 40, r.v.c⟩, r.l.take (min r.l.length 40)⟩ : BR)]
            exact S.next (rs.length - (k + 1)) (⟨k + 1, q + 1, lv', iv', wv', os ++ [⟨q, k, u', r.l.take (min r.l.length 40)⟩], ws ++ [⟨⟨r.v.a, min r.l.length 40, r.v.c⟩, r.l.take (min r.l.length 40)⟩], by omega, by simp; omega, by simp [hos], by omega, by omega, hsq.snoc _ (by simp only; omega), hwn.snoc (hbr.take _ (by omega)) rfl (by simp only [List.length_take]; omega), rfl, rfl⟩) (by omega) (by repeat (first | exact trivial | refine ⟨rfl, ?_⟩)) Sub.ent
        · refine S.g_no rfl rfl rfl (decide_eq_false hg14_6) rfl rfl ?_
          refine S.g_no rfl rfl rfl (decide_eq_false hg14_6) rfl rfl ?_
          refine S.g_no rfl rfl rfl (decide_eq_false hg14_6) rfl rfl ?_
          refine S.g_no rfl rfl rfl (decide_eq_false hg14_6) rfl rfl ?_
          refine S.g_no rfl rfl rfl (decide_eq_false hg14_6) rfl rfl ?_
          refine S.g_no rfl rfl rfl (decide_eq_false hg14_6) rfl rfl ?_
          refine S.g_no rfl rfl rfl (decide_eq_false hg14_6) rfl rfl ?_
          refine S.g_no rfl rfl rfl (decide_eq_false hg14_6) rfl rfl ?_
          refine S.g_yes rfl rfl rfl (rfl) (S.q (q_pickF rfl (decide_eq_false hg14_6) rfl) rfl rfl ?_)
          refine S.g_op rfl (S.q (q_pickF rfl (rfl) rfl) rfl rfl ?_)
          first | with_reducible refine S.g_nilK ?_ | refine S.g_nil ?_
          refine hK46 _ _ ?_
          refine S.condF rfl ?_
          refine S.skip ?_
          with_reducible repeat (first | refine S.then_n ?_ | refine S.then_x ?_ | refine S.then_r ?_ | refine S.inBlock_n ?_ | refine S.inBlock_r ?_ | refine S.inBlock_x rfl ?_ | refine S.noGoto_r ?_ | refine S.noGoto_n ?_ | refine S.noGoto_x ?_)
          refine hK45 _ _ ?_
          refine S.region rfl ?_
          refine S.op (S.q (q_move rfl) rfl rfl ?_)
          refine S.op (S.q (q_move rfl) rfl rfl ?_)
          refine S.op (S.buildSlice (pvs := [(_, _)]) [_] Try.underlying28 Try.inf30 rfl rfl ⟨⟨rfl, rfl⟩, trivial⟩ rfl rfl ?_)
          intro b73
          refine S.op (S.appendOw (s := iv) (1) ([.int .u64 q]) Try.underlying28 Try.inf30 rfl rfl rfl (blk_slAt (b := b73) rfl (by unfold maxLen; omega)) (by first | rfl | exact allOne_bcells _) (⟨by omega, by omega⟩) rfl ?_)
          intro iv' hiv'
          refine S.op (S.q (q_move rfl) rfl rfl ?_)
          refine S.op (S.q (q_move rfl) rfl rfl ?_)
          refine S.op (S.buildSlice (pvs := [(_, _)]) [_] Try.underlying22 Try.inf29 rfl rfl ⟨⟨rfl, rfl⟩, trivial⟩ rfl rfl ?_)
          intro b77
          refine S.op (S.appendOw (s := wv) (1) ([.slice r.v.a (min r.l.length 40) r.v.c]) Try.underlying22 Try.inf29 rfl rfl rfl (blk_slAt (b := b77) rfl (by unfold maxLen; omega)) (by first | rfl | exact allOne_bcells _) (⟨by omega, by omega⟩) rfl ?_)
          intro wv' hwv'
          refine S.op (S.q (q_assign rfl) rfl rfl ?_)
          refine S.op (S.q (q_assign rfl) rfl rfl ?_)
          first | with_reducible refine S.nilK ?_ | refine S.nil ?_
          with_reducible repeat (first | refine S.then_n ?_ | refine S.then_x ?_ | refine S.then_r ?_ | refine S.inBlock_n ?_ | refine S.inBlock_r ?_ | refine S.inBlock_x rfl ?_ | refine S.noGoto_r ?_ | refine S.noGoto_n ?_ | refine S.noGoto_x ?_)
          refine hK13 _ _ ?_
          refine S.region rfl ?_
          refine S.op (S.q (q_add rfl rfl (inI64 (by omega) (by omega))) rfl rfl ?_)
          refine S.op (S.q (q_move rfl) rfl rfl ?_)
          first | with_reducible refine S.nilK ?_ | refine S.nil ?_
          with_reducible repeat (first | refine S.then_n ?_ | refine S.then_x ?_ | refine S.then_r ?_ | refine S.inBlock_n ?_ | refine S.inBlock_r ?_ | refine S.inBlock_x rfl ?_ | refine S.noGoto_r ?_ | refine S.noGoto_n ?_ | refine S.noGoto_x ?_)
          rw [show os.flatMap idC ++ [Value.int .u64 q] = _ from flat_snoc idC os (⟨q, k, u', r.l.take (min r.l.length 40)⟩ : Flt)]
          rw [show ws.flatMap brC ++ [Value.slice r.v.a (min r.l.length 40) r.v.c] = _ from flat_snoc brC ws (⟨⟨r.v.a, min r.l.length 40, r.v.c⟩, r.l.take (min r.l.length 40)⟩ : BR)]
          exact S.next (rs.length - (k + 1)) (⟨k + 1, q + 1, lv', iv', wv', os ++ [⟨q, k, u', r.l.take (min r.l.length 40)⟩], ws ++ [⟨⟨r.v.a, min r.l.length 40, r.v.c⟩, r.l.take (min r.l.length 40)⟩], by omega, by simp; omega, by simp [hos], by omega, by omega, hsq.snoc _ (by simp only; omega), hwn.snoc (hbr.take _ (by omega)) rfl (by simp only [List.length_take]; omega), rfl, rfl⟩) (by omega) (by repeat (first | exact trivial | refine ⟨rfl, ?_⟩)) Sub.ent
    · refine S.exit ?_
      with_reducible repeat (first | refine S.then_n ?_ | refine S.then_x ?_ | refine S.then_r ?_ | refine S.inBlock_n ?_ | refine S.inBlock_r ?_ | refine S.inBlock_x rfl ?_ | refine S.noGoto_r ?_ | refine S.noGoto_n ?_ | refine S.noGoto_x ?_)
      with_reducible refine S.inBlock_s ?_
      with_reducible repeat (first | refine S.then_n ?_ | refine S.then_x ?_ | refine S.then_r ?_ | refine S.inBlock_n ?_ | refine S.inBlock_r ?_ | refine S.inBlock_x rfl ?_ | refine S.noGoto_r ?_ | refine S.noGoto_n ?_ | refine S.noGoto_x ?_)
      refine hK9 _ _ ?_
      refine S.seq fun K47 hK47 => ?_
      refine S.seq fun K48 hK48 => ?_
      refine S.region rfl ?_
      refine S.op (S.q (q_move rfl) rfl rfl ?_)
      refine S.op (S.q (q_len Try.underlying28 rfl) rfl rfl ?_)
      refine S.op (S.q (q_gt rfl rfl) rfl rfl ?_)
      first | with_reducible refine S.nilK ?_ | refine S.nil ?_
      refine hK48 _ _ ?_
      refine S.condD rfl (fun h6 => ?_) (fun h6 => ?_)
      · refine S.seq fun K49 hK49 => ?_
        refine S.region rfl ?_
        refine S.op (S.q (q_move rfl) rfl rfl ?_)
        refine S.op (S.q (q_conv Try.it3 (by rw [Try.underlying5]; rfl) rfl (inI64 (by omega) (by omega))) rfl rfl ?_)
        refine S.op (S.q (q_move rfl) rfl rfl ?_)
        refine S.op (S.q (q_len Try.underlying28 rfl) rfl rfl ?_)
        have hiv0 : (0 : Int) < iv.n := by omega
        refine S.op (S.q (q_rem rfl rfl (⟨by omega, by omega⟩)) rfl rfl ?_)
        refine S.op (S.q (q_assign rfl) rfl rfl ?_)
        first | with_reducible refine S.nilK ?_ | refine S.nil ?_
        refine hK49 _ _ ?_
        refine S.seq fun K50 hK50 => ?_
        refine S.seq fun K51 hK51 => ?_
        refine S.region rfl ?_
        have hmod : 0 ≤ ec % (iv.n : Int) ∧ ec % (iv.n : Int) < iv.n := ⟨Int.emod_nonneg _ (by omega), Int.emod_lt_of_pos _ (by omega)⟩
        obtain ⟨A, hA⟩ : ∃ A : Nat, ec % (iv.n : Int) = (A : Int) := ⟨(ec % (iv.n : Int)).toNat, by omega⟩
        rw [hA] at hmod
        rw [hA]
        obtain ⟨x, hx⟩ := getE (l := os) (i := A) (by omega)
        obtain ⟨y, hy⟩ := getE (l := ws) (i := A) (by omega)
        have hxy := hwn.2.2 A x y hx hy
        refine S.ownSome iv (by omega) fun bi offi hbi _ _ _ => ?_
        refine S.ownSome wv (by omega) fun bw offw hbw _ _ _ => ?_
        refine S.op (S.q (q_move rfl) rfl rfl ?_)
        refine S.op (S.q (q_move rfl) rfl rfl ?_)
        refine S.op (S.q (q_move rfl) rfl rfl ?_)
        refine S.op (S.q (q_indexO (A) Try.el28 rfl hbi rfl rfl (by omega)) rfl rfl ?_)
        refine S.op (S.q (q_loadOw (iv) (A * 1 + 0) Try.at30 rfl hbi (by first | rfl | exact Nat.add_assoc _ _ _ | omega) (flat_get (enc := idC) (sz := 1) (fun _ => rfl) hx rfl)) rfl rfl ?_)
        refine S.op (S.call Try.en10 (vs := [_, _]) ⟨rfl, rfl, trivial⟩ (Echo_S t 100 q lv os (by omega) hsq.asc A x hx x.id rfl (by omega) (by omega) (by omega) (by omega) (by omega)) rfl ?_)
        rintro v Θ ⟨u, lv2, rfl, hlv2, rfl⟩
        have hsq2 : Nums 1 (os ++ [(⟨q, x.dst, u, x.data⟩ : Flt)]) := hsq.snoc _ (by simp only; omega)
        have hwn2 : Wants W (ws ++ [y]) (os ++ [(⟨q, x.dst, u, x.data⟩ : Flt)]) := hwn.snoc (hwn.2.1 y (List.mem_of_getElem? hy)) hxy.1 hxy.2
        refine S.op (S.q (q_move rfl) rfl rfl ?_)
        refine S.op (S.q (q_extract rfl rfl) rfl rfl ?_)
        refine S.op (S.q (q_extract rfl rfl) rfl rfl ?_)
        refine S.op (S.q (q_assign rfl) rfl rfl ?_)
        refine S.op (S.q (q_assign rfl) rfl rfl ?_)
        first | with_reducible refine S.nilK ?_ | refine S.nil ?_
        refine hK51 _ _ ?_
        refine S.seq fun K52 hK52 => ?_
        refine S.region rfl ?_
        refine S.op (S.q (q_move rfl) rfl rfl ?_)
        refine S.op (S.q (q_ne rfl rfl) rfl rfl ?_)
        first | with_reducible refine S.nilK ?_ | refine S.nil ?_
        refine hK52 _ _ ?_
        refine S.condD rfl (fun h7 => ?_) (fun h7 => ?_)
        · exact absurd rfl h7
        · refine S.skip ?_
          with_reducible repeat (first | refine S.then_n ?_ | refine S.then_x ?_ | refine S.then_r ?_ | refine S.inBlock_n ?_ | refine S.inBlock_r ?_ | refine S.inBlock_x rfl ?_ | refine S.noGoto_r ?_ | refine S.noGoto_n ?_ | refine S.noGoto_x ?_)
          refine hK50 _ _ ?_
          refine S.region rfl ?_
          refine S.op (S.q (q_move rfl) rfl rfl ?_)
          refine S.op (S.q (q_move rfl) rfl rfl ?_)
          refine S.op (S.q (q_move rfl) rfl rfl ?_)
          refine S.op (S.q (q_indexO (A) Try.el22 rfl hbw rfl rfl (by omega)) rfl rfl ?_)
          refine S.op (S.q (q_loadOw (wv) (A * 1 + 0) Try.at29 rfl hbw (by first | rfl | exact Nat.add_assoc _ _ _ | omega) (flat_get (enc := brC) (sz := 1) (fun _ => rfl) hy rfl)) rfl rfl ?_)
          refine S.op (S.buildSlice (pvs := [(_, _)]) [_] Try.underlying22 Try.inf29 rfl rfl ⟨⟨rfl, rfl⟩, trivial⟩ rfl rfl ?_)
          intro b104
          refine S.op (S.appendOw (s := wv) (1) ([y.v.v]) Try.underlying22 Try.inf29 rfl rfl rfl (blk_slAt (b := b104) rfl (by unfold maxLen; omega)) (by first | rfl | exact allOne_bcells _) (⟨by omega, by omega⟩) rfl ?_)
          intro wv2 hwv2
          rw [show ws.flatMap brC ++ [y.v.v] = _ from flat_snoc brC ws y]
          replace hlv2 : lv2.n = (os ++ [(⟨q, x.dst, u, x.data⟩ : Flt)]).length := by simpa using hlv2
          have hl2 : (os ++ [(⟨q, x.dst, u, x.data⟩ : Flt)]).length ≤ 41 := by simp; omega
          have hq2 : ∃ q2, q2 = q + 1 := ⟨_, rfl⟩
          obtain ⟨q2, hq2⟩ := hq2
          rw [← hq2]
          generalize os ++ [(⟨q, x.dst, u, x.data⟩ : Flt)] = os2 at *
          generalize ws ++ [y] = ws2 at *
          refine S.op (S.q (q_assign rfl) rfl rfl ?_)
          first | with_reducible refine S.nilK ?_ | refine S.nil ?_
          refine hK47 _ _ ?_
          refine S.seq fun K53 hK53 => ?_
          refine S.seq fun K54 hK54 => ?_
          refine S.region rfl ?_
          refine S.ownLen wv2 fun hwv2l _ _ => ?_
          rw [flat_length (enc := brC) (sz := 1) (fun _ => rfl)] at hwv2l
          have hws2 := hwn2.1
          refine S.op (S.q (q_move rfl) rfl rfl ?_)
          refine S.op (S.q (q_len Try.underlying22 rfl) rfl rfl ?_)
          refine S.op (S.q (q_move rfl) rfl rfl ?_)
          first | with_reducible refine S.nilK ?_ | refine S.nil ?_
          refine hK54 _ _ ?_
          refine S.block ?_
          refine S.loop (fun m' ρ' Γ' => ∃ (j : Nat) (lv3 : SV) (os3 : List Flt), m' + j = os2.length ∧ os3 = os2.drop j ∧ lv3.n = os3.length ∧ ρ' = [(5, .pointer (some ⟨t, 0, none⟩)), (106, wv2.v), (107, .int .i64 wv2.n), (108, .int .i64 j)] ∧ Γ' = own wv2 29 1 (ws2.flatMap brC) :: blk t 67 (airC 100 q2 lv3).toArray :: own lv3 70 3 (os3.flatMap fltC) :: alls os3 fltB :: old W :: Γ) (m := _) (ρ0 := _) (Γ0 := _) (⟨0, lv2, os2, rfl, rfl, hlv2, rfl, rfl⟩) (by repeat (first | exact trivial | refine ⟨rfl, ?_⟩)) Sub.ent ?_
          rintro m' ρ' Γ' ⟨j, lv3, os3, hj1, ho3, hlv3, rfl, rfl⟩
          refine S.seq fun K55 hK55 => ?_
          refine S.region rfl ?_
          refine S.op (S.q (q_lt rfl rfl) rfl rfl ?_)
          first | with_reducible refine S.nilK ?_ | refine S.nil ?_
          refine hK55 _ _ ?_
          refine S.seq fun K56 hK56 => ?_
          refine S.condD rfl (fun h8 => ?_) (fun h8 => ?_)
          · obtain ⟨x3, hx3⟩ := getE (l := os2) (i := j) (by omega)
            obtain ⟨w3, hw3⟩ := getE (l := ws2) (i := j) (by omega)
            have hxw := hwn2.2.2 j x3 w3 hx3 hw3
            have hbw := hwn2.2.1 w3 (List.mem_of_getElem? hw3)
            have hd0 : os3[0]? = some x3 := by rw [ho3, List.getElem?_drop]; exact hx3
            have hasc : os3.Pairwise fun a b => a.id < b.id := by rw [ho3]; exact hsq2.asc.sublist (List.drop_sublist j os2)
            have hdl : os3.length = os2.length - j := by rw [ho3, List.length_drop]
            have hdj : os3.eraseIdx 0 = os2.drop (j + 1) := by rw [ho3, List.eraseIdx_zero, List.tail_drop]
            refine S.ownSome wv2 (by omega) fun b2 off2 hb2 _ _ _ => ?_
            refine S.skip ?_
            with_reducible repeat (first | refine S.then_n ?_ | refine S.then_x ?_ | refine S.then_r ?_ | refine S.inBlock_n ?_ | refine S.inBlock_r ?_ | refine S.inBlock_x rfl ?_ | refine S.noGoto_r ?_ | refine S.noGoto_n ?_ | refine S.noGoto_x ?_)
            refine hK56 _ _ ?_
            refine S.seq fun K57 hK57 => ?_
            refine S.block ?_
            refine S.seq fun K58 hK58 => ?_
            refine S.region rfl ?_
            refine S.op (S.q (q_indexO (j) Try.el22 rfl hb2 rfl rfl (by omega)) rfl rfl ?_)
            refine S.op (S.q (q_loadOw (wv2) (j * 1 + 0) Try.at29 rfl hb2 (by first | rfl | exact Nat.add_assoc _ _ _ | omega) (flat_get (enc := brC) (sz := 1) (fun _ => rfl) hw3 rfl)) rfl rfl ?_)
            refine S.op (S.q (q_assign rfl) rfl rfl ?_)
            first | with_reducible refine S.nilK ?_ | refine S.nil ?_
            refine hK58 _ _ ?_
            refine S.seq fun K59 hK59 => ?_
            refine S.region rfl ?_
            refine S.op (S.q (q_move rfl) rfl rfl ?_)
            refine S.op (S.call Try.en11 (vs := [_]) ⟨rfl, trivial⟩ (Oldest_S t 100 q2 lv3 os3 hlv3 x3 hd0) rfl ?_)
            rintro v Θ ⟨rfl, rfl⟩
            refine S.op (S.q (q_move rfl) rfl rfl ?_)
            refine S.op (S.q (q_extract rfl rfl) rfl rfl ?_)
            refine S.op (S.q (q_extract rfl rfl) rfl rfl ?_)
            refine S.op (S.q (q_assign rfl) rfl rfl ?_)
            refine S.op (S.q (q_assign rfl) rfl rfl ?_)
            first | with_reducible refine S.nilK ?_ | refine S.nil ?_
            refine hK59 _ _ ?_
            refine S.seq fun K60 hK60 => ?_
            refine S.region rfl ?_
            refine S.op (S.q (q_move rfl) rfl rfl ?_)
            refine S.op (S.q (q_move rfl) rfl rfl ?_)
            refine S.op (S.call Try.en12 (vs := [_, _]) ⟨rfl, rfl, trivial⟩ (Land_S t 100 q2 lv3 os3 hlv3 (by omega) hasc 0 x3 hd0 x3.id rfl) rfl ?_)
            rintro v Θ ⟨lv4, rfl, hlv4, rfl⟩
            rw [hdj] at hlv4
            rw [hdj]
            refine S.op (S.q (q_move rfl) rfl rfl ?_)
            refine S.op (S.q (q_extract rfl rfl) rfl rfl ?_)
            refine S.op (S.q (q_extract rfl rfl) rfl rfl ?_)
            refine S.op (S.alloc Try.z34 rfl ?_)
            intro b20
            refine S.op (S.storeS (cs' := [_, _]) Try.ag34 rfl rfl rfl rfl rfl rfl ?_)
            refine S.op (S.q (q_assign rfl) rfl rfl ?_)
            first | with_reducible refine S.nilK ?_ | refine S.nil ?_
            refine hK60 _ _ ?_
            refine S.seq fun K61 hK61 => ?_
            refine S.regionG ?_
            refine S.g_op rfl (S.q (q_move rfl) rfl rfl ?_)
            refine S.g_op rfl (S.q (q_not rfl) rfl rfl ?_)
            refine S.g_op rfl (S.q (q_move rfl) rfl rfl ?_)
            refine S.g_yes rfl rfl rfl (rfl) (S.q (q_move rfl) rfl rfl ?_)
            refine S.g_yes rfl rfl rfl (rfl) (S.q (q_ne rfl rfl) rfl rfl ?_)
            refine S.g_op rfl (S.q (q_pickF rfl (rfl) rfl) rfl rfl ?_)
            refine S.g_op rfl (S.q (q_move rfl) rfl rfl ?_)
            refine S.g_yes rfl rfl rfl (rfl) (S.q (q_field Try.fo34_1 rfl) rfl rfl ?_)
            refine S.g_yes rfl rfl rfl (rfl) (S.q (q_load Try.at29 rfl rfl) rfl rfl ?_)
            refine S.g_yes rfl rfl rfl (rfl) (S.q (q_move rfl) rfl rfl ?_)
            refine S.g_yes rfl rfl rfl (rfl) (S.callP Try.en13 (vs := [_, _]) ⟨rfl, rfl, trivial⟩ (fun w hs => Same_P x3.v w3.v x3.data w3.l w (flt_in (x := x3) hs) (HasOld.slAt inferInstance hs hbw.at_) (by rw [hxw.1]; exact hbw.rng) hbw.rng) rfl ?_)
            refine S.g_yes rfl rfl rfl (rfl) (S.q (q_not rfl) rfl rfl ?_)
            refine S.g_op rfl (S.q (q_pickF rfl (rfl) rfl) rfl rfl ?_)
            first | with_reducible refine S.g_nilK ?_ | refine S.g_nil ?_
            refine hK61 _ _ ?_
            refine S.cond rfl (fun h9 => ?_) (fun h9 => ?_)
            · exact absurd h9 (by simp [hxw.1])
            · refine S.skip ?_
              with_reducible repeat (first | refine S.then_n ?_ | refine S.then_x ?_ | refine S.then_r ?_ | refine S.inBlock_n ?_ | refine S.inBlock_r ?_ | refine S.inBlock_x rfl ?_ | refine S.noGoto_r ?_ | refine S.noGoto_n ?_ | refine S.noGoto_x ?_)
              with_reducible repeat (first | refine S.then_n ?_ | refine S.then_x ?_ | refine S.then_r ?_ | refine S.inBlock_n ?_ | refine S.inBlock_r ?_ | refine S.inBlock_x rfl ?_ | refine S.noGoto_r ?_ | refine S.noGoto_n ?_ | refine S.noGoto_x ?_)
              refine hK57 _ _ ?_
              refine S.region rfl ?_
              refine S.op (S.q (q_add rfl rfl (inI64 (by omega) (by omega))) rfl rfl ?_)
              refine S.op (S.q (q_move rfl) rfl rfl ?_)
              first | with_reducible refine S.nilK ?_ | refine S.nil ?_
              with_reducible repeat (first | refine S.then_n ?_ | refine S.then_x ?_ | refine S.then_r ?_ | refine S.inBlock_n ?_ | refine S.inBlock_r ?_ | refine S.inBlock_x rfl ?_ | refine S.noGoto_r ?_ | refine S.noGoto_n ?_ | refine S.noGoto_x ?_)
              exact S.next (m' - 1) (⟨j + 1, lv4, os2.drop (j + 1), by omega, rfl, hlv4, rfl, rfl⟩) (by omega) (by repeat (first | exact trivial | refine ⟨rfl, ?_⟩)) Sub.ent
          · have hfin : os3.length = 0 := by rw [ho3, List.length_drop]; omega
            refine S.exit ?_
            with_reducible repeat (first | refine S.then_n ?_ | refine S.then_x ?_ | refine S.then_r ?_ | refine S.inBlock_n ?_ | refine S.inBlock_r ?_ | refine S.inBlock_x rfl ?_ | refine S.noGoto_r ?_ | refine S.noGoto_n ?_ | refine S.noGoto_x ?_)
            with_reducible refine S.inBlock_s ?_
            with_reducible repeat (first | refine S.then_n ?_ | refine S.then_x ?_ | refine S.then_r ?_ | refine S.inBlock_n ?_ | refine S.inBlock_r ?_ | refine S.inBlock_x rfl ?_ | refine S.noGoto_r ?_ | refine S.noGoto_n ?_ | refine S.noGoto_x ?_)
            refine hK53 _ _ ?_
            refine S.seq fun K62 hK62 => ?_
            refine S.region rfl ?_
            refine S.op (S.q (q_move rfl) rfl rfl ?_)
            refine S.op (S.call Try.en14 (vs := [_]) ⟨rfl, trivial⟩ (Len_S t 100 q2 lv3) rfl ?_)
            rintro v Θ ⟨rfl, rfl⟩
            refine S.op (S.q (q_eq rfl rfl) rfl rfl ?_)
            refine S.op (S.q (q_assign rfl) rfl rfl ?_)
            first | with_reducible refine S.nilK ?_ | refine S.nil ?_
            refine hK62 _ _ ?_
            refine S.ret ?_
            with_reducible repeat (first | refine S.then_n ?_ | refine S.then_x ?_ | refine S.then_r ?_ | refine S.inBlock_n ?_ | refine S.inBlock_r ?_ | refine S.inBlock_x rfl ?_ | refine S.noGoto_r ?_ | refine S.noGoto_n ?_ | refine S.noGoto_x ?_)
            exact S.fin (rs := [_]) (vs := [_]) Try.results3 (⟨rfl, trivial⟩)  (⟨by simp only [resV]; rw [decide_eq_true (show (lv3.n : Int) = 0 by omega)], rfl⟩) Sub.ent
      · obtain ⟨lv2, rfl⟩ : ∃ lv2, lv2 = lv := ⟨_, rfl⟩
        obtain ⟨wv2, rfl⟩ : ∃ wv2, wv2 = wv := ⟨_, rfl⟩
        obtain ⟨os2, rfl⟩ : ∃ os2, os2 = os := ⟨_, rfl⟩
        obtain ⟨ws2, rfl⟩ : ∃ ws2, ws2 = ws := ⟨_, rfl⟩
        obtain ⟨q2, rfl⟩ : ∃ q2, q2 = q := ⟨_, rfl⟩
        have hsq2 := hsq
        have hwn2 := hwn
        have hlv2 : lv2.n = os2.length := by omega
        have hl2 : os2.length ≤ 41 := by omega
        refine S.skip ?_
        with_reducible repeat (first | refine S.then_n ?_ | refine S.then_x ?_ | refine S.then_r ?_ | refine S.inBlock_n ?_ | refine S.inBlock_r ?_ | refine S.inBlock_x rfl ?_ | refine S.noGoto_r ?_ | refine S.noGoto_n ?_ | refine S.noGoto_x ?_)
        refine hK47 _ _ ?_
        refine S.seq fun K63 hK63 => ?_
        refine S.seq fun K64 hK64 => ?_
        refine S.region rfl ?_
        refine S.ownLen wv2 fun hwv2l _ _ => ?_
        rw [flat_length (enc := brC) (sz := 1) (fun _ => rfl)] at hwv2l
        have hws2 := hwn2.1
        refine S.op (S.q (q_move rfl) rfl rfl ?_)
        refine S.op (S.q (q_len Try.underlying22 rfl) rfl rfl ?_)
        refine S.op (S.q (q_move rfl) rfl rfl ?_)
        first | with_reducible refine S.nilK ?_ | refine S.nil ?_
        refine hK64 _ _ ?_
        refine S.block ?_
        refine S.loop (fun m' ρ' Γ' => ∃ (j : Nat) (lv3 : SV) (os3 : List Flt), m' + j = os2.length ∧ os3 = os2.drop j ∧ lv3.n = os3.length ∧ ρ' = [(5, .pointer (some ⟨t, 0, none⟩)), (106, wv2.v), (107, .int .i64 wv2.n), (108, .int .i64 j)] ∧ Γ' = own wv2 29 1 (ws2.flatMap brC) :: blk t 67 (airC 100 q2 lv3).toArray :: own lv3 70 3 (os3.flatMap fltC) :: alls os3 fltB :: old W :: Γ) (m := _) (ρ0 := _) (Γ0 := _) (⟨0, lv2, os2, rfl, rfl, hlv2, rfl, rfl⟩) (by repeat (first | exact trivial | refine ⟨rfl, ?_⟩)) Sub.ent ?_
        rintro m' ρ' Γ' ⟨j, lv3, os3, hj1, ho3, hlv3, rfl, rfl⟩
        refine S.seq fun K65 hK65 => ?_
        refine S.region rfl ?_
        refine S.op (S.q (q_lt rfl rfl) rfl rfl ?_)
        first | with_reducible refine S.nilK ?_ | refine S.nil ?_
        refine hK65 _ _ ?_
        refine S.seq fun K66 hK66 => ?_
        refine S.condD rfl (fun h8 => ?_) (fun h8 => ?_)
        · obtain ⟨x3, hx3⟩ := getE (l := os2) (i := j) (by omega)
          obtain ⟨w3, hw3⟩ := getE (l := ws2) (i := j) (by omega)
          have hxw := hwn2.2.2 j x3 w3 hx3 hw3
          have hbw := hwn2.2.1 w3 (List.mem_of_getElem? hw3)
          have hd0 : os3[0]? = some x3 := by rw [ho3, List.getElem?_drop]; exact hx3
          have hasc : os3.Pairwise fun a b => a.id < b.id := by rw [ho3]; exact hsq2.asc.sublist (List.drop_sublist j os2)
          have hdl : os3.length = os2.length - j := by rw [ho3, List.length_drop]
          have hdj : os3.eraseIdx 0 = os2.drop (j + 1) := by rw [ho3, List.eraseIdx_zero, List.tail_drop]
          refine S.ownSome wv2 (by omega) fun b2 off2 hb2 _ _ _ => ?_
          refine S.skip ?_
          with_reducible repeat (first | refine S.then_n ?_ | refine S.then_x ?_ | refine S.then_r ?_ | refine S.inBlock_n ?_ | refine S.inBlock_r ?_ | refine S.inBlock_x rfl ?_ | refine S.noGoto_r ?_ | refine S.noGoto_n ?_ | refine S.noGoto_x ?_)
          refine hK66 _ _ ?_
          refine S.seq fun K67 hK67 => ?_
          refine S.block ?_
          refine S.seq fun K68 hK68 => ?_
          refine S.region rfl ?_
          refine S.op (S.q (q_indexO (j) Try.el22 rfl hb2 rfl rfl (by omega)) rfl rfl ?_)
          refine S.op (S.q (q_loadOw (wv2) (j * 1 + 0) Try.at29 rfl hb2 (by first | rfl | exact Nat.add_assoc _ _ _ | omega) (flat_get (enc := brC) (sz := 1) (fun _ => rfl) hw3 rfl)) rfl rfl ?_)
          refine S.op (S.q (q_assign rfl) rfl rfl ?_)
          first | with_reducible refine S.nilK ?_ | refine S.nil ?_
          refine hK68 _ _ ?_
          refine S.seq fun K69 hK69 => ?_
          refine S.region rfl ?_
          refine S.op (S.q (q_move rfl) rfl rfl ?_)
          refine S.op (S.call Try.en11 (vs := [_]) ⟨rfl, trivial⟩ (Oldest_S t 100 q2 lv3 os3 hlv3 x3 hd0) rfl ?_)
          rintro v Θ ⟨rfl, rfl⟩
          refine S.op (S.q (q_move rfl) rfl rfl ?_)
          refine S.op (S.q (q_extract rfl rfl) rfl rfl ?_)
          refine S.op (S.q (q_extract rfl rfl) rfl rfl ?_)
          refine S.op (S.q (q_assign rfl) rfl rfl ?_)
          refine S.op (S.q (q_assign rfl) rfl rfl ?_)
          first | with_reducible refine S.nilK ?_ | refine S.nil ?_
          refine hK69 _ _ ?_
          refine S.seq fun K70 hK70 => ?_
          refine S.region rfl ?_
          refine S.op (S.q (q_move rfl) rfl rfl ?_)
          refine S.op (S.q (q_move rfl) rfl rfl ?_)
          refine S.op (S.call Try.en12 (vs := [_, _]) ⟨rfl, rfl, trivial⟩ (Land_S t 100 q2 lv3 os3 hlv3 (by omega) hasc 0 x3 hd0 x3.id rfl) rfl ?_)
          rintro v Θ ⟨lv4, rfl, hlv4, rfl⟩
          rw [hdj] at hlv4
          rw [hdj]
          refine S.op (S.q (q_move rfl) rfl rfl ?_)
          refine S.op (S.q (q_extract rfl rfl) rfl rfl ?_)
          refine S.op (S.q (q_extract rfl rfl) rfl rfl ?_)
          refine S.op (S.alloc Try.z34 rfl ?_)
          intro b20
          refine S.op (S.storeS (cs' := [_, _]) Try.ag34 rfl rfl rfl rfl rfl rfl ?_)
          refine S.op (S.q (q_assign rfl) rfl rfl ?_)
          first | with_reducible refine S.nilK ?_ | refine S.nil ?_
          refine hK70 _ _ ?_
          refine S.seq fun K71 hK71 => ?_
          refine S.regionG ?_
          refine S.g_op rfl (S.q (q_move rfl) rfl rfl ?_)
          refine S.g_op rfl (S.q (q_not rfl) rfl rfl ?_)
          refine S.g_op rfl (S.q (q_move rfl) rfl rfl ?_)
          refine S.g_yes rfl rfl rfl (rfl) (S.q (q_move rfl) rfl rfl ?_)
          refine S.g_yes rfl rfl rfl (rfl) (S.q (q_ne rfl rfl) rfl rfl ?_)
          refine S.g_op rfl (S.q (q_pickF rfl (rfl) rfl) rfl rfl ?_)
          refine S.g_op rfl (S.q (q_move rfl) rfl rfl ?_)
          refine S.g_yes rfl rfl rfl (rfl) (S.q (q_field Try.fo34_1 rfl) rfl rfl ?_)
          refine S.g_yes rfl rfl rfl (rfl) (S.q (q_load Try.at29 rfl rfl) rfl rfl ?_)
          refine S.g_yes rfl rfl rfl (rfl) (S.q (q_move rfl) rfl rfl ?_)
          refine S.g_yes rfl rfl rfl (rfl) (S.callP Try.en13 (vs := [_, _]) ⟨rfl, rfl, trivial⟩ (fun w hs => Same_P x3.v w3.v x3.data w3.l w (flt_in (x := x3) hs) (HasOld.slAt inferInstance hs hbw.at_) (by rw [hxw.1]; exact hbw.rng) hbw.rng) rfl ?_)
          refine S.g_yes rfl rfl rfl (rfl) (S.q (q_not rfl) rfl rfl ?_)
          refine S.g_op rfl (S.q (q_pickF rfl (rfl) rfl) rfl rfl ?_)
          first | with_reducible refine S.g_nilK ?_ | refine S.g_nil ?_
          refine hK71 _ _ ?_
          refine S.cond rfl (fun h9 => ?_) (fun h9 => ?_)
          · exact absurd h9 (by simp [hxw.1])
          · refine S.skip ?_
            with_reducible repeat (first | refine S.then_n ?_ | refine S.then_x ?_ | refine S.then_r ?_ | refine S.inBlock_n ?_ | refine S.inBlock_r ?_ | refine S.inBlock_x rfl ?_ | refine S.noGoto_r ?_ | refine S.noGoto_n ?_ | refine S.noGoto_x ?_)
            with_reducible repeat (first | refine S.then_n ?_ | refine S.then_x ?_ | refine S.then_r ?_ | refine S.inBlock_n ?_ | refine S.inBlock_r ?_ | refine S.inBlock_x rfl ?_ | refine S.noGoto_r ?_ | refine S.noGoto_n ?_ | refine S.noGoto_x ?_)
            refine hK67 _ _ ?_
            refine S.region rfl ?_
            refine S.op (S.q (q_add rfl rfl (inI64 (by omega) (by omega))) rfl rfl ?_)
            refine S.op (S.q (q_move rfl) rfl rfl ?_)
            first | with_reducible refine S.nilK ?_ | refine S.nil ?_
            with_reducible repeat (first | refine S.then_n ?_ | refine S.then_x ?_ | refine S.then_r ?_ | refine S.inBlock_n ?_ | refine S.inBlock_r ?_ | refine S.inBlock_x rfl ?_ | refine S.noGoto_r ?_ | refine S.noGoto_n ?_ | refine S.noGoto_x ?_)
            exact S.next (m' - 1) (⟨j + 1, lv4, os2.drop (j + 1), by omega, rfl, hlv4, rfl, rfl⟩) (by omega) (by repeat (first | exact trivial | refine ⟨rfl, ?_⟩)) Sub.ent
        · have hfin : os3.length = 0 := by rw [ho3, List.length_drop]; omega
          refine S.exit ?_
          with_reducible repeat (first | refine S.then_n ?_ | refine S.then_x ?_ | refine S.then_r ?_ | refine S.inBlock_n ?_ | refine S.inBlock_r ?_ | refine S.inBlock_x rfl ?_ | refine S.noGoto_r ?_ | refine S.noGoto_n ?_ | refine S.noGoto_x ?_)
          with_reducible refine S.inBlock_s ?_
          with_reducible repeat (first | refine S.then_n ?_ | refine S.then_x ?_ | refine S.then_r ?_ | refine S.inBlock_n ?_ | refine S.inBlock_r ?_ | refine S.inBlock_x rfl ?_ | refine S.noGoto_r ?_ | refine S.noGoto_n ?_ | refine S.noGoto_x ?_)
          refine hK63 _ _ ?_
          refine S.seq fun K72 hK72 => ?_
          refine S.region rfl ?_
          refine S.op (S.q (q_move rfl) rfl rfl ?_)
          refine S.op (S.call Try.en14 (vs := [_]) ⟨rfl, trivial⟩ (Len_S t 100 q2 lv3) rfl ?_)
          rintro v Θ ⟨rfl, rfl⟩
          refine S.op (S.q (q_eq rfl rfl) rfl rfl ?_)
          refine S.op (S.q (q_assign rfl) rfl rfl ?_)
          first | with_reducible refine S.nilK ?_ | refine S.nil ?_
          refine hK72 _ _ ?_
          refine S.ret ?_
          with_reducible repeat (first | refine S.then_n ?_ | refine S.then_x ?_ | refine S.then_r ?_ | refine S.inBlock_n ?_ | refine S.inBlock_r ?_ | refine S.inBlock_x rfl ?_ | refine S.noGoto_r ?_ | refine S.noGoto_n ?_ | refine S.noGoto_x ?_)
          exact S.fin (rs := [_]) (vs := [_]) Try.results3 (⟨rfl, trivial⟩)  (⟨by simp only [resV]; rw [decide_eq_true (show (lv3.n : Int) = 0 by omega)], rfl⟩) Sub.ent
open Go.ChangeShapes Go.WideShapes Go.ChangeAt
theorem AirOrder_law {H : Type} (enc : TypeId × Value → H) : LawWalk enc 3 Try.f3 := by
  intro W base args ds before hval hA _ _
  rw [Try.params3] at hA hval
  obtain ⟨v0, vs0, d0, ds0, p0, q0, hargs, rfl, rfl, h0, r0⟩ := trodAll_cons hA
  obtain ⟨v1, vs1, d1, ds1, p1, q1, rfl, rfl, rfl, h1, r1⟩ := trodAll_cons r0
  obtain ⟨rfl, rfl, rfl⟩ := trodAll_nil r1
  obtain rfl : args = #[v0, v1] := by cases args; simp_all
  obtain ⟨s0, rs, e0, hn, hs, hb⟩ := rd_rows (arg_slice 4 Try.underlying22 (by kernel_rfl) (hval 0 22 v0 rfl rfl) h0)
  simp only [List.cons.injEq, and_true] at e0
  subst e0
  obtain ⟨a1, rfl, w1⟩ := arg_int Try.underlying5 (hval 1 5 v1 rfl rfl) h1
  exact law_run (AirOrder_S s0 rs a1 W hn hs hb (u8_rng w1))
set_option maxRecDepth 100000 in
theorem AirOrder_lifted (os : Os) (started : os.Started) (H : Type) (enc : TypeId × Value → H) :
    ReturnsInHanded {} Try.checked os 3 .any (Rows.airOrderSpec.pre6 enc Try.prog Try.f3 Rows.airOrderRow.domain false) (Rows.airOrderSpec.post enc Try.prog Try.f3 false true false false) :=
  lift_true started Try.func3 (by kernel_rfl)
    (ChangeSpec.witness6 (enc := enc) (C := Try.checked) false ⟨#[], #[.slice none 0 0, .int .u8 0], []⟩ 8 (by kernel_rfl) (by kernel_rfl) (by kernel_rfl) (by kernel_rfl))
    rfl rfl (by kernel_rfl) (fun ds h => by match ds, h with | [a0, a1], _ => rfl) (AirOrder_law enc)
theorem AirOrder_over : Rows.airOrderRow.holds Try.pinned (OpenSpec.ofChange Rows.airOrderSpec) :=
  OpenClaim.holds_of_wide 3 Try.f3 rfl rfl rfl rfl rfl rfl rfl ⟨rfl, rfl, rfl, rfl, rfl⟩ rfl rfl rfl rfl rfl (by kernel_rfl) Try.func3 (by kernel_rfl)
    (of_decide_eq_true (by kernel_rfl)) (by unfold Func.isWrapper; rw [if_neg (of_decide_eq_false (by kernel_rfl))]; exact ⟨rfl, rfl⟩)
    (fun os started H enc _ => AirOrder_lifted os started H enc)
theorem AirOrder_holds : Rows.AirOrderSaid := AirOrder_over
#print axioms AirOrder_holds
end Go.Proofs.Ythbckdjncmipeaa
