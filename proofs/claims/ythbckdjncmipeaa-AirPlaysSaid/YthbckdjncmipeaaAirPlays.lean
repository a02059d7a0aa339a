/- The law AirPlays: every script has the document's answers. -/
import Derived.Test.YthbckdjncmipeaaAirF
namespace Go.Proofs.Ythbckdjncmipeaa
open Go.RowKit
theorem ok_len {n : Int} {m : Nat} {st : St} (h : Ok n m st) : lenR st ≤ m := by
  cases st with
  | none => exact Nat.zero_le _
  | some z => obtain ⟨q, L⟩ := z; exact h.2.2.2.2.2.1
set_option maxHeartbeats 1600000 in
theorem AirPlays_S (n kk : Int) (s1 : SV) (rs : List Opr) (W : World) (hn0 : s1.n = rs.length) (h0 : SlAt W s1.v rs.length 4 (rs.flatMap oprC)) (hr : ∀ r ∈ rs, BW W r.v r.l) : LawS 6 [.int .i64 n, s1.v, .int .i64 kk] W := by
  have hm0 := slAt_cap h0
  unfold maxLen at hm0
  refine Spec.of_body Try.func6 rfl Try.ntmps6 rfl ?_
  intro w0 Γ
  show S _ w0 [(0, .int .i64 n), (1, s1.v), (2, .int .i64 kk)] (old W :: Γ) _
  refine S.seq fun K1 hK1 => ?_
  refine S.region rfl ?_
  refine S.op (S.q (q_assign rfl) rfl rfl ?_)
  first | with_reducible refine S.nilK ?_ | refine S.nil ?_
  refine hK1 _ _ ?_
  refine S.seq fun K2 hK2 => ?_
  refine S.seq fun K3 hK3 => ?_
  refine S.region rfl ?_
  refine S.op (S.call Try.en7 (vs := []) trivial (awake_S) rfl ?_)
  rintro v Θ ⟨rfl, rfl⟩
  refine S.op (S.q (q_not rfl) rfl rfl ?_)
  first | with_reducible refine S.nilK ?_ | refine S.nil ?_
  refine hK3 _ _ ?_
  refine S.condF rfl ?_
  refine S.skip ?_
  with_reducible repeat (first | refine S.then_n ?_ | refine S.then_x ?_ | refine S.then_r ?_ | refine S.inBlock_n ?_ | refine S.inBlock_r ?_ | refine S.inBlock_x rfl ?_ | refine S.noGoto_r ?_ | refine S.noGoto_n ?_ | refine S.noGoto_x ?_)
  refine hK2 _ _ ?_
  refine S.seq fun K4 hK4 => ?_
  refine S.region rfl ?_
  refine S.op (S.q (q_move rfl) rfl rfl ?_)
  refine S.op (S.call Try.en8 (vs := [_]) ⟨rfl, trivial⟩ (ANew n) rfl ?_)
  rintro v Θ ⟨pa, rfl, hpa, rfl⟩
  refine S.op (S.q (q_move rfl) rfl rfl ?_)
  refine S.op (S.q (q_extract rfl rfl) rfl rfl ?_)
  refine S.op (S.q (q_extract rfl rfl) rfl rfl ?_)
  refine S.op (S.q (q_assign rfl) rfl rfl ?_)
  refine S.op (S.q (q_assign rfl) rfl rfl ?_)
  first | with_reducible refine S.nilK ?_ | refine S.nil ?_
  refine hK4 _ _ ?_
  refine S.seq fun K5 hK5 => ?_
  refine S.region rfl ?_
  refine S.op (S.q (q_move rfl) rfl rfl ?_)
  refine S.op (S.call Try.en16 (vs := [_]) ⟨rfl, trivial⟩ (RNew n) rfl ?_)
  rintro v Θ ⟨pb, rfl, hpb, rfl⟩
  refine S.op (S.q (q_move rfl) rfl rfl ?_)
  refine S.op (S.q (q_extract rfl rfl) rfl rfl ?_)
  refine S.op (S.q (q_extract rfl rfl) rfl rfl ?_)
  refine S.op (S.q (q_assign rfl) rfl rfl ?_)
  refine S.op (S.q (q_assign rfl) rfl rfl ?_)
  first | with_reducible refine S.nilK ?_ | refine S.nil ?_
  refine hK5 _ _ ?_
  refine S.seq fun K6 hK6 => ?_
  refine S.seq fun K7 hK7 => ?_
  refine S.regionG ?_
  refine S.g_op rfl (S.q (q_move rfl) rfl rfl ?_)
  refine S.g_op rfl (S.q (q_move rfl) rfl rfl ?_)
  refine S.g_op rfl (S.q (q_ne rfl rfl) rfl rfl ?_)
  refine S.g_op rfl (S.q (q_move rfl) rfl rfl ?_)
  refine S.g_yes rfl rfl rfl ((decide_eq_false (fun h => h rfl))) (S.q (q_move rfl) rfl rfl ?_)
  refine S.g_yes rfl rfl rfl ((decide_eq_false (fun h => h rfl))) (S.q (q_eqN Try.underlying24 rfl rfl) rfl rfl ?_)
  refine S.g_yes rfl rfl rfl ((decide_eq_false (fun h => h rfl))) (S.q (q_move rfl) rfl rfl ?_)
  refine S.g_yes rfl rfl rfl ((decide_eq_false (fun h => h rfl))) (S.q (q_eqN Try.underlying47 rfl rfl) rfl rfl ?_)
  refine S.g_yes rfl rfl rfl ((decide_eq_false (fun h => h rfl))) (S.q (q_neB Try.underlying4 rfl rfl) rfl rfl ?_)
  refine S.g_op rfl (S.q (q_pickF rfl ((decide_eq_false (fun h => h rfl))) rfl) rfl rfl ?_)
  first | with_reducible refine S.g_nilK ?_ | refine S.g_nil ?_
  refine hK7 _ _ ?_
  refine S.cond rfl (fun h2 => ?_) (fun h2 => ?_)
  · exact absurd h2 (by rw [hpa, hpb]; simp)
  · refine S.skip ?_
    with_reducible repeat (first | refine S.then_n ?_ | refine S.then_x ?_ | refine S.then_r ?_ | refine S.inBlock_n ?_ | refine S.inBlock_r ?_ | refine S.inBlock_x rfl ?_ | refine S.noGoto_r ?_ | refine S.noGoto_n ?_ | refine S.noGoto_x ?_)
    refine hK6 _ _ ?_
    refine S.seq fun K8 hK8 => ?_
    refine S.seq fun K9 hK9 => ?_
    refine S.region rfl ?_
    refine S.op (S.q (q_move rfl) rfl rfl ?_)
    refine S.op (S.q (q_len Try.underlying46 rfl) rfl rfl ?_)
    refine S.op (S.q (q_move rfl) rfl rfl ?_)
    first | with_reducible refine S.nilK ?_ | refine S.nil ?_
    refine hK9 _ _ ?_
    refine S.block ?_
    refine S.loop (fun m ρ' Γ' => ∃ (k : Nat) (st : St), m + k = rs.length ∧ k ≤ 80 ∧ Ok n k st ∧ ρ' = [(2, .int .i64 kk), (7, .pointer pa), (9, .pointer pb), (62, s1.v), (63, .int .i64 s1.n), (64, .int .i64 k)] ∧ Γ' = AirI n pa st :: RefI n pb st :: old W :: Γ) (m := _) (ρ0 := _) (Γ0 := _) (⟨0, newR n, rfl, by omega, newR_ok n, rfl, rfl⟩) (by repeat (first | exact trivial | refine ⟨rfl, ?_⟩)) Sub.ent ?_
    clear hpa hpb
    rintro m ρ' Γ' ⟨k, st, hk1, hk80, ok, rfl, rfl⟩
    refine S.seq fun K10 hK10 => ?_
    refine S.region rfl ?_
    refine S.op (S.q (q_lt rfl rfl) rfl rfl ?_)
    first | with_reducible refine S.nilK ?_ | refine S.nil ?_
    refine hK10 _ _ ?_
    refine S.seq fun K11 hK11 => ?_
    refine S.condD rfl (fun h3 => ?_) (fun h3 => ?_)
    · obtain ⟨r, hrk⟩ := getE (l := rs) (i := k) (by omega)
      have hbr := hr r (List.mem_of_getElem? hrk)
      have hcr := slAt_cap hbr.at_
      have hlr := hbr.len
      unfold maxLen at hcr
      obtain ⟨b, off, hb, hcell⟩ := slAt_some h0 (by omega)
      refine S.skip ?_
      with_reducible repeat (first | refine S.then_n ?_ | refine S.then_x ?_ | refine S.then_r ?_ | refine S.inBlock_n ?_ | refine S.inBlock_r ?_ | refine S.inBlock_x rfl ?_ | refine S.noGoto_r ?_ | refine S.noGoto_n ?_ | refine S.noGoto_x ?_)
      refine hK11 _ _ ?_
      refine S.seq fun K12 hK12 => ?_
      refine S.block ?_
      refine S.seq fun K13 hK13 => ?_
      refine S.region rfl ?_
      refine S.op (S.q (q_move rfl) rfl rfl ?_)
      refine S.op (S.q (q_indexO (k) Try.el46 rfl hb rfl rfl (by omega)) rfl rfl ?_)
      refine S.op (S.q (q_loadWS [.int .u8 r.od, .int .u64 r.id, .int .i64 r.dst, r.v.v] Try.ag51 rfl rfl (fun i u hu => by rw [Nat.add_assoc]; exact hcell _ _ (flat_seg (enc := oprC) (sz := 4) (fun _ => rfl) hrk i u hu))) rfl rfl ?_)
      refine S.op (S.alloc Try.z51 rfl ?_)
      intro b12
      refine S.op (S.q (q_assign rfl) rfl rfl ?_)
      refine S.op (S.storeS (cs' := [_, _, _, _]) Try.ag51 rfl rfl rfl rfl rfl rfl ?_)
      first | with_reducible refine S.nilK ?_ | refine S.nil ?_
      refine hK13 _ _ ?_
      refine S.seq fun K14 hK14 => ?_
      refine S.seq fun K15 hK15 => ?_
      refine S.region rfl ?_
      refine S.op (S.q (q_move rfl) rfl rfl ?_)
      refine S.op (S.q (q_ge rfl rfl) rfl rfl ?_)
      first | with_reducible refine S.nilK ?_ | refine S.nil ?_
      refine hK15 _ _ ?_
      refine S.condD rfl (fun h4 => ?_) (fun h4 => ?_)
      · refine S.exit ?_
        with_reducible repeat (first | refine S.then_n ?_ | refine S.then_x ?_ | refine S.then_r ?_ | refine S.inBlock_n ?_ | refine S.inBlock_r ?_ | refine S.inBlock_x rfl ?_ | refine S.noGoto_r ?_ | refine S.noGoto_n ?_ | refine S.noGoto_x ?_)
        with_reducible refine S.inBlock_s ?_
        with_reducible repeat (first | refine S.then_n ?_ | refine S.then_x ?_ | refine S.then_r ?_ | refine S.inBlock_n ?_ | refine S.inBlock_r ?_ | refine S.inBlock_x rfl ?_ | refine S.noGoto_r ?_ | refine S.noGoto_n ?_ | refine S.noGoto_x ?_)
        refine hK8 _ _ ?_
        refine S.seq fun K16 hK16 => ?_
        refine S.region rfl ?_
        refine S.op (S.q (q_assign rfl) rfl rfl ?_)
        first | with_reducible refine S.nilK ?_ | refine S.nil ?_
        refine hK16 _ _ ?_
        refine S.ret ?_
        with_reducible repeat (first | refine S.then_n ?_ | refine S.then_x ?_ | refine S.then_r ?_ | refine S.inBlock_n ?_ | refine S.inBlock_r ?_ | refine S.inBlock_x rfl ?_ | refine S.noGoto_r ?_ | refine S.noGoto_n ?_ | refine S.noGoto_x ?_)
        exact S.fin (rs := [_]) (vs := [_]) Try.results6 (⟨rfl, trivial⟩)  (⟨rfl, rfl⟩) Sub.ent
      · obtain ⟨P, hP⟩ : ∃ P, P = min r.l.length 40 := ⟨_, rfl⟩
        have hbt := hbr.take P (by omega)
        obtain ⟨l, hl⟩ : ∃ l, l = r.l.take P := ⟨_, rfl⟩
        rw [← hl] at hbt
        have hll : l.length = P := by rw [hl, List.length_take]; omega
        refine S.skip ?_
        with_reducible repeat (first | refine S.then_n ?_ | refine S.then_x ?_ | refine S.then_r ?_ | refine S.inBlock_n ?_ | refine S.inBlock_r ?_ | refine S.inBlock_x rfl ?_ | refine S.noGoto_r ?_ | refine S.noGoto_n ?_ | refine S.noGoto_x ?_)
        refine hK14 _ _ ?_
        refine S.seq fun K17 hK17 => ?_
        refine S.region rfl ?_
        refine S.op (S.q (q_field Try.fo51_2 rfl) rfl rfl ?_)
        refine S.op (S.q (q_field Try.fo34_1 rfl) rfl rfl ?_)
        refine S.op (S.q (q_load Try.at29 rfl rfl) rfl rfl ?_)
        refine S.op (S.q (q_field Try.fo51_2 rfl) rfl rfl ?_)
        refine S.op (S.q (q_field Try.fo34_1 rfl) rfl rfl ?_)
        refine S.op (S.q (q_load Try.at29 rfl rfl) rfl rfl ?_)
        refine S.op (S.q (q_len Try.underlying29 rfl) rfl rfl ?_)
        refine S.op (S.q (q_min ((P : Int)) rfl rfl (by omega)) rfl rfl ?_)
        refine S.op (S.q (q_sliceTo (P) Try.el29 rfl rfl rfl (by omega)) rfl rfl ?_)
        refine S.op (S.q (q_assign rfl) rfl rfl ?_)
        first | with_reducible refine S.nilK ?_ | refine S.nil ?_
        refine hK17 _ _ ?_
        refine S.seq fun K18 hK18 => ?_
        refine S.region rfl ?_
        refine S.op (S.buildSlice0 Try.underlying29 Try.inf5 rfl ?_)
        intro b80 hb80
        refine S.op (S.q (q_move rfl) rfl rfl ?_)
        refine S.op (S.appendOw (s := b80) (P) (bcells l) Try.underlying29 Try.inf5 rfl rfl rfl (fun w hs => (by have := HasOld.slAt inferInstance hs hbt.at_; unfold BytesAt at this; rw [hll] at this; exact this)) (by first | rfl | exact allOne_bcells _) (⟨by omega, by omega⟩) rfl ?_)
        intro u hu
        rw [List.nil_append]
        refine S.op (S.q (q_assign rfl) rfl rfl ?_)
        first | with_reducible refine S.nilK ?_ | refine S.nil ?_
        refine hK18 _ _ ?_
        refine S.seq fun K19 hK19 => ?_
        refine S.region rfl ?_
        refine S.op (S.q (q_assign rfl) rfl rfl ?_)
        first | with_reducible refine S.nilK ?_ | refine S.nil ?_
        refine hK19 _ _ ?_
        refine S.seq fun K20 hK20 => ?_
        refine S.seq fun K21 hK21 => ?_
        refine S.region rfl ?_
        refine S.op (S.q (q_field Try.fo51_0 rfl) rfl rfl ?_)
        refine S.op (S.q (q_load Try.at5 rfl rfl) rfl rfl ?_)
        first | with_reducible refine S.nilK ?_ | refine S.nil ?_
        refine hK21 _ _ ?_
        refine S.cut (fun ρ' Γ' => ∃ (st' : St) (g : Bool), g = true ∧ Ok n (k + 1) st' ∧ ρ' = [(2, .int .i64 kk), (7, .pointer pa), (9, .pointer pb), (15, .bool g), (62, s1.v), (63, .int .i64 s1.n), (64, .int .i64 k)] ∧ Γ' = AirI n pa st' :: RefI n pb st' :: old W :: Γ) ?_ ?_
        · refine S.block ?_
          refine S.seq fun K22 hK22 => ?_
          refine S.seq fun K23 hK23 => ?_
          refine S.region rfl ?_
          refine S.op (S.q (q_eq rfl rfl) rfl rfl ?_)
          refine S.op (S.q (q_assign rfl) rfl rfl ?_)
          first | with_reducible refine S.nilK ?_ | refine S.nil ?_
          refine hK23 _ _ ?_
          refine S.cut (fun ρ' Γ' => ∃ c : Bool, ρ' = [(2, .int .i64 kk), (7, .pointer pa), (9, .pointer pb), (12, .pointer (some ⟨b12, 0, none⟩)), (13, .slice r.v.a P r.v.c), (14, u.v), (15, .bool true), (62, s1.v), (63, .int .i64 s1.n), (64, .int .i64 k), (84, .int .u8 r.od), (85, .bool c)] ∧ Γ' = obytes u l :: blk b12 51 #[.int .u8 r.od, .int .u64 r.id, .int .i64 r.dst, r.v.v] :: AirI n pa st :: RefI n pb st :: old W :: Γ) ?_ ?_
          · refine S.condD rfl (fun h5 => ?_) (fun h5 => ?_)
            · refine S.skip ?_
              with_reducible repeat (first | refine S.then_n ?_ | refine S.then_x ?_ | refine S.then_r ?_ | refine S.inBlock_n ?_ | refine S.inBlock_r ?_ | refine S.inBlock_x rfl ?_ | refine S.noGoto_r ?_ | refine S.noGoto_n ?_ | refine S.noGoto_x ?_)
              with_reducible repeat (first | refine S.then_n ?_ | refine S.then_x ?_ | refine S.then_r ?_ | refine S.inBlock_n ?_ | refine S.inBlock_r ?_ | refine S.inBlock_x rfl ?_ | refine S.noGoto_r ?_ | refine S.noGoto_n ?_ | refine S.noGoto_x ?_)
              exact S.meet ⟨_, rfl, rfl⟩ ⟨rfl, rfl, rfl, rfl, rfl, rfl, rfl, rfl, rfl, rfl, rfl, rfl, trivial⟩ Sub.ent
            · refine S.region rfl ?_
              refine S.op (S.q (q_eq rfl rfl) rfl rfl ?_)
              refine S.op (S.q (q_assign rfl) rfl rfl ?_)
              first | with_reducible refine S.nilK ?_ | refine S.nil ?_
              with_reducible repeat (first | refine S.then_n ?_ | refine S.then_x ?_ | refine S.then_r ?_ | refine S.inBlock_n ?_ | refine S.inBlock_r ?_ | refine S.inBlock_x rfl ?_ | refine S.noGoto_r ?_ | refine S.noGoto_n ?_ | refine S.noGoto_x ?_)
              exact S.meet ⟨_, rfl, rfl⟩ ⟨rfl, rfl, rfl, rfl, rfl, rfl, rfl, rfl, rfl, rfl, rfl, rfl, trivial⟩ Sub.ent
          · rintro ρ' Γ' ⟨c, rfl, rfl⟩
            refine hK22 _ _ ?_
            refine S.cond rfl (fun h6 => ?_) (fun h6 => ?_)
            · obtain ⟨st', hst'⟩ : ∃ st', st' = (flyR n r.dst l st).2.2 := ⟨_, rfl⟩
              have hok' : Ok n (k + 1) st' := by rw [hst']; exact flyR_ok ok r.dst hbt.rng (by omega)
              refine S.seq fun K24 hK24 => ?_
              refine S.region rfl ?_
              refine S.op (S.q (q_move rfl) rfl rfl ?_)
              refine S.op (S.q (q_field Try.fo51_2 rfl) rfl rfl ?_)
              refine S.op (S.q (q_field Try.fo34_0 rfl) rfl rfl ?_)
              refine S.op (S.q (q_load Try.at3 rfl rfl) rfl rfl ?_)
              refine S.op (S.q (q_move rfl) rfl rfl ?_)
              refine S.op (S.q (q_build (pvs := [(_, _), (_, _)]) [_, _] Try.z34 Try.p34 ⟨⟨rfl, rfl⟩, ⟨rfl, rfl⟩, trivial⟩ rfl) rfl rfl ?_)
              refine S.op (S.call Try.en9 (vs := [_, _]) ⟨rfl, rfl, trivial⟩ (AFly n pa st k hk80 ok r.dst u l (obytes u l) (fun Γ w h => obytes_at h) (by omega)) rfl ?_)
              rintro v Θ ⟨rfl, rfl⟩
              rw [← hst']
              refine S.op (S.q (q_move rfl) rfl rfl ?_)
              refine S.op (S.q (q_extract rfl rfl) rfl rfl ?_)
              refine S.op (S.q (q_extract rfl rfl) rfl rfl ?_)
              refine S.op (S.q (q_assign rfl) rfl rfl ?_)
              refine S.op (S.q (q_assign rfl) rfl rfl ?_)
              first | with_reducible refine S.nilK ?_ | refine S.nil ?_
              refine hK24 _ _ ?_
              refine S.seq fun K25 hK25 => ?_
              refine S.region rfl ?_
              refine S.op (S.q (q_move rfl) rfl rfl ?_)
              refine S.op (S.q (q_field Try.fo51_2 rfl) rfl rfl ?_)
              refine S.op (S.q (q_field Try.fo34_0 rfl) rfl rfl ?_)
              refine S.op (S.q (q_load Try.at3 rfl rfl) rfl rfl ?_)
              refine S.op (S.q (q_move rfl) rfl rfl ?_)
              refine S.op (S.q (q_build (pvs := [(_, _), (_, _)]) [_, _] Try.z34 Try.p34 ⟨⟨rfl, rfl⟩, ⟨rfl, rfl⟩, trivial⟩ rfl) rfl rfl ?_)
              refine S.op (S.call Try.en17 (vs := [_, _]) ⟨rfl, rfl, trivial⟩ (RFly n pb st k hk80 ok r.dst ⟨r.v.a, P, r.v.c⟩ l (old W) (fun Γ w h => hbt.old h) (by simp only; omega) (by omega)) rfl ?_)
              rintro v Θ ⟨rfl, rfl⟩
              rw [← hst']
              refine S.op (S.q (q_move rfl) rfl rfl ?_)
              refine S.op (S.q (q_extract rfl rfl) rfl rfl ?_)
              refine S.op (S.q (q_extract rfl rfl) rfl rfl ?_)
              refine S.op (S.q (q_assign rfl) rfl rfl ?_)
              refine S.op (S.q (q_assign rfl) rfl rfl ?_)
              first | with_reducible refine S.nilK ?_ | refine S.nil ?_
              refine hK25 _ _ ?_
              refine S.seq fun K26 hK26 => ?_
              refine S.regionG ?_
              refine S.g_op rfl (S.q (q_move rfl) rfl rfl ?_)
              refine S.g_op rfl (S.q (q_move rfl) rfl rfl ?_)
              refine S.g_op rfl (S.q (q_eq rfl rfl) rfl rfl ?_)
              refine S.g_op rfl (S.q (q_move rfl) rfl rfl ?_)
              refine S.g_yes rfl rfl rfl ((decide_eq_true rfl)) (S.q (q_move rfl) rfl rfl ?_)
              refine S.g_yes rfl rfl rfl ((decide_eq_true rfl)) (S.q (q_move rfl) rfl rfl ?_)
              refine S.g_yes rfl rfl rfl ((decide_eq_true rfl)) (S.q (q_eq rfl rfl) rfl rfl ?_)
              refine S.g_op rfl (S.q (q_pickT rfl ((decide_eq_true rfl)) rfl) rfl rfl ?_)
              refine S.g_op rfl (S.q (q_move rfl) rfl rfl ?_)
              refine S.g_yes rfl rfl rfl ((decide_eq_true rfl)) (S.q (q_move rfl) rfl rfl ?_)
              refine S.g_yes rfl rfl rfl ((decide_eq_true rfl)) (S.q (q_move rfl) rfl rfl ?_)
              refine S.g_yes rfl rfl rfl ((decide_eq_true rfl)) (S.callP Try.en13 (vs := [_, _]) ⟨rfl, rfl, trivial⟩ (fun w hs => Same_P u ⟨r.v.a, P, r.v.c⟩ l l w (bytes_in hs) (HasOld.slAt inferInstance hs hbt.at_) hbt.rng hbt.rng) rfl ?_)
              refine S.g_op rfl (S.q (q_pickT rfl ((decide_eq_true rfl)) rfl) rfl rfl ?_)
              refine S.g_op rfl (S.q (q_assign rfl) rfl rfl ?_)
              first | with_reducible refine S.g_nilK ?_ | refine S.g_nil ?_
              refine hK26 _ _ ?_
              refine S.seq fun K27 hK27 => ?_
              refine S.region rfl ?_
              rw [show decide (l = l) = true from decide_eq_true rfl]
              refine S.op (S.q (q_move rfl) rfl rfl ?_)
              refine S.op (S.q (q_len Try.underlying29 rfl) rfl rfl ?_)
              refine S.op (S.q (q_move rfl) rfl rfl ?_)
              first | with_reducible refine S.nilK ?_ | refine S.nil ?_
              refine hK27 _ _ ?_
              refine S.block ?_
              refine S.loop (fun m2 ρ' Γ' => ∃ (j : Nat) (xs : List Int), m2 + j = u.n ∧ xs.length = u.n ∧ ρ' = [(2, .int .i64 kk), (7, .pointer pa), (9, .pointer pb), (14, u.v), (15, .bool true), (62, s1.v), (63, .int .i64 s1.n), (64, .int .i64 k), (122, .int .i64 u.n), (123, .int .i64 j)] ∧ Γ' = obytes u xs :: AirI n pa st' :: RefI n pb st' :: old W :: Γ) (m := _) (ρ0 := _) (Γ0 := _) (⟨0, l, rfl, by omega, rfl, rfl⟩) (by repeat (first | exact trivial | refine ⟨rfl, ?_⟩)) Sub.ent ?_
              rintro m2 ρ' Γ' ⟨j, xs, hj, hxs, rfl, rfl⟩
              refine S.seq fun K28 hK28 => ?_
              refine S.region rfl ?_
              refine S.op (S.q (q_lt rfl rfl) rfl rfl ?_)
              first | with_reducible refine S.nilK ?_ | refine S.nil ?_
              refine hK28 _ _ ?_
              refine S.seq fun K29 hK29 => ?_
              refine S.condD rfl (fun h7 => ?_) (fun h7 => ?_)
              · obtain ⟨z, hz⟩ := getE (l := xs) (i := j) (by omega)
                refine S.ownSome u (by omega) fun bu offu hbu _ _ _ => ?_
                refine S.skip ?_
                with_reducible repeat (first | refine S.then_n ?_ | refine S.then_x ?_ | refine S.then_r ?_ | refine S.inBlock_n ?_ | refine S.inBlock_r ?_ | refine S.inBlock_x rfl ?_ | refine S.noGoto_r ?_ | refine S.noGoto_n ?_ | refine S.noGoto_x ?_)
                refine hK29 _ _ ?_
                refine S.seq fun K30 hK30 => ?_
                refine S.block ?_
                refine S.seq fun K31 hK31 => ?_
                refine S.region rfl ?_
                refine S.op (S.q (q_move rfl) rfl rfl ?_)
                refine S.op (S.q (q_assign rfl) rfl rfl ?_)
                first | with_reducible refine S.nilK ?_ | refine S.nil ?_
                refine hK31 _ _ ?_
                refine S.region rfl ?_
                refine S.op (S.q (q_move rfl) rfl rfl ?_)
                refine S.op (S.q (q_move rfl) rfl rfl ?_)
                refine S.op (S.q (q_indexO (j) Try.el29 rfl hbu rfl rfl (by omega)) rfl rfl ?_)
                refine S.op (S.q (q_loadOw (u) (j * 1) Try.at5 rfl hbu (by first | rfl | exact Nat.add_assoc _ _ _ | omega) (by unfold bcells; rw [Nat.mul_one, List.getElem?_map, hz]; rfl)) rfl rfl ?_)
                refine S.op (S.q (q_xor rfl rfl) rfl rfl ?_)
                refine S.op (S.q (q_indexO (j) Try.el29 rfl hbu rfl rfl (by omega)) rfl rfl ?_)
                refine S.op (S.storeOw (u) (j * 1) Try.at5 rfl rfl rfl hbu (by first | rfl | exact Nat.add_assoc _ _ _ | omega) (by unfold bcells; rw [List.length_map]; omega) ((congrArg (fun i => (bcells xs).set i _) (Nat.mul_one j)).trans (bcells_set xs j _)) ?_)
                first | with_reducible refine S.nilK ?_ | refine S.nil ?_
                with_reducible repeat (first | refine S.then_n ?_ | refine S.then_x ?_ | refine S.then_r ?_ | refine S.inBlock_n ?_ | refine S.inBlock_r ?_ | refine S.inBlock_x rfl ?_ | refine S.noGoto_r ?_ | refine S.noGoto_n ?_ | refine S.noGoto_x ?_)
                refine hK30 _ _ ?_
                refine S.region rfl ?_
                refine S.op (S.q (q_add rfl rfl (inI64 (by omega) (by omega))) rfl rfl ?_)
                refine S.op (S.q (q_move rfl) rfl rfl ?_)
                first | with_reducible refine S.nilK ?_ | refine S.nil ?_
                with_reducible repeat (first | refine S.then_n ?_ | refine S.then_x ?_ | refine S.then_r ?_ | refine S.inBlock_n ?_ | refine S.inBlock_r ?_ | refine S.inBlock_x rfl ?_ | refine S.noGoto_r ?_ | refine S.noGoto_n ?_ | refine S.noGoto_x ?_)
                exact S.next (m2 - 1) (⟨j + 1, xs.set j (xorI .u8 z 1), by omega, by rw [List.length_set]; exact hxs, rfl, rfl⟩) (by omega) (by repeat (first | exact trivial | refine ⟨rfl, ?_⟩)) Sub.ent
              · refine S.exit ?_
                with_reducible repeat (first | refine S.then_n ?_ | refine S.then_x ?_ | refine S.then_r ?_ | refine S.inBlock_n ?_ | refine S.inBlock_r ?_ | refine S.inBlock_x rfl ?_ | refine S.noGoto_r ?_ | refine S.noGoto_n ?_ | refine S.noGoto_x ?_)
                with_reducible refine S.inBlock_s ?_
                with_reducible repeat (first | refine S.then_n ?_ | refine S.then_x ?_ | refine S.then_r ?_ | refine S.inBlock_n ?_ | refine S.inBlock_r ?_ | refine S.inBlock_x rfl ?_ | refine S.noGoto_r ?_ | refine S.noGoto_n ?_ | refine S.noGoto_x ?_)
                with_reducible repeat (first | refine S.then_n ?_ | refine S.then_x ?_ | refine S.then_r ?_ | refine S.inBlock_n ?_ | refine S.inBlock_r ?_ | refine S.inBlock_x rfl ?_ | refine S.noGoto_r ?_ | refine S.noGoto_n ?_ | refine S.noGoto_x ?_)
                with_reducible repeat (first | refine S.then_n ?_ | refine S.then_x ?_ | refine S.then_r ?_ | refine S.inBlock_n ?_ | refine S.inBlock_r ?_ | refine S.inBlock_x rfl ?_ | refine S.noGoto_r ?_ | refine S.noGoto_n ?_ | refine S.noGoto_x ?_)
                first
                | exact S.meet ⟨st', _, (by first | rfl | exact decide_eq_true rfl | exact decide_eq_true ha2), hok', rfl, rfl⟩ ⟨rfl, rfl, rfl, rfl, rfl, rfl, rfl, trivial⟩ Sub.ent
                | exact S.meet ⟨none, _, rfl, hok', rfl, rfl⟩ ⟨rfl, rfl, rfl, rfl, rfl, rfl, rfl, trivial⟩ Sub.ent
                | (refine S.air0' 59 ?_; refine S.conv3 (blk t2 62 #[.int .i64 n, .int .u64 (q - 1), .slice none 0 0]) (own SV.nil 59 3 []) (alls [] fltB) (show Ent _ _ from Ent.closeAI (cells := refC n) (q := q) (L := []) (lv := SV.nil) (os := []) rfl rfl _) ?_; exact S.meet ⟨some (q, []), _, rfl, hok', rfl, rfl⟩ ⟨rfl, rfl, rfl, rfl, rfl, rfl, rfl, trivial⟩ Sub.ent)
            · refine S.seq fun K32 hK32 => ?_
              refine S.region rfl ?_
              refine S.op (S.q (q_eq rfl rfl) rfl rfl ?_)
              refine S.op (S.q (q_assign rfl) rfl rfl ?_)
              first | with_reducible refine S.nilK ?_ | refine S.nil ?_
              refine hK32 _ _ ?_
              refine S.condD rfl (fun h8 => ?_) (fun h8 => ?_)
              · obtain ⟨st', hst'⟩ : ∃ st', st' = (landR r.id st).2.2.2 := ⟨_, rfl⟩
                have hok' : Ok n (k + 1) st' := by rw [hst']; exact (landR_ok ok r.id).1
                have hrg := (landR_ok ok r.id).2
                refine S.seq fun K33 hK33 => ?_
                refine S.region rfl ?_
                refine S.op (S.q (q_move rfl) rfl rfl ?_)
                refine S.op (S.q (q_field Try.fo51_1 rfl) rfl rfl ?_)
                refine S.op (S.q (q_load Try.at30 rfl rfl) rfl rfl ?_)
                refine S.op (S.call Try.en12 (vs := [_, _]) ⟨rfl, rfl, trivial⟩ (ALand n pa st k ok r.id) rfl ?_)
                rintro v Θ ⟨dv, rfl, rfl⟩
                rw [← hst']
                refine S.op (S.q (q_move rfl) rfl rfl ?_)
                refine S.op (S.q (q_extract rfl rfl) rfl rfl ?_)
                refine S.op (S.q (q_extract rfl rfl) rfl rfl ?_)
                refine S.op (S.alloc Try.z34 rfl ?_)
                intro b21
                refine S.op (S.storeS (cs' := [_, _]) Try.ag34 rfl rfl rfl rfl rfl rfl ?_)
                refine S.op (S.q (q_assign rfl) rfl rfl ?_)
                first | with_reducible refine S.nilK ?_ | refine S.nil ?_
                refine hK33 _ _ ?_
                refine S.seq fun K34 hK34 => ?_
                refine S.region rfl ?_
                refine S.op (S.q (q_move rfl) rfl rfl ?_)
                refine S.op (S.q (q_field Try.fo51_1 rfl) rfl rfl ?_)
                refine S.op (S.q (q_load Try.at30 rfl rfl) rfl rfl ?_)
                refine S.op (S.call Try.en18 (vs := [_, _]) ⟨rfl, rfl, trivial⟩ (RLand n pb st k ok r.id) rfl ?_)
                rintro v Θ ⟨dw, rfl, rfl⟩
                rw [← hst']
                refine S.op (S.q (q_move rfl) rfl rfl ?_)
                refine S.op (S.q (q_extract rfl rfl) rfl rfl ?_)
                refine S.op (S.q (q_extract rfl rfl) rfl rfl ?_)
                refine S.op (S.alloc Try.z34 rfl ?_)
                intro b23
                refine S.op (S.storeS (cs' := [_, _]) Try.ag34 rfl rfl rfl rfl rfl rfl ?_)
                refine S.op (S.q (q_assign rfl) rfl rfl ?_)
                first | with_reducible refine S.nilK ?_ | refine S.nil ?_
                refine hK34 _ _ ?_
                refine S.regionG ?_
                refine S.g_op rfl (S.q (q_loadS [_, _] Try.ag34 rfl rfl ⟨rfl, rfl, trivial⟩) rfl rfl ?_)
                refine S.g_op rfl (S.q (q_loadS [_, _] Try.ag34 rfl rfl ⟨rfl, rfl, trivial⟩) rfl rfl ?_)
                refine S.g_op rfl (S.callP Try.en19 (vs := [_, _]) ⟨rfl, rfl, trivial⟩ (fun w hs => same_P (landR r.id st).1 (landR r.id st).1 dv dw (landR r.id st).2.1 (landR r.id st).2.1 w (bytes_in (g := dv) hs) (bytes_in (g := dw) hs) hrg hrg) rfl ?_)
                refine S.g_op rfl (S.q (q_move rfl) rfl rfl ?_)
                refine S.g_yes rfl rfl rfl ((by simp)) (S.q (q_move rfl) rfl rfl ?_)
                refine S.g_yes rfl rfl rfl ((by simp)) (S.q (q_move rfl) rfl rfl ?_)
                refine S.g_yes rfl rfl rfl ((by simp)) (S.q (q_eq rfl rfl) rfl rfl ?_)
                refine S.g_op rfl (S.q (q_pickT rfl ((by simp)) rfl) rfl rfl ?_)
                refine S.g_op rfl (S.q (q_assign rfl) rfl rfl ?_)
                first | with_reducible refine S.g_nilK ?_ | refine S.g_nil ?_
                with_reducible repeat (first | refine S.then_n ?_ | refine S.then_x ?_ | refine S.then_r ?_ | refine S.inBlock_n ?_ | refine S.inBlock_r ?_ | refine S.inBlock_x rfl ?_ | refine S.noGoto_r ?_ | refine S.noGoto_n ?_ | refine S.noGoto_x ?_)
                with_reducible repeat (first | refine S.then_n ?_ | refine S.then_x ?_ | refine S.then_r ?_ | refine S.inBlock_n ?_ | refine S.inBlock_r ?_ | refine S.inBlock_x rfl ?_ | refine S.noGoto_r ?_ | refine S.noGoto_n ?_ | refine S.noGoto_x ?_)
                first
                | exact S.meet ⟨st', _, (by first | rfl | exact decide_eq_true rfl | exact decide_eq_true ha2), hok', rfl, rfl⟩ ⟨rfl, rfl, rfl, rfl, rfl, rfl, rfl, trivial⟩ Sub.ent
                | exact S.meet ⟨none, _, rfl, hok', rfl, rfl⟩ ⟨rfl, rfl, rfl, rfl, rfl, rfl, rfl, trivial⟩ Sub.ent
                | (refine S.air0' 59 ?_; refine S.conv3 (blk t2 62 #[.int .i64 n, .int .u64 (q - 1), .slice none 0 0]) (own SV.nil 59 3 []) (alls [] fltB) (show Ent _ _ from Ent.closeAI (cells := refC n) (q := q) (L := []) (lv := SV.nil) (os := []) rfl rfl _) ?_; exact S.meet ⟨some (q, []), _, rfl, hok', rfl, rfl⟩ ⟨rfl, rfl, rfl, rfl, rfl, rfl, rfl, trivial⟩ Sub.ent)
              · refine S.seq fun K35 hK35 => ?_
                refine S.region rfl ?_
                refine S.op (S.q (q_eq rfl rfl) rfl rfl ?_)
                refine S.op (S.q (q_assign rfl) rfl rfl ?_)
                first | with_reducible refine S.nilK ?_ | refine S.nil ?_
                refine hK35 _ _ ?_
                refine S.condD rfl (fun h9 => ?_) (fun h9 => ?_)
                · obtain ⟨a1, he1⟩ : ∃ a1, a1 = (echoR n r.id st).1 := ⟨_, rfl⟩
                  obtain ⟨a2, he2⟩ : ∃ a2, a2 = (echoR n r.id st).2.1 := ⟨_, rfl⟩
                  obtain ⟨st', hst'⟩ : ∃ st', st' = (echoR n r.id st).2.2 := ⟨_, rfl⟩
                  have hok' : Ok n (k + 1) st' := by rw [hst']; exact echoR_ok ok r.id
                  refine S.seq fun K36 hK36 => ?_
                  refine S.region rfl ?_
                  refine S.op (S.q (q_move rfl) rfl rfl ?_)
                  refine S.op (S.q (q_field Try.fo51_1 rfl) rfl rfl ?_)
                  refine S.op (S.q (q_load Try.at30 rfl rfl) rfl rfl ?_)
                  refine S.op (S.call Try.en10 (vs := [_, _]) ⟨rfl, rfl, trivial⟩ (AEcho n pa st k hk80 ok r.id) rfl ?_)
                  rintro v Θ ⟨rfl, rfl⟩
                  rw [← he1, ← he2, ← hst']
                  refine S.op (S.q (q_move rfl) rfl rfl ?_)
                  refine S.op (S.q (q_extract rfl rfl) rfl rfl ?_)
                  refine S.op (S.q (q_extract rfl rfl) rfl rfl ?_)
                  refine S.op (S.q (q_assign rfl) rfl rfl ?_)
                  refine S.op (S.q (q_assign rfl) rfl rfl ?_)
                  first | with_reducible refine S.nilK ?_ | refine S.nil ?_
                  refine hK36 _ _ ?_
                  refine S.seq fun K37 hK37 => ?_
                  refine S.region rfl ?_
                  refine S.op (S.q (q_assign rfl) rfl rfl ?_)
                  refine S.op (S.q (q_assign rfl) rfl rfl ?_)
                  first | with_reducible refine S.nilK ?_ | refine S.nil ?_
                  refine hK37 _ _ ?_
                  refine S.seq fun K38 hK38 => ?_
                  refine S.seq fun K39 hK39 => ?_
                  refine S.region rfl ?_
                  refine S.op (S.q (q_move rfl) rfl rfl ?_)
                  refine S.op (S.q (q_field Try.fo51_1 rfl) rfl rfl ?_)
                  refine S.op (S.q (q_load Try.at30 rfl rfl) rfl rfl ?_)
                  refine S.op (S.call Try.en20 (vs := [_, _]) ⟨rfl, rfl, trivial⟩ (RFind n pb st k ok r.id) rfl ?_)
                  rintro v Θ ⟨rfl, rfl⟩
                  refine S.op (S.q (q_assign rfl) rfl rfl ?_)
                  first | with_reducible refine S.nilK ?_ | refine S.nil ?_
                  refine hK39 _ _ ?_
                  refine S.seq fun K40 hK40 => ?_
                  refine S.region rfl ?_
                  refine S.op (S.q (q_move rfl) rfl rfl ?_)
                  refine S.op (S.q (q_ge rfl rfl) rfl rfl ?_)
                  first | with_reducible refine S.nilK ?_ | refine S.nil ?_
                  refine hK40 _ _ ?_
                  refine S.condD rfl (fun h10 => ?_) (fun h10 => ?_)
                  · obtain ⟨q, L, i, f, rfl, hi, hf, hfr⟩ := findR_some h10
                    obtain ⟨_, hn48, hq1, hq2, hLn, hLk, _, hLd⟩ := ok
                    have hfd := (hLd f (List.mem_of_getElem? hf)).2.2
                    have he : echoR n r.id (some (q, L)) = flyR n f.dst f.data (some (q, L)) := by simp only [echoR, hi, hf]
                    rw [hfr]
                    refine S.aiOpen (T := 62) (F := 59) (cells := refC n) (pa := pb) (q := q) (L := L) inferInstance fun t2 lv2 os2 e1 e2 e3 => ?_
                    subst e1
                    obtain ⟨x, hx, rfl⟩ := map_at e2 hf
                    have hil := (List.getElem?_eq_some_iff.1 hx).1
                    have hlen : os2.length = L.length := by rw [← e2, List.length_map]
                    refine S.ownSome lv2 (by omega) fun b2 off2 hb2 _ _ _ => ?_
                    refine S.region rfl ?_
                    refine S.op (S.q (q_move rfl) rfl rfl ?_)
                    refine S.op (S.q (q_move rfl) rfl rfl ?_)
                    refine S.op (S.q (q_nilCheck rfl) rfl rfl ?_)
                    refine S.op (S.q (q_field Try.fo62_2 rfl) rfl rfl ?_)
                    refine S.op (S.q (q_load Try.at60 rfl rfl) rfl rfl ?_)
                    refine S.op (S.q (q_move rfl) rfl rfl ?_)
                    refine S.op (S.q (q_indexO (i) Try.el60 rfl hb2 rfl rfl (by omega)) rfl rfl ?_)
                    refine S.op (S.q (q_field Try.fo59_1 rfl) rfl rfl ?_)
                    refine S.op (S.q (q_loadOwS (lv2) (i * 3 + 1) [_, _] Try.ag34 rfl hb2 (by first | rfl | exact Nat.add_assoc _ _ _ | omega) rfl (flt_seg hx)) rfl rfl ?_)
                    refine S.op (S.call Try.en17 (vs := [_, _]) ⟨rfl, rfl, trivial⟩ (rFlyOf t2 n q lv2 os2 i x hx e3 (by simp only [fl] at hfd; omega) (by omega) (by omega) hq1 (by omega)) rfl ?_)
                    rintro v Θ ⟨rfl, rfl⟩
                    rw [e2]
                    have ha1 : a1 = (flyR n x.dst x.data (some (q, L))).1 := by rw [he1, he]; rfl
                    have ha2 : a2 = (flyR n x.dst x.data (some (q, L))).2.1 := by rw [he2, he]; rfl
                    rw [show (flyR n x.dst x.data (some (q, L))).2.2 = st' by rw [hst', he]; rfl]
                    refine S.op (S.q (q_move rfl) rfl rfl ?_)
                    refine S.op (S.q (q_extract rfl rfl) rfl rfl ?_)
                    refine S.op (S.q (q_extract rfl rfl) rfl rfl ?_)
                    refine S.op (S.q (q_assign rfl) rfl rfl ?_)
                    refine S.op (S.q (q_assign rfl) rfl rfl ?_)
                    first | with_reducible refine S.nilK ?_ | refine S.nil ?_
                    refine hK38 _ _ ?_
                    refine S.regionG ?_
                    refine S.g_op rfl (S.q (q_move rfl) rfl rfl ?_)
                    refine S.g_op rfl (S.q (q_move rfl) rfl rfl ?_)
                    refine S.g_op rfl (S.q (q_eq rfl rfl) rfl rfl ?_)
                    refine S.g_op rfl (S.q (q_move rfl) rfl rfl ?_)
                    refine S.g_yes rfl rfl rfl ((decide_eq_true ha1)) (S.q (q_move rfl) rfl rfl ?_)
                    refine S.g_yes rfl rfl rfl ((decide_eq_true ha1)) (S.q (q_move rfl) rfl rfl ?_)
                    refine S.g_yes rfl rfl rfl ((decide_eq_true ha1)) (S.q (q_eq rfl rfl) rfl rfl ?_)
                    refine S.g_op rfl (S.q (q_pickT rfl ((decide_eq_true ha1)) rfl) rfl rfl ?_)
                    refine S.g_op rfl (S.q (q_assign rfl) rfl rfl ?_)
                    first | with_reducible refine S.g_nilK ?_ | refine S.g_nil ?_
                    with_reducible repeat (first | refine S.then_n ?_ | refine S.then_x ?_ | refine S.then_r ?_ | refine S.inBlock_n ?_ | refine S.inBlock_r ?_ | refine S.inBlock_x rfl ?_ | refine S.noGoto_r ?_ | refine S.noGoto_n ?_ | refine S.noGoto_x ?_)
                    with_reducible repeat (first | refine S.then_n ?_ | refine S.then_x ?_ | refine S.then_r ?_ | refine S.inBlock_n ?_ | refine S.inBlock_r ?_ | refine S.inBlock_x rfl ?_ | refine S.noGoto_r ?_ | refine S.noGoto_n ?_ | refine S.noGoto_x ?_)
                    first
                    | exact S.meet ⟨st', _, (by first | rfl | exact decide_eq_true rfl | exact decide_eq_true ha2), hok', rfl, rfl⟩ ⟨rfl, rfl, rfl, rfl, rfl, rfl, rfl, trivial⟩ Sub.ent
                    | exact S.meet ⟨none, _, rfl, hok', rfl, rfl⟩ ⟨rfl, rfl, rfl, rfl, rfl, rfl, rfl, trivial⟩ Sub.ent
                    | (refine S.air0' 59 ?_; refine S.conv3 (blk t2 62 #[.int .i64 n, .int .u64 (q - 1), .slice none 0 0]) (own SV.nil 59 3 []) (alls [] fltB) (show Ent _ _ from Ent.closeAI (cells := refC n) (q := q) (L := []) (lv := SV.nil) (os := []) rfl rfl _) ?_; exact S.meet ⟨some (q, []), _, rfl, hok', rfl, rfl⟩ ⟨rfl, rfl, rfl, rfl, rfl, rfl, rfl, trivial⟩ Sub.ent)
                  · have ha1 : a1 = 0 := by rw [he1, findR_none h10]
                    have ha2 : a2 = 6 := by rw [he2, findR_none h10]
                    have hst2 : st' = st := by rw [hst', findR_none h10]
                    clear hst'
                    subst hst2
                    refine S.skip ?_
                    with_reducible repeat (first | refine S.then_n ?_ | refine S.then_x ?_ | refine S.then_r ?_ | refine S.inBlock_n ?_ | refine S.inBlock_r ?_ | refine S.inBlock_x rfl ?_ | refine S.noGoto_r ?_ | refine S.noGoto_n ?_ | refine S.noGoto_x ?_)
                    refine hK38 _ _ ?_
                    refine S.regionG ?_
                    refine S.g_op rfl (S.q (q_move rfl) rfl rfl ?_)
                    refine S.g_op rfl (S.q (q_move rfl) rfl rfl ?_)
                    refine S.g_op rfl (S.q (q_eq rfl rfl) rfl rfl ?_)
                    refine S.g_op rfl (S.q (q_move rfl) rfl rfl ?_)
                    refine S.g_yes rfl rfl rfl ((decide_eq_true ha1)) (S.q (q_move rfl) rfl rfl ?_)
                    refine S.g_yes rfl rfl rfl ((decide_eq_true ha1)) (S.q (q_move rfl) rfl rfl ?_)
                    refine S.g_yes rfl rfl rfl ((decide_eq_true ha1)) (S.q (q_eq rfl rfl) rfl rfl ?_)
                    refine S.g_op rfl (S.q (q_pickT rfl ((decide_eq_true ha1)) rfl) rfl rfl ?_)
                    refine S.g_op rfl (S.q (q_assign rfl) rfl rfl ?_)
                    first | with_reducible refine S.g_nilK ?_ | refine S.g_nil ?_
                    with_reducible repeat (first | refine S.then_n ?_ | refine S.then_x ?_ | refine S.then_r ?_ | refine S.inBlock_n ?_ | refine S.inBlock_r ?_ | refine S.inBlock_x rfl ?_ | refine S.noGoto_r ?_ | refine S.noGoto_n ?_ | refine S.noGoto_x ?_)
                    with_reducible repeat (first | refine S.then_n ?_ | refine S.then_x ?_ | refine S.then_r ?_ | refine S.inBlock_n ?_ | refine S.inBlock_r ?_ | refine S.inBlock_x rfl ?_ | refine S.noGoto_r ?_ | refine S.noGoto_n ?_ | refine S.noGoto_x ?_)
                    first
                    | exact S.meet ⟨st', _, (by first | rfl | exact decide_eq_true rfl | exact decide_eq_true ha2), hok', rfl, rfl⟩ ⟨rfl, rfl, rfl, rfl, rfl, rfl, rfl, trivial⟩ Sub.ent
                    | exact S.meet ⟨none, _, rfl, hok', rfl, rfl⟩ ⟨rfl, rfl, rfl, rfl, rfl, rfl, rfl, trivial⟩ Sub.ent
                    | (refine S.air0' 59 ?_; refine S.conv3 (blk t2 62 #[.int .i64 n, .int .u64 (q - 1), .slice none 0 0]) (own SV.nil 59 3 []) (alls [] fltB) (show Ent _ _ from Ent.closeAI (cells := refC n) (q := q) (L := []) (lv := SV.nil) (os := []) rfl rfl _) ?_; exact S.meet ⟨some (q, []), _, rfl, hok', rfl, rfl⟩ ⟨rfl, rfl, rfl, rfl, rfl, rfl, rfl, trivial⟩ Sub.ent)
                · refine S.seq fun K41 hK41 => ?_
                  refine S.region rfl ?_
                  refine S.op (S.q (q_eq rfl rfl) rfl rfl ?_)
                  refine S.op (S.q (q_assign rfl) rfl rfl ?_)
                  first | with_reducible refine S.nilK ?_ | refine S.nil ?_
                  refine hK41 _ _ ?_
                  refine S.condD rfl (fun h11 => ?_) (fun h11 => ?_)
                  · obtain ⟨st', hst'⟩ : ∃ st', st' = (landR r.id st).2.2.2 := ⟨_, rfl⟩
                    have hok' : Ok n (k + 1) st' := by rw [hst']; exact (landR_ok ok r.id).1
                    refine S.seq fun K42 hK42 => ?_
                    refine S.region rfl ?_
                    refine S.op (S.q (q_move rfl) rfl rfl ?_)
                    refine S.op (S.q (q_field Try.fo51_1 rfl) rfl rfl ?_)
                    refine S.op (S.q (q_load Try.at30 rfl rfl) rfl rfl ?_)
                    refine S.op (S.call Try.en18 (vs := [_, _]) ⟨rfl, rfl, trivial⟩ (RLand n pb st k ok r.id) rfl ?_)
                    rintro v Θ ⟨dw, rfl, rfl⟩
                    rw [← hst']
                    refine S.op (S.q (q_move rfl) rfl rfl ?_)
                    refine S.op (S.q (q_extract rfl rfl) rfl rfl ?_)
                    refine S.op (S.q (q_extract rfl rfl) rfl rfl ?_)
                    refine S.op (S.alloc Try.z34 rfl ?_)
                    intro b30
                    refine S.op (S.storeS (cs' := [_, _]) Try.ag34 rfl rfl rfl rfl rfl rfl ?_)
                    refine S.op (S.q (q_assign rfl) rfl rfl ?_)
                    first | with_reducible refine S.nilK ?_ | refine S.nil ?_
                    refine hK42 _ _ ?_
                    refine S.region rfl ?_
                    refine S.op (S.q (q_move rfl) rfl rfl ?_)
                    refine S.op (S.q (q_field Try.fo51_1 rfl) rfl rfl ?_)
                    refine S.op (S.q (q_load Try.at30 rfl rfl) rfl rfl ?_)
                    refine S.op (S.call Try.en15 (vs := [_, _]) ⟨rfl, rfl, trivial⟩ (ALose n pa st k ok r.id) rfl ?_)
                    rintro v Θ ⟨rfl, rfl⟩
                    rw [← hst']
                    refine S.op (S.q (q_move rfl) rfl rfl ?_)
                    refine S.op (S.q (q_eq rfl rfl) rfl rfl ?_)
                    refine S.op (S.q (q_assign rfl) rfl rfl ?_)
                    first | with_reducible refine S.nilK ?_ | refine S.nil ?_
                    with_reducible repeat (first | refine S.then_n ?_ | refine S.then_x ?_ | refine S.then_r ?_ | refine S.inBlock_n ?_ | refine S.inBlock_r ?_ | refine S.inBlock_x rfl ?_ | refine S.noGoto_r ?_ | refine S.noGoto_n ?_ | refine S.noGoto_x ?_)
                    with_reducible repeat (first | refine S.then_n ?_ | refine S.then_x ?_ | refine S.then_r ?_ | refine S.inBlock_n ?_ | refine S.inBlock_r ?_ | refine S.inBlock_x rfl ?_ | refine S.noGoto_r ?_ | refine S.noGoto_n ?_ | refine S.noGoto_x ?_)
                    first
                    | exact S.meet ⟨st', _, (by first | rfl | exact decide_eq_true rfl | exact decide_eq_true ha2), hok', rfl, rfl⟩ ⟨rfl, rfl, rfl, rfl, rfl, rfl, rfl, trivial⟩ Sub.ent
                    | exact S.meet ⟨none, _, rfl, hok', rfl, rfl⟩ ⟨rfl, rfl, rfl, rfl, rfl, rfl, rfl, trivial⟩ Sub.ent
                    | (refine S.air0' 59 ?_; refine S.conv3 (blk t2 62 #[.int .i64 n, .int .u64 (q - 1), .slice none 0 0]) (own SV.nil 59 3 []) (alls [] fltB) (show Ent _ _ from Ent.closeAI (cells := refC n) (q := q) (L := []) (lv := SV.nil) (os := []) rfl rfl _) ?_; exact S.meet ⟨some (q, []), _, rfl, hok', rfl, rfl⟩ ⟨rfl, rfl, rfl, rfl, rfl, rfl, rfl, trivial⟩ Sub.ent)
                  · refine S.seq fun K43 hK43 => ?_
                    refine S.region rfl ?_
                    refine S.op (S.q (q_eq rfl rfl) rfl rfl ?_)
                    refine S.op (S.q (q_assign rfl) rfl rfl ?_)
                    first | with_reducible refine S.nilK ?_ | refine S.nil ?_
                    refine hK43 _ _ ?_
                    refine S.condD rfl (fun h12 => ?_) (fun h12 => ?_)
                    · obtain ⟨st', hst'⟩ : ∃ st', st' = clearR st := ⟨_, rfl⟩
                      have hok' : Ok n (k + 1) st' := by rw [hst']; exact clearR_ok ok
                      refine S.seq fun K44 hK44 => ?_
                      refine S.region rfl ?_
                      refine S.op (S.q (q_move rfl) rfl rfl ?_)
                      refine S.op (S.call Try.en21 (vs := [_]) ⟨rfl, trivial⟩ (AClear n pa st) rfl ?_)
                      rintro v Θ rfl
                      rw [← hst']
                      first | with_reducible refine S.nilK ?_ | refine S.nil ?_
                      refine hK44 _ _ ?_
                      refine S.seq fun K45 hK45 => ?_
                      refine S.region rfl ?_
                      refine S.op (S.q (q_move rfl) rfl rfl ?_)
                      refine S.op (S.q (q_neN Try.underlying47 rfl rfl) rfl rfl ?_)
                      first | with_reducible refine S.nilK ?_ | refine S.nil ?_
                      refine hK45 _ _ ?_
                      refine S.cond rfl (fun h13 => ?_) (fun h13 => ?_)
                      · refine S.aiSome (T := 62) (F := 59) (cells := refC n) (pa := pb) st (by simpa using h13) fun t2 lv2 os2 q L e1 e2 e3 e4 => ?_
                        subst e1 e2
                        obtain rfl : st' = some (q, []) := hst'
                        refine S.region rfl ?_
                        refine S.op (S.q (q_move rfl) rfl rfl ?_)
                        refine S.op (S.q (q_nilCheck rfl) rfl rfl ?_)
                        refine S.op (S.q (q_field Try.fo62_2 rfl) rfl rfl ?_)
                        refine S.op (S.store (cs' := [_, _, _]) Try.at60 rfl rfl rfl rfl rfl ?_)
                        first | with_reducible refine S.nilK ?_ | refine S.nil ?_
                        with_reducible repeat (first | refine S.then_n ?_ | refine S.then_x ?_ | refine S.then_r ?_ | refine S.inBlock_n ?_ | refine S.inBlock_r ?_ | refine S.inBlock_x rfl ?_ | refine S.noGoto_r ?_ | refine S.noGoto_n ?_ | refine S.noGoto_x ?_)
                        with_reducible repeat (first | refine S.then_n ?_ | refine S.then_x ?_ | refine S.then_r ?_ | refine S.inBlock_n ?_ | refine S.inBlock_r ?_ | refine S.inBlock_x rfl ?_ | refine S.noGoto_r ?_ | refine S.noGoto_n ?_ | refine S.noGoto_x ?_)
                        first
                        | exact S.meet ⟨st', _, (by first | rfl | exact decide_eq_true rfl | exact decide_eq_true ha2), hok', rfl, rfl⟩ ⟨rfl, rfl, rfl, rfl, rfl, rfl, rfl, trivial⟩ Sub.ent
                        | exact S.meet ⟨none, _, rfl, hok', rfl, rfl⟩ ⟨rfl, rfl, rfl, rfl, rfl, rfl, rfl, trivial⟩ Sub.ent
                        | (refine S.air0' 59 ?_; refine S.conv3 (blk t2 62 #[.int .i64 n, .int .u64 (q - 1), .slice none 0 0]) (own SV.nil 59 3 []) (alls [] fltB) (show Ent _ _ from Ent.closeAI (cells := refC n) (q := q) (L := []) (lv := SV.nil) (os := []) rfl rfl _) ?_; exact S.meet ⟨some (q, []), _, rfl, hok', rfl, rfl⟩ ⟨rfl, rfl, rfl, rfl, rfl, rfl, rfl, trivial⟩ Sub.ent)
                      · refine S.aiNone (T := 62) (F := 59) (cells := refC n) (pa := pb) st (by simpa using h13) fun e1 e2 => ?_
                        subst e1 e2
                        obtain rfl : st' = none := hst'
                        refine S.skip ?_
                        with_reducible repeat (first | refine S.then_n ?_ | refine S.then_x ?_ | refine S.then_r ?_ | refine S.inBlock_n ?_ | refine S.inBlock_r ?_ | refine S.inBlock_x rfl ?_ | refine S.noGoto_r ?_ | refine S.noGoto_n ?_ | refine S.noGoto_x ?_)
                        with_reducible repeat (first | refine S.then_n ?_ | refine S.then_x ?_ | refine S.then_r ?_ | refine S.inBlock_n ?_ | refine S.inBlock_r ?_ | refine S.inBlock_x rfl ?_ | refine S.noGoto_r ?_ | refine S.noGoto_n ?_ | refine S.noGoto_x ?_)
                        with_reducible repeat (first | refine S.then_n ?_ | refine S.then_x ?_ | refine S.then_r ?_ | refine S.inBlock_n ?_ | refine S.inBlock_r ?_ | refine S.inBlock_x rfl ?_ | refine S.noGoto_r ?_ | refine S.noGoto_n ?_ | refine S.noGoto_x ?_)
                        first
                        | exact S.meet ⟨st', _, (by first | rfl | exact decide_eq_true rfl | exact decide_eq_true ha2), hok', rfl, rfl⟩ ⟨rfl, rfl, rfl, rfl, rfl, rfl, rfl, trivial⟩ Sub.ent
                        | exact S.meet ⟨none, _, rfl, hok', rfl, rfl⟩ ⟨rfl, rfl, rfl, rfl, rfl, rfl, rfl, trivial⟩ Sub.ent
                        | (refine S.air0' 59 ?_; refine S.conv3 (blk t2 62 #[.int .i64 n, .int .u64 (q - 1), .slice none 0 0]) (own SV.nil 59 3 []) (alls [] fltB) (show Ent _ _ from Ent.closeAI (cells := refC n) (q := q) (L := []) (lv := SV.nil) (os := []) rfl rfl _) ?_; exact S.meet ⟨some (q, []), _, rfl, hok', rfl, rfl⟩ ⟨rfl, rfl, rfl, rfl, rfl, rfl, rfl, trivial⟩ Sub.ent)
                    · obtain ⟨st', rfl⟩ : ∃ st', st' = st := ⟨_, rfl⟩
                      have hok' := ok.mono
                      refine S.skip ?_
                      with_reducible repeat (first | refine S.then_n ?_ | refine S.then_x ?_ | refine S.then_r ?_ | refine S.inBlock_n ?_ | refine S.inBlock_r ?_ | refine S.inBlock_x rfl ?_ | refine S.noGoto_r ?_ | refine S.noGoto_n ?_ | refine S.noGoto_x ?_)
                      with_reducible repeat (first | refine S.then_n ?_ | refine S.then_x ?_ | refine S.then_r ?_ | refine S.inBlock_n ?_ | refine S.inBlock_r ?_ | refine S.inBlock_x rfl ?_ | refine S.noGoto_r ?_ | refine S.noGoto_n ?_ | refine S.noGoto_x ?_)
                      with_reducible repeat (first | refine S.then_n ?_ | refine S.then_x ?_ | refine S.then_r ?_ | refine S.inBlock_n ?_ | refine S.inBlock_r ?_ | refine S.inBlock_x rfl ?_ | refine S.noGoto_r ?_ | refine S.noGoto_n ?_ | refine S.noGoto_x ?_)
                      first
                      | exact S.meet ⟨st', _, (by first | rfl | exact decide_eq_true rfl | exact decide_eq_true ha2), hok', rfl, rfl⟩ ⟨rfl, rfl, rfl, rfl, rfl, rfl, rfl, trivial⟩ Sub.ent
                      | exact S.meet ⟨none, _, rfl, hok', rfl, rfl⟩ ⟨rfl, rfl, rfl, rfl, rfl, rfl, rfl, trivial⟩ Sub.ent
                      | (refine S.air0' 59 ?_; refine S.conv3 (blk t2 62 #[.int .i64 n, .int .u64 (q - 1), .slice none 0 0]) (own SV.nil 59 3 []) (alls [] fltB) (show Ent _ _ from Ent.closeAI (cells := refC n) (q := q) (L := []) (lv := SV.nil) (os := []) rfl rfl _) ?_; exact S.meet ⟨some (q, []), _, rfl, hok', rfl, rfl⟩ ⟨rfl, rfl, rfl, rfl, rfl, rfl, rfl, trivial⟩ Sub.ent)
        · rintro ρ' Γ' ⟨st', g, rfl, hok', rfl, rfl⟩
          refine hK20 _ _ ?_
          refine S.seq fun K46 hK46 => ?_
          refine S.seq fun K47 hK47 => ?_
          refine S.region rfl ?_
          refine S.op (S.q (q_move rfl) rfl rfl ?_)
          refine S.op (S.q (q_not rfl) rfl rfl ?_)
          first | with_reducible refine S.nilK ?_ | refine S.nil ?_
          refine hK47 _ _ ?_
          refine S.condF rfl ?_
          refine S.skip ?_
          with_reducible repeat (first | refine S.then_n ?_ | refine S.then_x ?_ | refine S.then_r ?_ | refine S.inBlock_n ?_ | refine S.inBlock_r ?_ | refine S.inBlock_x rfl ?_ | refine S.noGoto_r ?_ | refine S.noGoto_n ?_ | refine S.noGoto_x ?_)
          refine hK46 _ _ ?_
          refine S.seq fun K48 hK48 => ?_
          refine S.region rfl ?_
          refine S.op (S.q (q_assign rfl) rfl rfl ?_)
          first | with_reducible refine S.nilK ?_ | refine S.nil ?_
          refine hK48 _ _ ?_
          refine S.seq fun K49 hK49 => ?_
          refine S.seq fun K50 hK50 => ?_
          refine S.region rfl ?_
          refine S.op (S.q (q_move rfl) rfl rfl ?_)
          refine S.op (S.q (q_neN Try.underlying47 rfl rfl) rfl rfl ?_)
          first | with_reducible refine S.nilK ?_ | refine S.nil ?_
          refine hK50 _ _ ?_
          refine S.cut (fun ρ' Γ' => ∃ M : Int, M = (lenR st' : Int) ∧ ρ' = [(2, .int .i64 kk), (7, .pointer pa), (9, .pointer pb), (32, .int .i64 M), (62, s1.v), (63, .int .i64 s1.n), (64, .int .i64 k)] ∧ Γ' = AirI n pa st' :: RefI n pb st' :: old W :: Γ) ?_ ?_
          · refine S.cond rfl (fun h15 => ?_) (fun h15 => ?_)
            · refine S.aiSome (T := 62) (F := 59) (cells := refC n) (pa := pb) st' (by simpa using h15) fun t2 lv2 os2 q L e1 e2 e3 e4 => ?_
              subst e1 e2
              refine S.region rfl ?_
              refine S.op (S.q (q_move rfl) rfl rfl ?_)
              refine S.op (S.q (q_nilCheck rfl) rfl rfl ?_)
              refine S.op (S.q (q_field Try.fo62_2 rfl) rfl rfl ?_)
              refine S.op (S.q (q_load Try.at60 rfl rfl) rfl rfl ?_)
              refine S.op (S.q (q_len Try.underlying60 rfl) rfl rfl ?_)
              refine S.op (S.q (q_assign rfl) rfl rfl ?_)
              first | with_reducible refine S.nilK ?_ | refine S.nil ?_
              with_reducible repeat (first | refine S.then_n ?_ | refine S.then_x ?_ | refine S.then_r ?_ | refine S.inBlock_n ?_ | refine S.inBlock_r ?_ | refine S.inBlock_x rfl ?_ | refine S.noGoto_r ?_ | refine S.noGoto_n ?_ | refine S.noGoto_x ?_)
              first
              | (refine S.conv3 (blk t2 62 (refC n q lv2).toArray) (own lv2 59 3 (os2.flatMap fltC)) (alls os2 fltB) (Ent.closeAI e3 e4 _) ?_; exact S.meet ⟨_, by rw [e4, ← e3]; simp [lenR], rfl, rfl⟩ ⟨rfl, rfl, rfl, rfl, rfl, rfl, rfl, trivial⟩ Sub.ent)
              | exact S.meet ⟨_, rfl, rfl, rfl⟩ ⟨rfl, rfl, rfl, rfl, rfl, rfl, rfl, trivial⟩ Sub.ent
            · refine S.aiNone (T := 62) (F := 59) (cells := refC n) (pa := pb) st' (by simpa using h15) fun e1 e2 => ?_
              subst e1 e2
              refine S.skip ?_
              with_reducible repeat (first | refine S.then_n ?_ | refine S.then_x ?_ | refine S.then_r ?_ | refine S.inBlock_n ?_ | refine S.inBlock_r ?_ | refine S.inBlock_x rfl ?_ | refine S.noGoto_r ?_ | refine S.noGoto_n ?_ | refine S.noGoto_x ?_)
              with_reducible repeat (first | refine S.then_n ?_ | refine S.then_x ?_ | refine S.then_r ?_ | refine S.inBlock_n ?_ | refine S.inBlock_r ?_ | refine S.inBlock_x rfl ?_ | refine S.noGoto_r ?_ | refine S.noGoto_n ?_ | refine S.noGoto_x ?_)
              first
              | (refine S.conv3 (blk t2 62 (refC n q lv2).toArray) (own lv2 59 3 (os2.flatMap fltC)) (alls os2 fltB) (Ent.closeAI e3 e4 _) ?_; exact S.meet ⟨_, by rw [e4, ← e3]; simp [lenR], rfl, rfl⟩ ⟨rfl, rfl, rfl, rfl, rfl, rfl, rfl, trivial⟩ Sub.ent)
              | exact S.meet ⟨_, rfl, rfl, rfl⟩ ⟨rfl, rfl, rfl, rfl, rfl, rfl, rfl, trivial⟩ Sub.ent
          · rintro ρ' Γ' ⟨M, hM, rfl, rfl⟩
            have hlb := ok_len hok'
            have hflag : ((atR 0 st').2 != decide ((0 : Int) < M)) = false := by rw [atR_flag, hM]; simp
            refine hK49 _ _ ?_
            refine S.seq fun K51 hK51 => ?_
            refine S.region rfl ?_
            refine S.op (S.q (q_move rfl) rfl rfl ?_)
            refine S.op (S.call Try.en11 (vs := [_]) ⟨rfl, trivial⟩ (AOldest n pa st') rfl ?_)
            rintro v Θ ⟨rfl, rfl⟩
            refine S.op (S.q (q_move rfl) rfl rfl ?_)
            refine S.op (S.q (q_extract rfl rfl) rfl rfl ?_)
            refine S.op (S.q (q_extract rfl rfl) rfl rfl ?_)
            refine S.op (S.q (q_assign rfl) rfl rfl ?_)
            refine S.op (S.q (q_assign rfl) rfl rfl ?_)
            first | with_reducible refine S.nilK ?_ | refine S.nil ?_
            refine hK51 _ _ ?_
            refine S.seq fun K52 hK52 => ?_
            refine S.seq fun K53 hK53 => ?_
            refine S.cut (fun ρ' Γ' => ∃ c : Bool, c = false ∧ ρ' = [(2, .int .i64 kk), (7, .pointer pa), (9, .pointer pb), (32, .int .i64 M), (62, s1.v), (63, .int .i64 s1.n), (64, .int .i64 k), (263, .bool c)] ∧ Γ' = AirI n pa st' :: RefI n pb st' :: old W :: Γ) ?_ ?_
            · refine S.regionG ?_
              refine S.g_op rfl (S.q (q_move rfl) rfl rfl ?_)
              refine S.g_op rfl (S.call Try.en14 (vs := [_]) ⟨rfl, trivial⟩ (ALen n pa st') rfl ?_)
              rintro v Θ ⟨rfl, rfl⟩
              refine S.g_op rfl (S.q (q_move rfl) rfl rfl ?_)
              refine S.g_op rfl (S.q (q_ne rfl rfl) rfl rfl ?_)
              refine S.g_op rfl (S.q (q_move rfl) rfl rfl ?_)
              refine S.g_yes rfl rfl rfl ((decide_eq_false (by omega))) (S.q (q_move rfl) rfl rfl ?_)
              refine S.g_yes rfl rfl rfl ((decide_eq_false (by omega))) (S.q (q_move rfl) rfl rfl ?_)
              refine S.g_yes rfl rfl rfl ((decide_eq_false (by omega))) (S.q (q_gt rfl rfl) rfl rfl ?_)
              refine S.g_yes rfl rfl rfl ((decide_eq_false (by omega))) (S.q (q_neB Try.underlying4 rfl rfl) rfl rfl ?_)
              refine S.g_op rfl (S.q (q_pickF rfl ((decide_eq_false (by omega))) rfl) rfl rfl ?_)
              refine S.g_op rfl (S.q (q_move rfl) rfl rfl ?_)
              refine S.g_yes rfl rfl rfl (hflag) (S.q (q_move rfl) rfl rfl ?_)
              refine S.g_yes rfl rfl rfl (hflag) (S.q (q_gt rfl rfl) rfl rfl ?_)
              refine S.g_yes rfl rfl rfl (hflag) (S.q (q_move rfl) rfl rfl ?_)
              by_cases hg49_13 : (0 : Int) < M
              · obtain ⟨q, f, L, rfl⟩ := lenR_some (st := st') (by omega)
                refine S.aiOpen (T := 62) (F := 59) (cells := refC n) (pa := pb) (q := q) (L := f :: L) inferInstance fun t2 lv2 os2 e1 e2 e3 => ?_
                subst e1
                obtain ⟨x, hx, rfl⟩ := map_at e2 (i := 0) rfl
                have hil := (List.getElem?_eq_some_iff.1 hx).1
                refine S.ownSome lv2 (by omega) fun b2 off2 hb2 _ _ _ => ?_
                refine S.g_yes rfl rfl rfl (decide_eq_true hg49_13) (S.q (q_move rfl) rfl rfl ?_)
                refine S.g_yes rfl rfl rfl (decide_eq_true hg49_13) (S.q (q_move rfl) rfl rfl ?_)
                refine S.g_yes rfl rfl rfl (decide_eq_true hg49_13) (S.q (q_nilCheck rfl) rfl rfl ?_)
                refine S.g_yes rfl rfl rfl (decide_eq_true hg49_13) (S.q (q_field Try.fo62_2 rfl) rfl rfl ?_)
                refine S.g_yes rfl rfl rfl (decide_eq_true hg49_13) (S.q (q_load Try.at60 rfl rfl) rfl rfl ?_)
                refine S.g_yes rfl rfl rfl (decide_eq_true hg49_13) (S.q (q_indexO (0) Try.el60 rfl hb2 rfl rfl (by omega)) rfl rfl ?_)
                refine S.g_yes rfl rfl rfl (decide_eq_true hg49_13) (S.q (q_field Try.fo59_0 rfl) rfl rfl ?_)
                refine S.g_yes rfl rfl rfl (decide_eq_true hg49_13) (S.q (q_loadOw (lv2) (0 * 3 + 0) Try.at30 rfl hb2 (by first | rfl | exact Nat.add_assoc _ _ _ | omega) (flat_get fltC_len hx rfl)) rfl rfl ?_)
                refine S.conv3 (blk t2 62 (refC n q lv2).toArray) (own lv2 59 3 (os2.flatMap fltC)) (alls os2 fltB) (Ent.closeAI e2 e3 _) ?_
                refine S.g_yes rfl rfl rfl (decide_eq_true hg49_13) (S.q (q_ne rfl rfl) rfl rfl ?_)
                refine S.g_yes rfl rfl rfl (hflag) (S.q (q_pickT rfl (decide_eq_true hg49_13) rfl) rfl rfl ?_)
                refine S.g_op rfl (S.q (q_pickF rfl (hflag) rfl) rfl rfl ?_)
                refine S.g_op rfl (S.q (q_move rfl) rfl rfl ?_)
                refine S.g_yes rfl rfl rfl ((decide_eq_false (by simp [atR, fl]))) (S.q (q_move rfl) rfl rfl ?_)
                refine S.g_yes rfl rfl rfl ((decide_eq_false (by simp [atR, fl]))) (S.q (q_eq rfl rfl) rfl rfl ?_)
                refine S.g_yes rfl rfl rfl ((decide_eq_false (by simp [atR, fl]))) (S.q (q_move rfl) rfl rfl ?_)
                by_cases hg49_28 : M = 0
                · refine S.g_yes rfl rfl rfl (decide_eq_true hg49_28) (S.q (q_move rfl) rfl rfl ?_)
                  refine S.g_yes rfl rfl rfl (decide_eq_true hg49_28) (S.q (q_ne rfl rfl) rfl rfl ?_)
                  refine S.g_yes rfl rfl rfl ((decide_eq_false (by simp [atR, fl]))) (S.q (q_pickT rfl (decide_eq_true hg49_28) rfl) rfl rfl ?_)
                  refine S.g_op rfl (S.q (q_pickF rfl ((decide_eq_false (by simp [atR, fl]))) rfl) rfl rfl ?_)
                  first | with_reducible refine S.g_nilK ?_ | refine S.g_nil ?_
                  with_reducible repeat (first | refine S.then_n ?_ | refine S.then_x ?_ | refine S.then_r ?_ | refine S.inBlock_n ?_ | refine S.inBlock_r ?_ | refine S.inBlock_x rfl ?_ | refine S.noGoto_r ?_ | refine S.noGoto_n ?_ | refine S.noGoto_x ?_)
                  exact S.meet ⟨_, (by first | rfl | exact decide_eq_false (by first | omega | exact fun h => h (by rw [atR_out (.inr (by omega))]))), rfl, rfl⟩ ⟨rfl, rfl, rfl, rfl, rfl, rfl, rfl, rfl, trivial⟩ Sub.ent
                · refine S.g_no rfl rfl rfl (decide_eq_false hg49_28) rfl rfl ?_
                  refine S.g_no rfl rfl rfl (decide_eq_false hg49_28) rfl rfl ?_
                  refine S.g_yes rfl rfl rfl ((decide_eq_false (by simp [atR, fl]))) (S.q (q_pickF rfl (decide_eq_false hg49_28) rfl) rfl rfl ?_)
                  refine S.g_op rfl (S.q (q_pickF rfl ((decide_eq_false (by simp [atR, fl]))) rfl) rfl rfl ?_)
                  first | with_reducible refine S.g_nilK ?_ | refine S.g_nil ?_
                  with_reducible repeat (first | refine S.then_n ?_ | refine S.then_x ?_ | refine S.then_r ?_ | refine S.inBlock_n ?_ | refine S.inBlock_r ?_ | refine S.inBlock_x rfl ?_ | refine S.noGoto_r ?_ | refine S.noGoto_n ?_ | refine S.noGoto_x ?_)
                  exact S.meet ⟨_, (by first | rfl | exact decide_eq_false (by first | omega | exact fun h => h (by rw [atR_out (.inr (by omega))]))), rfl, rfl⟩ ⟨rfl, rfl, rfl, rfl, rfl, rfl, rfl, rfl, trivial⟩ Sub.ent
              · refine S.g_no rfl rfl rfl (decide_eq_false hg49_13) rfl rfl ?_
                refine S.g_no rfl rfl rfl (decide_eq_false hg49_13) rfl rfl ?_
                refine S.g_no rfl rfl rfl (decide_eq_false hg49_13) rfl rfl ?_
                refine S.g_no rfl rfl rfl (decide_eq_false hg49_13) rfl rfl ?_
                refine S.g_no rfl rfl rfl (decide_eq_false hg49_13) rfl rfl ?_
                refine S.g_no rfl rfl rfl (decide_eq_false hg49_13) rfl rfl ?_
                refine S.g_no rfl rfl rfl (decide_eq_false hg49_13) rfl rfl ?_
                refine S.g_no rfl rfl rfl (decide_eq_false hg49_13) rfl rfl ?_
                refine S.g_no rfl rfl rfl (decide_eq_false hg49_13) rfl rfl ?_
                refine S.g_yes rfl rfl rfl (hflag) (S.q (q_pickF rfl (decide_eq_false hg49_13) rfl) rfl rfl ?_)
                refine S.g_op rfl (S.q (q_pickF rfl (hflag) rfl) rfl rfl ?_)
                refine S.g_op rfl (S.q (q_move rfl) rfl rfl ?_)
                refine S.g_yes rfl rfl rfl (rfl) (S.q (q_move rfl) rfl rfl ?_)
                refine S.g_yes rfl rfl rfl (rfl) (S.q (q_eq rfl rfl) rfl rfl ?_)
                refine S.g_yes rfl rfl rfl (rfl) (S.q (q_move rfl) rfl rfl ?_)
                by_cases hg49_28 : M = 0
                · refine S.g_yes rfl rfl rfl (decide_eq_true hg49_28) (S.q (q_move rfl) rfl rfl ?_)
                  refine S.g_yes rfl rfl rfl (decide_eq_true hg49_28) (S.q (q_ne rfl rfl) rfl rfl ?_)
                  refine S.g_yes rfl rfl rfl (rfl) (S.q (q_pickT rfl (decide_eq_true hg49_28) rfl) rfl rfl ?_)
                  refine S.g_op rfl (S.q (q_pickF rfl (rfl) rfl) rfl rfl ?_)
                  first | with_reducible refine S.g_nilK ?_ | refine S.g_nil ?_
                  with_reducible repeat (first | refine S.then_n ?_ | refine S.then_x ?_ | refine S.then_r ?_ | refine S.inBlock_n ?_ | refine S.inBlock_r ?_ | refine S.inBlock_x rfl ?_ | refine S.noGoto_r ?_ | refine S.noGoto_n ?_ | refine S.noGoto_x ?_)
                  exact S.meet ⟨_, (by first | rfl | exact decide_eq_false (by first | omega | exact fun h => h (by rw [atR_out (.inr (by omega))]))), rfl, rfl⟩ ⟨rfl, rfl, rfl, rfl, rfl, rfl, rfl, rfl, trivial⟩ Sub.ent
                · refine S.g_no rfl rfl rfl (decide_eq_false hg49_28) rfl rfl ?_
                  refine S.g_no rfl rfl rfl (decide_eq_false hg49_28) rfl rfl ?_
                  refine S.g_yes rfl rfl rfl (rfl) (S.q (q_pickF rfl (decide_eq_false hg49_28) rfl) rfl rfl ?_)
                  refine S.g_op rfl (S.q (q_pickF rfl (rfl) rfl) rfl rfl ?_)
                  first | with_reducible refine S.g_nilK ?_ | refine S.g_nil ?_
                  with_reducible repeat (first | refine S.then_n ?_ | refine S.then_x ?_ | refine S.then_r ?_ | refine S.inBlock_n ?_ | refine S.inBlock_r ?_ | refine S.inBlock_x rfl ?_ | refine S.noGoto_r ?_ | refine S.noGoto_n ?_ | refine S.noGoto_x ?_)
                  exact S.meet ⟨_, (by first | rfl | exact decide_eq_false (by first | omega | exact fun h => h (by rw [atR_out (.inr (by omega))]))), rfl, rfl⟩ ⟨rfl, rfl, rfl, rfl, rfl, rfl, rfl, rfl, trivial⟩ Sub.ent
            · rintro ρ' Γ' ⟨c, rfl, rfl, rfl⟩
              refine hK53 _ _ ?_
              refine S.condF rfl ?_
              refine S.skip ?_
              with_reducible repeat (first | refine S.then_n ?_ | refine S.then_x ?_ | refine S.then_r ?_ | refine S.inBlock_n ?_ | refine S.inBlock_r ?_ | refine S.inBlock_x rfl ?_ | refine S.noGoto_r ?_ | refine S.noGoto_n ?_ | refine S.noGoto_x ?_)
              refine hK52 _ _ ?_
              refine S.seq fun K54 hK54 => ?_
              refine S.seq fun K55 hK55 => ?_
              refine S.region rfl ?_
              refine S.op (S.q (q_move rfl) rfl rfl ?_)
              refine S.op (S.q (q_move rfl) rfl rfl ?_)
              first | with_reducible refine S.nilK ?_ | refine S.nil ?_
              refine hK55 _ _ ?_
              refine S.block ?_
              refine S.loop (fun m3 ρ' Γ' => ∃ j : Nat, m3 + j = lenR st' ∧ ρ' = [(2, .int .i64 kk), (7, .pointer pa), (9, .pointer pb), (32, .int .i64 M), (62, s1.v), (63, .int .i64 s1.n), (64, .int .i64 k), (264, .int .i64 M), (265, .int .i64 j)] ∧ Γ' = AirI n pa st' :: RefI n pb st' :: old W :: Γ) (m := _) (ρ0 := _) (Γ0 := _) (⟨0, rfl, rfl, rfl⟩) (by repeat (first | exact trivial | refine ⟨rfl, ?_⟩)) Sub.ent ?_
              rintro m3 ρ' Γ' ⟨j, hj, rfl, rfl⟩
              refine S.seq fun K56 hK56 => ?_
              refine S.region rfl ?_
              refine S.op (S.q (q_lt rfl rfl) rfl rfl ?_)
              first | with_reducible refine S.nilK ?_ | refine S.nil ?_
              refine hK56 _ _ ?_
              refine S.seq fun K57 hK57 => ?_
              refine S.condD rfl (fun h17 => ?_) (fun h17 => ?_)
              · obtain ⟨q, L, f, rfl, hf, hat⟩ := atR_lt (st := st') (j := j) (by omega)
                have hat1 : (atR (j : Int) (some (q, L))).1 = f.id := by rw [hat]
                have hat2 : (atR (j : Int) (some (q, L))).2 = true := by rw [hat]
                refine S.skip ?_
                with_reducible repeat (first | refine S.then_n ?_ | refine S.then_x ?_ | refine S.then_r ?_ | refine S.inBlock_n ?_ | refine S.inBlock_r ?_ | refine S.inBlock_x rfl ?_ | refine S.noGoto_r ?_ | refine S.noGoto_n ?_ | refine S.noGoto_x ?_)
                refine hK57 _ _ ?_
                refine S.seq fun K58 hK58 => ?_
                refine S.block ?_
                refine S.seq fun K59 hK59 => ?_
                refine S.region rfl ?_
                refine S.op (S.q (q_move rfl) rfl rfl ?_)
                refine S.op (S.q (q_assign rfl) rfl rfl ?_)
                first | with_reducible refine S.nilK ?_ | refine S.nil ?_
                refine hK59 _ _ ?_
                refine S.seq fun K60 hK60 => ?_
                refine S.region rfl ?_
                refine S.op (S.q (q_move rfl) rfl rfl ?_)
                refine S.op (S.q (q_move rfl) rfl rfl ?_)
                refine S.op (S.call Try.en22 (vs := [_, _]) ⟨rfl, rfl, trivial⟩ (AAt n pa (some (q, L)) j) rfl ?_)
                rintro v Θ ⟨rfl, rfl⟩
                rw [hat1, hat2]
                refine S.aiOpen (T := 62) (F := 59) (cells := refC n) (pa := pb) (q := q) (L := L) inferInstance fun t2 lv2 os2 e1 e2 e3 => ?_
                subst e1
                obtain ⟨x, hx, rfl⟩ := map_at e2 hf
                have hil := (List.getElem?_eq_some_iff.1 hx).1
                refine S.ownSome lv2 (by omega) fun b2 off2 hb2 _ _ _ => ?_
                refine S.op (S.q (q_move rfl) rfl rfl ?_)
                refine S.op (S.q (q_extract rfl rfl) rfl rfl ?_)
                refine S.op (S.q (q_extract rfl rfl) rfl rfl ?_)
                refine S.op (S.q (q_assign rfl) rfl rfl ?_)
                refine S.op (S.q (q_assign rfl) rfl rfl ?_)
                first | with_reducible refine S.nilK ?_ | refine S.nil ?_
                refine hK60 _ _ ?_
                refine S.seq fun K61 hK61 => ?_
                refine S.regionG ?_
                refine S.g_op rfl (S.q (q_move rfl) rfl rfl ?_)
                refine S.g_op rfl (S.q (q_not rfl) rfl rfl ?_)
                refine S.g_op rfl (S.q (q_move rfl) rfl rfl ?_)
                refine S.g_yes rfl rfl rfl (rfl) (S.q (q_move rfl) rfl rfl ?_)
                refine S.g_yes rfl rfl rfl (rfl) (S.q (q_move rfl) rfl rfl ?_)
                refine S.g_yes rfl rfl rfl (rfl) (S.q (q_nilCheck rfl) rfl rfl ?_)
                refine S.g_yes rfl rfl rfl (rfl) (S.q (q_field Try.fo62_2 rfl) rfl rfl ?_)
                refine S.g_yes rfl rfl rfl (rfl) (S.q (q_load Try.at60 rfl rfl) rfl rfl ?_)
                refine S.g_yes rfl rfl rfl (rfl) (S.q (q_move rfl) rfl rfl ?_)
                refine S.g_yes rfl rfl rfl (rfl) (S.q (q_indexO (j) Try.el60 rfl hb2 rfl rfl (by omega)) rfl rfl ?_)
                refine S.g_yes rfl rfl rfl (rfl) (S.q (q_field Try.fo59_0 rfl) rfl rfl ?_)
                refine S.g_yes rfl rfl rfl (rfl) (S.q (q_loadOw (lv2) (j * 3 + 0) Try.at30 rfl hb2 (by first | rfl | exact Nat.add_assoc _ _ _ | omega) (flat_get fltC_len hx rfl)) rfl rfl ?_)
                refine S.conv3 (blk t2 62 (refC n q lv2).toArray) (own lv2 59 3 (os2.flatMap fltC)) (alls os2 fltB) (Ent.closeAI e2 e3 _) ?_
                refine S.g_yes rfl rfl rfl (rfl) (S.q (q_ne rfl rfl) rfl rfl ?_)
                refine S.g_op rfl (S.q (q_pickF rfl (rfl) rfl) rfl rfl ?_)
                first | with_reducible refine S.g_nilK ?_ | refine S.g_nil ?_
                refine hK61 _ _ ?_
                refine S.condD rfl (fun h18 => ?_) (fun h18 => ?_)
                · exact absurd rfl h18
                · refine S.skip ?_
                  with_reducible repeat (first | refine S.then_n ?_ | refine S.then_x ?_ | refine S.then_r ?_ | refine S.inBlock_n ?_ | refine S.inBlock_r ?_ | refine S.inBlock_x rfl ?_ | refine S.noGoto_r ?_ | refine S.noGoto_n ?_ | refine S.noGoto_x ?_)
                  with_reducible repeat (first | refine S.then_n ?_ | refine S.then_x ?_ | refine S.then_r ?_ | refine S.inBlock_n ?_ | refine S.inBlock_r ?_ | refine S.inBlock_x rfl ?_ | refine S.noGoto_r ?_ | refine S.noGoto_n ?_ | refine S.noGoto_x ?_)
                  refine hK58 _ _ ?_
                  refine S.region rfl ?_
                  refine S.op (S.q (q_add rfl rfl (inI64 (by omega) (by omega))) rfl rfl ?_)
                  refine S.op (S.q (q_move rfl) rfl rfl ?_)
                  first | with_reducible refine S.nilK ?_ | refine S.nil ?_
                  with_reducible repeat (first | refine S.then_n ?_ | refine S.then_x ?_ | refine S.then_r ?_ | refine S.inBlock_n ?_ | refine S.inBlock_r ?_ | refine S.inBlock_x rfl ?_ | refine S.noGoto_r ?_ | refine S.noGoto_n ?_ | refine S.noGoto_x ?_)
                  exact S.next (m3 - 1) (⟨j + 1, by omega, rfl, rfl⟩) (by omega) (by repeat (first | exact trivial | refine ⟨rfl, ?_⟩)) Sub.ent
              · refine S.exit ?_
                with_reducible repeat (first | refine S.then_n ?_ | refine S.then_x ?_ | refine S.then_r ?_ | refine S.inBlock_n ?_ | refine S.inBlock_r ?_ | refine S.inBlock_x rfl ?_ | refine S.noGoto_r ?_ | refine S.noGoto_n ?_ | refine S.noGoto_x ?_)
                with_reducible refine S.inBlock_s ?_
                with_reducible repeat (first | refine S.then_n ?_ | refine S.then_x ?_ | refine S.then_r ?_ | refine S.inBlock_n ?_ | refine S.inBlock_r ?_ | refine S.inBlock_x rfl ?_ | refine S.noGoto_r ?_ | refine S.noGoto_n ?_ | refine S.noGoto_x ?_)
                refine hK54 _ _ ?_
                refine S.seq fun K62 hK62 => ?_
                refine S.region rfl ?_
                refine S.op (S.q (q_move rfl) rfl rfl ?_)
                refine S.op (S.q (q_move rfl) rfl rfl ?_)
                refine S.op (S.call Try.en22 (vs := [_, _]) ⟨rfl, rfl, trivial⟩ (AAt n pa st' kk) rfl ?_)
                rintro v Θ ⟨rfl, rfl⟩
                refine S.op (S.q (q_move rfl) rfl rfl ?_)
                refine S.op (S.q (q_extract rfl rfl) rfl rfl ?_)
                refine S.op (S.q (q_extract rfl rfl) rfl rfl ?_)
                refine S.op (S.q (q_assign rfl) rfl rfl ?_)
                refine S.op (S.q (q_assign rfl) rfl rfl ?_)
                first | with_reducible refine S.nilK ?_ | refine S.nil ?_
                refine hK62 _ _ ?_
                refine S.seq fun K63 hK63 => ?_
                refine S.regionG ?_
                refine S.g_op rfl (S.q (q_move rfl) rfl rfl ?_)
                refine S.g_op rfl (S.q (q_move rfl) rfl rfl ?_)
                refine S.g_op rfl (S.q (q_ge rfl rfl) rfl rfl ?_)
                refine S.g_op rfl (S.q (q_move rfl) rfl rfl ?_)
                by_cases hg59_3 : (0 : Int) ≤ kk
                · refine S.g_yes rfl rfl rfl (decide_eq_true hg59_3) (S.q (q_move rfl) rfl rfl ?_)
                  refine S.g_yes rfl rfl rfl (decide_eq_true hg59_3) (S.q (q_move rfl) rfl rfl ?_)
                  refine S.g_yes rfl rfl rfl (decide_eq_true hg59_3) (S.q (q_lt rfl rfl) rfl rfl ?_)
                  refine S.g_op rfl (S.q (q_pickT rfl (decide_eq_true hg59_3) rfl) rfl rfl ?_)
                  refine S.g_op rfl (S.q (q_neB Try.underlying4 rfl rfl) rfl rfl ?_)
                  refine S.g_op rfl (S.q (q_move rfl) rfl rfl ?_)
                  refine S.g_yes rfl rfl rfl ((by first | (rw [atR_flag, ← hM, decide_eq_true hg59_3]; simp; done) | (rw [atR_flag, ← hM, decide_eq_false hg59_3]; simp; done))) (S.q (q_move rfl) rfl rfl ?_)
                  refine S.g_yes rfl rfl rfl ((by first | (rw [atR_flag, ← hM, decide_eq_true hg59_3]; simp; done) | (rw [atR_flag, ← hM, decide_eq_false hg59_3]; simp; done))) (S.q (q_not rfl) rfl rfl ?_)
                  refine S.g_yes rfl rfl rfl ((by first | (rw [atR_flag, ← hM, decide_eq_true hg59_3]; simp; done) | (rw [atR_flag, ← hM, decide_eq_false hg59_3]; simp; done))) (S.q (q_move rfl) rfl rfl ?_)
                  rcases Bool.eq_false_or_eq_true ((!(atR kk st').2)) with hg59_12 | hg59_12
                  · refine S.g_yes rfl rfl rfl (hg59_12) (S.q (q_move rfl) rfl rfl ?_)
                    refine S.g_yes rfl rfl rfl (hg59_12) (S.q (q_ne rfl rfl) rfl rfl ?_)
                    refine S.g_yes rfl rfl rfl ((by first | (rw [atR_flag, ← hM, decide_eq_true hg59_3]; simp; done) | (rw [atR_flag, ← hM, decide_eq_false hg59_3]; simp; done))) (S.q (q_pickT rfl (hg59_12) rfl) rfl rfl ?_)
                    refine S.g_op rfl (S.q (q_pickF rfl ((by first | (rw [atR_flag, ← hM, decide_eq_true hg59_3]; simp; done) | (rw [atR_flag, ← hM, decide_eq_false hg59_3]; simp; done))) rfl) rfl rfl ?_)
                    first | with_reducible refine S.g_nilK ?_ | refine S.g_nil ?_
                    refine hK63 _ _ ?_
                    refine S.condD rfl (fun h19 => ?_) (fun h19 => ?_)
                    · exact absurd h19 (fun h => h (atR_zero (by simpa using hg59_12)))
                    · refine S.skip ?_
                      with_reducible repeat (first | refine S.then_n ?_ | refine S.then_x ?_ | refine S.then_r ?_ | refine S.inBlock_n ?_ | refine S.inBlock_r ?_ | refine S.inBlock_x rfl ?_ | refine S.noGoto_r ?_ | refine S.noGoto_n ?_ | refine S.noGoto_x ?_)
                      with_reducible repeat (first | refine S.then_n ?_ | refine S.then_x ?_ | refine S.then_r ?_ | refine S.inBlock_n ?_ | refine S.inBlock_r ?_ | refine S.inBlock_x rfl ?_ | refine S.noGoto_r ?_ | refine S.noGoto_n ?_ | refine S.noGoto_x ?_)
                      refine hK12 _ _ ?_
                      refine S.region rfl ?_
                      refine S.op (S.q (q_add rfl rfl (inI64 (by omega) (by omega))) rfl rfl ?_)
                      refine S.op (S.q (q_move rfl) rfl rfl ?_)
                      first | with_reducible refine S.nilK ?_ | refine S.nil ?_
                      with_reducible repeat (first | refine S.then_n ?_ | refine S.then_x ?_ | refine S.then_r ?_ | refine S.inBlock_n ?_ | refine S.inBlock_r ?_ | refine S.inBlock_x rfl ?_ | refine S.noGoto_r ?_ | refine S.noGoto_n ?_ | refine S.noGoto_x ?_)
                      exact S.next (rs.length - (k + 1)) (⟨k + 1, st', by omega, by omega, hok', rfl, rfl⟩) (by omega) (by repeat (first | exact trivial | refine ⟨rfl, ?_⟩)) Sub.ent
                  · refine S.g_no rfl rfl rfl (hg59_12) rfl rfl ?_
                    refine S.g_no rfl rfl rfl (hg59_12) rfl rfl ?_
                    refine S.g_yes rfl rfl rfl ((by first | (rw [atR_flag, ← hM, decide_eq_true hg59_3]; simp; done) | (rw [atR_flag, ← hM, decide_eq_false hg59_3]; simp; done))) (S.q (q_pickF rfl (hg59_12) rfl) rfl rfl ?_)
                    refine S.g_op rfl (S.q (q_pickF rfl ((by first | (rw [atR_flag, ← hM, decide_eq_true hg59_3]; simp; done) | (rw [atR_flag, ← hM, decide_eq_false hg59_3]; simp; done))) rfl) rfl rfl ?_)
                    first | with_reducible refine S.g_nilK ?_ | refine S.g_nil ?_
                    refine hK63 _ _ ?_
                    refine S.condF rfl ?_
                    refine S.skip ?_
                    with_reducible repeat (first | refine S.then_n ?_ | refine S.then_x ?_ | refine S.then_r ?_ | refine S.inBlock_n ?_ | refine S.inBlock_r ?_ | refine S.inBlock_x rfl ?_ | refine S.noGoto_r ?_ | refine S.noGoto_n ?_ | refine S.noGoto_x ?_)
                    with_reducible repeat (first | refine S.then_n ?_ | refine S.then_x ?_ | refine S.then_r ?_ | refine S.inBlock_n ?_ | refine S.inBlock_r ?_ | refine S.inBlock_x rfl ?_ | refine S.noGoto_r ?_ | refine S.noGoto_n ?_ | refine S.noGoto_x ?_)
                    refine hK12 _ _ ?_
                    refine S.region rfl ?_
                    refine S.op (S.q (q_add rfl rfl (inI64 (by omega) (by omega))) rfl rfl ?_)
                    refine S.op (S.q (q_move rfl) rfl rfl ?_)
                    first | with_reducible refine S.nilK ?_ | refine S.nil ?_
                    with_reducible repeat (first | refine S.then_n ?_ | refine S.then_x ?_ | refine S.then_r ?_ | refine S.inBlock_n ?_ | refine S.inBlock_r ?_ | refine S.inBlock_x rfl ?_ | refine S.noGoto_r ?_ | refine S.noGoto_n ?_ | refine S.noGoto_x ?_)
                    exact S.next (rs.length - (k + 1)) (⟨k + 1, st', by omega, by omega, hok', rfl, rfl⟩) (by omega) (by repeat (first | exact trivial | refine ⟨rfl, ?_⟩)) Sub.ent
                · refine S.g_no rfl rfl rfl (decide_eq_false hg59_3) rfl rfl ?_
                  refine S.g_no rfl rfl rfl (decide_eq_false hg59_3) rfl rfl ?_
                  refine S.g_no rfl rfl rfl (decide_eq_false hg59_3) rfl rfl ?_
                  refine S.g_op rfl (S.q (q_pickF rfl (decide_eq_false hg59_3) rfl) rfl rfl ?_)
                  refine S.g_op rfl (S.q (q_neB Try.underlying4 rfl rfl) rfl rfl ?_)
                  refine S.g_op rfl (S.q (q_move rfl) rfl rfl ?_)
                  refine S.g_yes rfl rfl rfl ((by first | (rw [atR_flag, ← hM, decide_eq_true hg59_3]; simp; done) | (rw [atR_flag, ← hM, decide_eq_false hg59_3]; simp; done))) (S.q (q_move rfl) rfl rfl ?_)
                  refine S.g_yes rfl rfl rfl ((by first | (rw [atR_flag, ← hM, decide_eq_true hg59_3]; simp; done) | (rw [atR_flag, ← hM, decide_eq_false hg59_3]; simp; done))) (S.q (q_not rfl) rfl rfl ?_)
                  refine S.g_yes rfl rfl rfl ((by first | (rw [atR_flag, ← hM, decide_eq_true hg59_3]; simp; done) | (rw [atR_flag, ← hM, decide_eq_false hg59_3]; simp; done))) (S.q (q_move rfl) rfl rfl ?_)
                  rcases Bool.eq_false_or_eq_true ((!(atR kk st').2)) with hg59_12 | hg59_12
                  · refine S.g_yes rfl rfl rfl (hg59_12) (S.q (q_move rfl) rfl rfl ?_)
                    refine S.g_yes rfl rfl rfl (hg59_12) (S.q (q_ne rfl rfl) rfl rfl ?_)
                    refine S.g_yes rfl rfl rfl ((by first | (rw [atR_flag, ← hM, decide_eq_true hg59_3]; simp; done) | (rw [atR_flag, ← hM, decide_eq_false hg59_3]; simp; done))) (S.q (q_pickT rfl (hg59_12) rfl) rfl rfl ?_)
                    refine S.g_op rfl (S.q (q_pickF rfl ((by first | (rw [atR_flag, ← hM, decide_eq_true hg59_3]; simp; done) | (rw [atR_flag, ← hM, decide_eq_false hg59_3]; simp; done))) rfl) rfl rfl ?_)
                    first | with_reducible refine S.g_nilK ?_ | refine S.g_nil ?_
                    refine hK63 _ _ ?_
                    refine S.condD rfl (fun h19 => ?_) (fun h19 => ?_)
                    · exact absurd h19 (fun h => h (atR_zero (by simpa using hg59_12)))
                    · refine S.skip ?_
                      with_reducible repeat (first | refine S.then_n ?_ | refine S.then_x ?_ | refine S.then_r ?_ | refine S.inBlock_n ?_ | refine S.inBlock_r ?_ | refine S.inBlock_x rfl ?_ | refine S.noGoto_r ?_ | refine S.noGoto_n ?_ | refine S.noGoto_x ?_)
                      with_reducible repeat (first | refine S.then_n ?_ | refine S.then_x ?_ | refine S.then_r ?_ | refine S.inBlock_n ?_ | refine S.inBlock_r ?_ | refine S.inBlock_x rfl ?_ | refine S.noGoto_r ?_ | refine S.noGoto_n ?_ | refine S.noGoto_x ?_)
                      refine hK12 _ _ ?_
                      refine S.region rfl ?_
                      refine S.op (S.q (q_add rfl rfl (inI64 (by omega) (by omega))) rfl rfl ?_)
                      refine S.op (S.q (q_move rfl) rfl rfl ?_)
                      first | with_reducible refine S.nilK ?_ | refine S.nil ?_
                      with_reducible repeat (first | refine S.then_n ?_ | refine S.then_x ?_ | refine S.then_r ?_ | refine S.inBlock_n ?_ | refine S.inBlock_r ?_ | refine S.inBlock_x rfl ?_ | refine S.noGoto_r ?_ | refine S.noGoto_n ?_ | refine S.noGoto_x ?_)
                      exact S.next (rs.length - (k + 1)) (⟨k + 1, st', by omega, by omega, hok', rfl, rfl⟩) (by omega) (by repeat (first | exact trivial | refine ⟨rfl, ?_⟩)) Sub.ent
                  · refine S.g_no rfl rfl rfl (hg59_12) rfl rfl ?_
                    refine S.g_no rfl rfl rfl (hg59_12) rfl rfl ?_
                    refine S.g_yes rfl rfl rfl ((by first | (rw [atR_flag, ← hM, decide_eq_true hg59_3]; simp; done) | (rw [atR_flag, ← hM, decide_eq_false hg59_3]; simp; done))) (S.q (q_pickF rfl (hg59_12) rfl) rfl rfl ?_)
                    refine S.g_op rfl (S.q (q_pickF rfl ((by first | (rw [atR_flag, ← hM, decide_eq_true hg59_3]; simp; done) | (rw [atR_flag, ← hM, decide_eq_false hg59_3]; simp; done))) rfl) rfl rfl ?_)
                    first | with_reducible refine S.g_nilK ?_ | refine S.g_nil ?_
                    refine hK63 _ _ ?_
                    refine S.condF rfl ?_
                    refine S.skip ?_
                    with_reducible repeat (first | refine S.then_n ?_ | refine S.then_x ?_ | refine S.then_r ?_ | refine S.inBlock_n ?_ | refine S.inBlock_r ?_ | refine S.inBlock_x rfl ?_ | refine S.noGoto_r ?_ | refine S.noGoto_n ?_ | refine S.noGoto_x ?_)
                    with_reducible repeat (first | refine S.then_n ?_ | refine S.then_x ?_ | refine S.then_r ?_ | refine S.inBlock_n ?_ | refine S.inBlock_r ?_ | refine S.inBlock_x rfl ?_ | refine S.noGoto_r ?_ | refine S.noGoto_n ?_ | refine S.noGoto_x ?_)
                    refine hK12 _ _ ?_
                    refine S.region rfl ?_
                    refine S.op (S.q (q_add rfl rfl (inI64 (by omega) (by omega))) rfl rfl ?_)
                    refine S.op (S.q (q_move rfl) rfl rfl ?_)
                    first | with_reducible refine S.nilK ?_ | refine S.nil ?_
                    with_reducible repeat (first | refine S.then_n ?_ | refine S.then_x ?_ | refine S.then_r ?_ | refine S.inBlock_n ?_ | refine S.inBlock_r ?_ | refine S.inBlock_x rfl ?_ | refine S.noGoto_r ?_ | refine S.noGoto_n ?_ | refine S.noGoto_x ?_)
                    exact S.next (rs.length - (k + 1)) (⟨k + 1, st', by omega, by omega, hok', rfl, rfl⟩) (by omega) (by repeat (first | exact trivial | refine ⟨rfl, ?_⟩)) Sub.ent
    · refine S.exit ?_
      with_reducible repeat (first | refine S.then_n ?_ | refine S.then_x ?_ | refine S.then_r ?_ | refine S.inBlock_n ?_ | refine S.inBlock_r ?_ | refine S.inBlock_x rfl ?_ | refine S.noGoto_r ?_ | refine S.noGoto_n ?_ | refine S.noGoto_x ?_)
      with_reducible refine S.inBlock_s ?_
      with_reducible repeat (first | refine S.then_n ?_ | refine S.then_x ?_ | refine S.then_r ?_ | refine S.inBlock_n ?_ | refine S.inBlock_r ?_ | refine S.inBlock_x rfl ?_ | refine S.noGoto_r ?_ | refine S.noGoto_n ?_ | refine S.noGoto_x ?_)
      refine hK8 _ _ ?_
      refine S.seq fun K64 hK64 => ?_
      refine S.region rfl ?_
      refine S.op (S.q (q_assign rfl) rfl rfl ?_)
      first | with_reducible refine S.nilK ?_ | refine S.nil ?_
      refine hK64 _ _ ?_
      refine S.ret ?_
      with_reducible repeat (first | refine S.then_n ?_ | refine S.then_x ?_ | refine S.then_r ?_ | refine S.inBlock_n ?_ | refine S.inBlock_r ?_ | refine S.inBlock_x rfl ?_ | refine S.noGoto_r ?_ | refine S.noGoto_n ?_ | refine S.noGoto_x ?_)
      exact S.fin (rs := [_]) (vs := [_]) Try.results6 (⟨rfl, trivial⟩)  (⟨rfl, rfl⟩) Sub.ent
open Go.ChangeShapes Go.WideShapes Go.ChangeAt
theorem AirPlays_law {H : Type} (enc : TypeId × Value → H) : LawWalk enc 6 Try.f6 := by
  intro W base args ds before hval hA _ _
  rw [Try.params6] at hA hval
  obtain ⟨v0, vs0, d0, ds0, p0, q0, hargs, rfl, rfl, h0, r0⟩ := trodAll_cons hA
  obtain ⟨v1, vs1, d1, ds1, p1, q1, rfl, rfl, rfl, h1, r1⟩ := trodAll_cons r0
  obtain ⟨v2, vs2, d2, ds2, p2, q2, rfl, rfl, rfl, h2, r2⟩ := trodAll_cons r1
  obtain ⟨rfl, rfl, rfl⟩ := trodAll_nil r2
  obtain rfl : args = #[v0, v1, v2] := by cases args; simp_all
  obtain ⟨a0, rfl, _⟩ := arg_int Try.underlying3 (hval 0 3 v0 rfl rfl) h0
  obtain ⟨s1, rs, e1, hn, hs, hb⟩ := rd_oprs (arg_slice 6 Try.underlying46 (by kernel_rfl) (hval 1 46 v1 rfl rfl) h1)
  simp only [List.cons.injEq, and_true] at e1
  subst e1
  obtain ⟨a2, rfl, _⟩ := arg_int Try.underlying3 (hval 2 3 v2 rfl rfl) h2
  exact law_run (AirPlays_S a0 a2 s1 rs W hn hs hb)
set_option maxRecDepth 100000 in
theorem AirPlays_lifted (os : Os) (started : os.Started) (H : Type) (enc : TypeId × Value → H) :
    ReturnsInHanded {} Try.checked os 6 .any (Rows.airPlaysSpec.pre6 enc Try.prog Try.f6 Rows.airPlaysRow.domain false) (Rows.airPlaysSpec.post enc Try.prog Try.f6 false true false false) :=
  lift_true started Try.func6 (by kernel_rfl)
    (ChangeSpec.witness6 (enc := enc) (C := Try.checked) false ⟨#[], #[.int .i64 0, .slice none 0 0, .int .i64 0], []⟩ 8 (by kernel_rfl) (by kernel_rfl) (by kernel_rfl) (by kernel_rfl))
    rfl rfl (by kernel_rfl) (fun ds h => by match ds, h with | [a0, a1, a2], _ => rfl) (AirPlays_law enc)
theorem AirPlays_over : Rows.airPlaysRow.holds Try.pinned (OpenSpec.ofChange Rows.airPlaysSpec) :=
  OpenClaim.holds_of_wide 6 Try.f6 rfl rfl rfl rfl rfl rfl rfl ⟨rfl, rfl, rfl, rfl, rfl⟩ rfl rfl rfl rfl rfl (by kernel_rfl) Try.func6 (by kernel_rfl)
    (of_decide_eq_true (by kernel_rfl)) (by unfold Func.isWrapper; rw [if_neg (of_decide_eq_false (by kernel_rfl))]; exact ⟨rfl, rfl⟩)
    (fun os started H enc _ => AirPlays_lifted os started H enc)
theorem AirPlays_holds : Rows.AirPlaysSaid := AirPlays_over
#print axioms AirPlays_holds
end Go.Proofs.Ythbckdjncmipeaa
