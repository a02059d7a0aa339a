/- The law TalkOthers: what is of another does nothing. -/
import Derived.Test.YtdlddggjjibeaaaRefs
namespace Go.Proofs.Ytdlddggjjibeaaa
open Go.RowKit
set_option maxHeartbeats 400000 in
theorem TalkOthers_S (s0 : SV) (rs : List BR) (n e l s a : Int) (pl : Bool) (dv : SV) (ld : List Int) (W : World) (hn0 : s0.n = rs.length) (h0 : SlAt W s0.v rs.length 1 (rs.flatMap fun r => [r.v.v])) (hr : ∀ r ∈ rs, BW W r.v r.l) (hd : BW W dv ld) (ha : 0 ≤ a ∧ a ≤ 4294967295) :
    LawS 7 [s0.v, .agg (pkC n e l s a pl dv).toArray] W := by
  have hm0 := slAt_cap h0
  have hmd := slAt_cap hd.at_
  have hdl := hd.len
  unfold maxLen at hm0 hmd
  refine Spec.of_body Try.func7 rfl Try.ntmps7 rfl ?_
  intro w0 Γ
  show S _ w0 [(0, s0.v), (1, .agg (pkC n e l s a pl dv).toArray)] (old W :: Γ) _
  refine S.seq fun K1 hK1 => ?_
  refine S.region rfl ?_
  refine S.op (S.box (cs := [_, _, _, _, _, _, _]) rfl rfl rfl ?_)
  intro b3
  refine S.op (S.q (q_assign rfl) rfl rfl ?_)
  first | with_reducible refine S.nilK ?_ | refine S.nil ?_
  refine hK1 _ _ ?_
  refine S.seq fun K2 hK2 => ?_
  refine S.seq fun K3 hK3 => ?_
  refine S.region rfl ?_
  refine S.op (S.call Try.en9 (vs := []) trivial (awake_S) rfl ?_)
  rintro v Θ ⟨rfl, rfl⟩
  refine S.op (S.q (q_not rfl) rfl rfl ?_)
  first | with_reducible refine S.nilK ?_ | refine S.nil ?_
  refine hK3 _ _ ?_
  refine S.condF rfl ?_
  refine S.skip ?_
  with_reducible repeat (first | refine S.then_n ?_ | refine S.then_x ?_ | refine S.then_r ?_ | refine S.inBlock_n ?_ | refine S.inBlock_r ?_ | refine S.inBlock_x rfl ?_ | refine S.noGoto_r ?_ | refine S.noGoto_n ?_ | refine S.noGoto_x ?_)
  refine hK2 _ _ ?_
  refine S.seq fun K4 hK4 => ?_
  refine S.region rfl ?_
  refine S.op (S.call Try.en10 (vs := [_, _, _]) ⟨rfl, rfl, rfl, trivial⟩ (New_S 2 3 4) rfl ?_)
  rintro v Θ ⟨t, rfl, rfl⟩
  refine S.op (S.q (q_assign rfl) rfl rfl ?_)
  first | with_reducible refine S.nilK ?_ | refine S.nil ?_
  refine hK4 _ _ ?_
  refine S.seq fun K5 hK5 => ?_
  refine S.seq fun K6 hK6 => ?_
  refine S.region rfl ?_
  refine S.talk0 ?_
  refine S.op (S.q (q_move rfl) rfl rfl ?_)
  refine S.op (S.q (q_len Try.underlying28 rfl) rfl rfl ?_)
  refine S.op (S.q (q_move rfl) rfl rfl ?_)
  first | with_reducible refine S.nilK ?_ | refine S.nil ?_
  refine hK6 _ _ ?_
  refine S.block ?_
  refine S.loop (fun m ρ' Γ' => ∃ (k : Nat) (q : Int) (ov : SV) (os : List Slt), m + k = rs.length ∧ q = os.length ∧ os.length ≤ 30 ∧ os.length ≤ k ∧ ρ' = [(0, s0.v), (3, .pointer (some ⟨b3, 0, none⟩)), (5, .pointer (some ⟨t, 0, none⟩)), (16, s0.v), (17, .int .i64 s0.n), (18, .int .i64 k)] ∧ Γ' = blk t 72 (tk 2 3 4 q 0 ov).toArray :: own ov 76 3 (os.flatMap sltC) :: alls os sltB :: blk b3 34 (pkC n e l s a pl dv).toArray :: old W :: Γ) (m := _) (ρ0 := _) (Γ0 := _) (⟨0, 0, SV.nil, [], rfl, rfl, by simp, by simp, rfl, rfl⟩) (by repeat (first | exact trivial | refine ⟨rfl, ?_⟩)) Sub.ent ?_
  rintro m ρ' Γ' ⟨k, q, ov, os, hk1, hq, hos, hok, rfl, rfl⟩
  refine S.seq fun K7 hK7 => ?_
  refine S.region rfl ?_
  refine S.op (S.q (q_lt rfl rfl) rfl rfl ?_)
  first | with_reducible refine S.nilK ?_ | refine S.nil ?_
  refine hK7 _ _ ?_
  refine S.seq fun K8 hK8 => ?_
  refine S.condD rfl (fun h2 => ?_) (fun h2 => ?_)
  · obtain ⟨r, hrk⟩ := getE (l := rs) (i := k) (by omega)
    have hbr := hr r (List.mem_of_getElem? hrk)
    have hcr := slAt_cap hbr.at_
    have hlr := hbr.len
    unfold maxLen at hcr
    obtain ⟨b, off, hb, hcell⟩ := slAt_some h0 (by omega)
    refine S.skip ?_
    with_reducible repeat (first | refine S.then_n ?_ | refine S.then_x ?_ | refine S.then_r ?_ | refine S.inBlock_n ?_ | refine S.inBlock_r ?_ | refine S.inBlock_x rfl ?_ | refine S.noGoto_r ?_ | refine S.noGoto_n ?_ | refine S.noGoto_x ?_)
    refine hK8 _ _ ?_
    refine S.seq fun K9 hK9 => ?_
    refine S.block ?_
    refine S.seq fun K10 hK10 => ?_
    refine S.region rfl ?_
    refine S.op (S.q (q_move rfl) rfl rfl ?_)
    refine S.op (S.q (q_indexO (k) Try.el28 rfl hb rfl rfl (by omega)) rfl rfl ?_)
    refine S.op (S.q (q_loadW Try.at32 rfl (hcell _ _ (rows_get hrk))) rfl rfl ?_)
    refine S.op (S.q (q_assign rfl) rfl rfl ?_)
    refine S.op (S.q (q_assign rfl) rfl rfl ?_)
    first | with_reducible refine S.nilK ?_ | refine S.nil ?_
    refine hK10 _ _ ?_
    refine S.seq fun K11 hK11 => ?_
    refine S.region rfl ?_
    refine S.op (S.q (q_move rfl) rfl rfl ?_)
    refine S.op (S.q (q_lt rfl rfl) rfl rfl ?_)
    first | with_reducible refine S.nilK ?_ | refine S.nil ?_
    refine hK11 _ _ ?_
    refine S.condD rfl (fun h3 => ?_) (fun h3 => ?_)
    · refine S.region rfl ?_
      refine S.op (S.q (q_move rfl) rfl rfl ?_)
      refine S.op (S.q (q_move rfl) rfl rfl ?_)
      refine S.op (S.q (q_move rfl) rfl rfl ?_)
      refine S.op (S.q (q_len Try.underlying32 rfl) rfl rfl ?_)
      refine S.op (S.q (q_min (((min r.l.length 40 : Nat) : Int)) rfl rfl (by omega)) rfl rfl ?_)
      refine S.op (S.q (q_sliceTo (min r.l.length 40) Try.el32 rfl rfl rfl (by omega)) rfl rfl ?_)
      refine S.op (S.call Try.en15 (vs := [_, _]) ⟨rfl, rfl, trivial⟩ (Say_S t 2 3 4 q 0 ov os ⟨r.v.a, min r.l.length 40, r.v.c⟩ (r.l.take (min r.l.length 40)) (old W) (fun Γ w h => (hbr.take _ (by omega)).old h) (by simp only [List.length_take]; omega) (by simp only [List.length_take]; omega) (by omega) (by omega) (by omega)) rfl ?_)
      rintro v Θ ⟨s', ov', u, rfl, hs', rfl⟩
      first | with_reducible refine S.nilK ?_ | refine S.nil ?_
      with_reducible repeat (first | refine S.then_n ?_ | refine S.then_x ?_ | refine S.then_r ?_ | refine S.inBlock_n ?_ | refine S.inBlock_r ?_ | refine S.inBlock_x rfl ?_ | refine S.noGoto_r ?_ | refine S.noGoto_n ?_ | refine S.noGoto_x ?_)
      refine hK9 _ _ ?_
      refine S.region rfl ?_
      refine S.op (S.q (q_add rfl rfl (inI64 (by omega) (by omega))) rfl rfl ?_)
      refine S.op (S.q (q_move rfl) rfl rfl ?_)
      first | with_reducible refine S.nilK ?_ | refine S.nil ?_
      with_reducible repeat (first | refine S.then_n ?_ | refine S.then_x ?_ | refine S.then_r ?_ | refine S.inBlock_n ?_ | refine S.inBlock_r ?_ | refine S.inBlock_x rfl ?_ | refine S.noGoto_r ?_ | refine S.noGoto_n ?_ | refine S.noGoto_x ?_)
      first
      | exact S.next (rs.length - (k + 1)) ⟨k + 1, q + 1, ov', os ++ [⟨q + 1, r.l.take (min r.l.length 40), 0, u⟩], by omega, by rw [hq]; simp, by simp; omega, by simp; omega, rfl, rfl⟩ (by omega) (by repeat (first | exact trivial | refine ⟨rfl, ?_⟩)) Sub.ent
      | exact S.next (rs.length - (k + 1)) ⟨k + 1, q, ov, os, by omega, hq, by omega, by omega, rfl, rfl⟩ (by omega) (by repeat (first | exact trivial | refine ⟨rfl, ?_⟩)) Sub.ent
    · refine S.skip ?_
      with_reducible repeat (first | refine S.then_n ?_ | refine S.then_x ?_ | refine S.then_r ?_ | refine S.inBlock_n ?_ | refine S.inBlock_r ?_ | refine S.inBlock_x rfl ?_ | refine S.noGoto_r ?_ | refine S.noGoto_n ?_ | refine S.noGoto_x ?_)
      with_reducible repeat (first | refine S.then_n ?_ | refine S.then_x ?_ | refine S.then_r ?_ | refine S.inBlock_n ?_ | refine S.inBlock_r ?_ | refine S.inBlock_x rfl ?_ | refine S.noGoto_r ?_ | refine S.noGoto_n ?_ | refine S.noGoto_x ?_)
      refine hK9 _ _ ?_
      refine S.region rfl ?_
      refine S.op (S.q (q_add rfl rfl (inI64 (by omega) (by omega))) rfl rfl ?_)
      refine S.op (S.q (q_move rfl) rfl rfl ?_)
      first | with_reducible refine S.nilK ?_ | refine S.nil ?_
      with_reducible repeat (first | refine S.then_n ?_ | refine S.then_x ?_ | refine S.then_r ?_ | refine S.inBlock_n ?_ | refine S.inBlock_r ?_ | refine S.inBlock_x rfl ?_ | refine S.noGoto_r ?_ | refine S.noGoto_n ?_ | refine S.noGoto_x ?_)
      first
      | exact S.next (rs.length - (k + 1)) ⟨k + 1, q + 1, ov', os ++ [⟨q + 1, r.l.take (min r.l.length 40), 0, u⟩], by omega, by rw [hq]; simp, by simp; omega, by simp; omega, rfl, rfl⟩ (by omega) (by repeat (first | exact trivial | refine ⟨rfl, ?_⟩)) Sub.ent
      | exact S.next (rs.length - (k + 1)) ⟨k + 1, q, ov, os, by omega, hq, by omega, by omega, rfl, rfl⟩ (by omega) (by repeat (first | exact trivial | refine ⟨rfl, ?_⟩)) Sub.ent
  · refine S.ownLen ov fun hlen _ _ => ?_
    rw [flat_length sltC_len] at hlen
    refine S.exit ?_
    with_reducible repeat (first | refine S.then_n ?_ | refine S.then_x ?_ | refine S.then_r ?_ | refine S.inBlock_n ?_ | refine S.inBlock_r ?_ | refine S.inBlock_x rfl ?_ | refine S.noGoto_r ?_ | refine S.noGoto_n ?_ | refine S.noGoto_x ?_)
    with_reducible refine S.inBlock_s ?_
    with_reducible repeat (first | refine S.then_n ?_ | refine S.then_x ?_ | refine S.then_r ?_ | refine S.inBlock_n ?_ | refine S.inBlock_r ?_ | refine S.inBlock_x rfl ?_ | refine S.noGoto_r ?_ | refine S.noGoto_n ?_ | refine S.noGoto_x ?_)
    refine hK5 _ _ ?_
    refine S.seq fun K12 hK12 => ?_
    refine S.region rfl ?_
    refine S.op (S.q (q_move rfl) rfl rfl ?_)
    refine S.op (S.call Try.en17 (vs := [_]) ⟨rfl, trivial⟩ (Open_S t 2 3 4 q 0 ov) rfl ?_)
    rintro v Θ ⟨rfl, rfl⟩
    refine S.op (S.q (q_assign rfl) rfl rfl ?_)
    first | with_reducible refine S.nilK ?_ | refine S.nil ?_
    refine hK12 _ _ ?_
    refine S.seq fun K13 hK13 => ?_
    refine S.seq fun K14 hK14 => ?_
    refine S.region rfl ?_
    refine S.op (S.q (q_loadS [_, _, _, _, _, _, _] Try.ag34 rfl rfl ⟨rfl, rfl, rfl, rfl, rfl, rfl, rfl, trivial⟩) rfl rfl ?_)
    refine S.op (S.call Try.en22 (vs := [_]) ⟨rfl, trivial⟩ (few_S n e l s a pl dv ld (old W) (fun Γ w h => hd.old h) hdl (by omega) (by omega)) rfl ?_)
    rintro v Θ ⟨u, rfl, hu, rfl⟩
    refine S.op (S.storeS (cs' := [_, _, _, _, _, _, _]) Try.ag34 rfl rfl rfl rfl rfl rfl ?_)
    first | with_reducible refine S.nilK ?_ | refine S.nil ?_
    refine hK14 _ _ ?_
    refine S.seq fun K15 hK15 => ?_
    refine S.cut (fun ρ' Γ' => ∃ c : Bool, c = mineB 2 3 4 q n e l a pl ∧ ρ' = [(3, .pointer (some ⟨b3, 0, none⟩)), (5, .pointer (some ⟨t, 0, none⟩)), (8, .int .i64 ov.n), (61, .bool c)] ∧ Γ' = obytes u (ld.take (min ld.length 60)) :: blk b3 34 (pkC n e l s a pl u).toArray :: blk t 72 (tk 2 3 4 q 0 ov).toArray :: own ov 76 3 (os.flatMap sltC) :: alls os sltB :: old W :: Γ) ?_ ?_
    · refine S.regionG ?_
      refine S.g_op rfl (S.q (q_field Try.fo34_0 rfl) rfl rfl ?_)
      refine S.g_op rfl (S.q (q_load Try.at5 rfl rfl) rfl rfl ?_)
      refine S.g_op rfl (S.q (q_eq rfl rfl) rfl rfl ?_)
      refine S.g_op rfl (S.q (q_move rfl) rfl rfl ?_)
      by_cases hg12_3 : n = 2
      · refine S.g_yes rfl rfl rfl (decide_eq_true hg12_3) (S.q (q_field Try.fo34_1 rfl) rfl rfl ?_)
        refine S.g_yes rfl rfl rfl (decide_eq_true hg12_3) (S.q (q_load Try.at26 rfl rfl) rfl rfl ?_)
        refine S.g_yes rfl rfl rfl (decide_eq_true hg12_3) (S.q (q_eq rfl rfl) rfl rfl ?_)
        refine S.g_op rfl (S.q (q_pickT rfl (decide_eq_true hg12_3) rfl) rfl rfl ?_)
        refine S.g_op rfl (S.q (q_move rfl) rfl rfl ?_)
        by_cases hg12_8 : e = 3
        · refine S.g_yes rfl rfl rfl (decide_eq_true hg12_8) (S.q (q_field Try.fo34_2 rfl) rfl rfl ?_)
          refine S.g_yes rfl rfl rfl (decide_eq_true hg12_8) (S.q (q_load Try.at26 rfl rfl) rfl rfl ?_)
          refine S.g_yes rfl rfl rfl (decide_eq_true hg12_8) (S.q (q_eq rfl rfl) rfl rfl ?_)
          refine S.g_op rfl (S.q (q_pickT rfl (decide_eq_true hg12_8) rfl) rfl rfl ?_)
          refine S.g_op rfl (S.q (q_move rfl) rfl rfl ?_)
          by_cases hg12_13 : l = 4
          · refine S.g_yes rfl rfl rfl (decide_eq_true hg12_13) (S.q (q_field Try.fo34_5 rfl) rfl rfl ?_)
            refine S.g_yes rfl rfl rfl (decide_eq_true hg12_13) (S.q (q_load Try.at4 rfl rfl) rfl rfl ?_)
            refine S.g_yes rfl rfl rfl (decide_eq_true hg12_13) (S.q (q_not rfl) rfl rfl ?_)
            refine S.g_op rfl (S.q (q_pickT rfl (decide_eq_true hg12_13) rfl) rfl rfl ?_)
            refine S.g_op rfl (S.q (q_move rfl) rfl rfl ?_)
            rcases Bool.eq_false_or_eq_true ((!pl)) with hg12_18 | hg12_18
            · refine S.g_yes rfl rfl rfl (hg12_18) (S.q (q_field Try.fo34_4 rfl) rfl rfl ?_)
              refine S.g_yes rfl rfl rfl (hg12_18) (S.q (q_load Try.at26 rfl rfl) rfl rfl ?_)
              refine S.g_yes rfl rfl rfl (hg12_18) (S.q (q_conv Try.it3 (by rw [Try.underlying26]; rfl) rfl (inI64 (by omega) (by omega))) rfl rfl ?_)
              refine S.g_yes rfl rfl rfl (hg12_18) (S.q (q_move rfl) rfl rfl ?_)
              refine S.g_yes rfl rfl rfl (hg12_18) (S.q (q_le rfl rfl) rfl rfl ?_)
              refine S.g_op rfl (S.q (q_pickT rfl (hg12_18) rfl) rfl rfl ?_)
              first | with_reducible refine S.g_nilK ?_ | refine S.g_nil ?_
              with_reducible repeat (first | refine S.then_n ?_ | refine S.then_x ?_ | refine S.then_r ?_ | refine S.inBlock_n ?_ | refine S.inBlock_r ?_ | refine S.inBlock_x rfl ?_ | refine S.noGoto_r ?_ | refine S.noGoto_n ?_ | refine S.noGoto_x ?_)
              have hqe : (ov.n : Int) = q := by omega
              exact S.meet ⟨_, by simp [mineB, *], rfl, rfl⟩ ⟨rfl, rfl, rfl, rfl, trivial⟩ Sub.ent
            · refine S.g_no rfl rfl rfl (hg12_18) rfl rfl ?_
              refine S.g_no rfl rfl rfl (hg12_18) rfl rfl ?_
              refine S.g_no rfl rfl rfl (hg12_18) rfl rfl ?_
              refine S.g_no rfl rfl rfl (hg12_18) rfl rfl ?_
              refine S.g_no rfl rfl rfl (hg12_18) rfl rfl ?_
              refine S.g_op rfl (S.q (q_pickF rfl (hg12_18) rfl) rfl rfl ?_)
              first | with_reducible refine S.g_nilK ?_ | refine S.g_nil ?_
              with_reducible repeat (first | refine S.then_n ?_ | refine S.then_x ?_ | refine S.then_r ?_ | refine S.inBlock_n ?_ | refine S.inBlock_r ?_ | refine S.inBlock_x rfl ?_ | refine S.noGoto_r ?_ | refine S.noGoto_n ?_ | refine S.noGoto_x ?_)
              have hqe : (ov.n : Int) = q := by omega
              exact S.meet ⟨_, by simp [mineB, *], rfl, rfl⟩ ⟨rfl, rfl, rfl, rfl, trivial⟩ Sub.ent
          · refine S.g_no rfl rfl rfl (decide_eq_false hg12_13) rfl rfl ?_
            refine S.g_no rfl rfl rfl (decide_eq_false hg12_13) rfl rfl ?_
            refine S.g_no rfl rfl rfl (decide_eq_false hg12_13) rfl rfl ?_
            refine S.g_op rfl (S.q (q_pickF rfl (decide_eq_false hg12_13) rfl) rfl rfl ?_)
            refine S.g_op rfl (S.q (q_move rfl) rfl rfl ?_)
            refine S.g_no rfl rfl rfl (rfl) rfl rfl ?_
            refine S.g_no rfl rfl rfl (rfl) rfl rfl ?_
            refine S.g_no rfl rfl rfl (rfl) rfl rfl ?_
            refine S.g_no rfl rfl rfl (rfl) rfl rfl ?_
            refine S.g_no rfl rfl rfl (rfl) rfl rfl ?_
            refine S.g_op rfl (S.q (q_pickF rfl (rfl) rfl) rfl rfl ?_)
            first | with_reducible refine S.g_nilK ?_ | refine S.g_nil ?_
            with_reducible repeat (first | refine S.then_n ?_ | refine S.then_x ?_ | refine S.then_r ?_ | refine S.inBlock_n ?_ | refine S.inBlock_r ?_ | refine S.inBlock_x rfl ?_ | refine S.noGoto_r ?_ | refine S.noGoto_n ?_ | refine S.noGoto_x ?_)
            have hqe : (ov.n : Int) = q := by omega
            exact S.meet ⟨_, by simp [mineB, *], rfl, rfl⟩ ⟨rfl, rfl, rfl, rfl, trivial⟩ Sub.ent
        · refine S.g_no rfl rfl rfl (decide_eq_false hg12_8) rfl rfl ?_
          refine S.g_no rfl rfl rfl (decide_eq_false hg12_8) rfl rfl ?_
          refine S.g_no rfl rfl rfl (decide_eq_false hg12_8) rfl rfl ?_
          refine S.g_op rfl (S.q (q_pickF rfl (decide_eq_false hg12_8) rfl) rfl rfl ?_)
          refine S.g_op rfl (S.q (q_move rfl) rfl rfl ?_)
          refine S.g_no rfl rfl rfl (rfl) rfl rfl ?_
          refine S.g_no rfl rfl rfl (rfl) rfl rfl ?_
          refine S.g_no rfl rfl rfl (rfl) rfl rfl ?_
          refine S.g_op rfl (S.q (q_pickF rfl (rfl) rfl) rfl rfl ?_)
          refine S.g_op rfl (S.q (q_move rfl) rfl rfl ?_)
          refine S.g_no rfl rfl rfl (rfl) rfl rfl ?_
          refine S.g_no rfl rfl rfl (rfl) rfl rfl ?_
          refine S.g_no rfl rfl rfl (rfl) rfl rfl ?_
          refine S.g_no rfl rfl rfl (rfl) rfl rfl ?_
          refine S.g_no rfl rfl rfl (rfl) rfl rfl ?_
          refine S.g_op rfl (S.q (q_pickF rfl (rfl) rfl) rfl rfl ?_)
          first | with_reducible refine S.g_nilK ?_ | refine S.g_nil ?_
          with_reducible repeat (first | refine S.then_n ?_ | refine S.then_x ?_ | refine S.then_r ?_ | refine S.inBlock_n ?_ | refine S.inBlock_r ?_ | refine S.inBlock_x rfl ?_ | refine S.noGoto_r ?_ | refine S.noGoto_n ?_ | refine S.noGoto_x ?_)
          have hqe : (ov.n : Int) = q := by omega
          exact S.meet ⟨_, by simp [mineB, *], rfl, rfl⟩ ⟨rfl, rfl, rfl, rfl, trivial⟩ Sub.ent
      · refine S.g_no rfl rfl rfl (decide_eq_false hg12_3) rfl rfl ?_
        refine S.g_no rfl rfl rfl (decide_eq_false hg12_3) rfl rfl ?_
        refine S.g_no rfl rfl rfl (decide_eq_false hg12_3) rfl rfl ?_
        refine S.g_op rfl (S.q (q_pickF rfl (decide_eq_false hg12_3) rfl) rfl rfl ?_)
        refine S.g_op rfl (S.q (q_move rfl) rfl rfl ?_)
        refine S.g_no rfl rfl rfl (rfl) rfl rfl ?_
        refine S.g_no rfl rfl rfl (rfl) rfl rfl ?_
        refine S.g_no rfl rfl rfl (rfl) rfl rfl ?_
        refine S.g_op rfl (S.q (q_pickF rfl (rfl) rfl) rfl rfl ?_)
        refine S.g_op rfl (S.q (q_move rfl) rfl rfl ?_)
        refine S.g_no rfl rfl rfl (rfl) rfl rfl ?_
        refine S.g_no rfl rfl rfl (rfl) rfl rfl ?_
        refine S.g_no rfl rfl rfl (rfl) rfl rfl ?_
        refine S.g_op rfl (S.q (q_pickF rfl (rfl) rfl) rfl rfl ?_)
        refine S.g_op rfl (S.q (q_move rfl) rfl rfl ?_)
        refine S.g_no rfl rfl rfl (rfl) rfl rfl ?_
        refine S.g_no rfl rfl rfl (rfl) rfl rfl ?_
        refine S.g_no rfl rfl rfl (rfl) rfl rfl ?_
        refine S.g_no rfl rfl rfl (rfl) rfl rfl ?_
        refine S.g_no rfl rfl rfl (rfl) rfl rfl ?_
        refine S.g_op rfl (S.q (q_pickF rfl (rfl) rfl) rfl rfl ?_)
        first | with_reducible refine S.g_nilK ?_ | refine S.g_nil ?_
        with_reducible repeat (first | refine S.then_n ?_ | refine S.then_x ?_ | refine S.then_r ?_ | refine S.inBlock_n ?_ | refine S.inBlock_r ?_ | refine S.inBlock_x rfl ?_ | refine S.noGoto_r ?_ | refine S.noGoto_n ?_ | refine S.noGoto_x ?_)
        have hqe : (ov.n : Int) = q := by omega
        exact S.meet ⟨_, by simp [mineB, *], rfl, rfl⟩ ⟨rfl, rfl, rfl, rfl, trivial⟩ Sub.ent
    · rintro ρ' Γ' ⟨c, hc, rfl, rfl⟩
      refine hK15 _ _ ?_
      refine S.cond rfl (fun h4 => ?_) (fun h4 => ?_)
      · refine S.seq fun K16 hK16 => ?_
        refine S.region rfl ?_
        refine S.op (S.q (q_move rfl) rfl rfl ?_)
        refine S.op (S.q (q_loadS [_, _, _, _, _, _, _] Try.ag34 rfl rfl ⟨rfl, rfl, rfl, rfl, rfl, rfl, rfl, trivial⟩) rfl rfl ?_)
        refine S.op (S.call Try.en23 (vs := [_, _]) ⟨rfl, rfl, trivial⟩ (Mine_S t 2 3 4 q 0 ov n e l s a pl u.v) rfl ?_)
        rintro v Θ ⟨rfl, rfl⟩
        refine S.op (S.q (q_assign rfl) rfl rfl ?_)
        first | with_reducible refine S.nilK ?_ | refine S.nil ?_
        refine hK16 _ _ ?_
        refine S.ret ?_
        with_reducible repeat (first | refine S.then_n ?_ | refine S.then_x ?_ | refine S.then_r ?_ | refine S.inBlock_n ?_ | refine S.inBlock_r ?_ | refine S.inBlock_x rfl ?_ | refine S.noGoto_r ?_ | refine S.noGoto_n ?_ | refine S.noGoto_x ?_)
        exact S.fin (rs := [_]) (vs := [_]) Try.results7 (⟨rfl, trivial⟩)  (⟨by simp only [resV]; rw [← hc, h4], rfl⟩) Sub.ent
      · have hm : mineB 2 3 4 q n e l a pl = false := by rw [← hc, h4]
        refine S.skip ?_
        with_reducible repeat (first | refine S.then_n ?_ | refine S.then_x ?_ | refine S.then_r ?_ | refine S.inBlock_n ?_ | refine S.inBlock_r ?_ | refine S.inBlock_x rfl ?_ | refine S.noGoto_r ?_ | refine S.noGoto_n ?_ | refine S.noGoto_x ?_)
        refine hK13 _ _ ?_
        refine S.seq fun K17 hK17 => ?_
        refine S.region rfl ?_
        refine S.op (S.q (q_move rfl) rfl rfl ?_)
        refine S.op (S.q (q_loadS [_, _, _, _, _, _, _] Try.ag34 rfl rfl ⟨rfl, rfl, rfl, rfl, rfl, rfl, rfl, trivial⟩) rfl rfl ?_)
        refine S.op (S.call Try.en12 (vs := [_, _]) ⟨rfl, rfl, trivial⟩ (HearOther_S t 2 3 4 q 0 ov os n e l s a pl u hm) rfl ?_)
        rintro v Θ ⟨rfl, rfl⟩
        refine S.op (S.q (q_move rfl) rfl rfl ?_)
        refine S.op (S.q (q_extract rfl rfl) rfl rfl ?_)
        refine S.op (S.q (q_extract rfl rfl) rfl rfl ?_)
        refine S.op (S.q (q_extract rfl rfl) rfl rfl ?_)
        refine S.op (S.q (q_extract rfl rfl) rfl rfl ?_)
        refine S.op (S.alloc Try.z34 rfl ?_)
        intro b11
        refine S.op (S.q (q_assign rfl) rfl rfl ?_)
        refine S.op (S.q (q_assign rfl) rfl rfl ?_)
        refine S.op (S.storeS (cs' := [_, _, _, _, _, _, _]) Try.ag34 rfl rfl rfl rfl rfl rfl ?_)
        refine S.op (S.q (q_assign rfl) rfl rfl ?_)
        first | with_reducible refine S.nilK ?_ | refine S.nil ?_
        refine hK17 _ _ ?_
        refine S.seq fun K18 hK18 => ?_
        refine S.regionG ?_
        refine S.g_op rfl (S.q (q_move rfl) rfl rfl ?_)
        refine S.g_op rfl (S.q (q_len Try.underlying32 rfl) rfl rfl ?_)
        refine S.g_op rfl (S.q (q_eq rfl rfl) rfl rfl ?_)
        refine S.g_op rfl (S.q (q_move rfl) rfl rfl ?_)
        refine S.g_yes rfl rfl rfl ((by decide)) (S.q (q_move rfl) rfl rfl ?_)
        refine S.g_yes rfl rfl rfl ((by decide)) (S.q (q_not rfl) rfl rfl ?_)
        refine S.g_op rfl (S.q (q_pickT rfl ((by decide)) rfl) rfl rfl ?_)
        refine S.g_op rfl (S.q (q_move rfl) rfl rfl ?_)
        refine S.g_yes rfl rfl rfl ((by decide)) (S.q (q_move rfl) rfl rfl ?_)
        refine S.g_yes rfl rfl rfl ((by decide)) (S.q (q_not rfl) rfl rfl ?_)
        refine S.g_op rfl (S.q (q_pickT rfl ((by decide)) rfl) rfl rfl ?_)
        refine S.g_op rfl (S.q (q_move rfl) rfl rfl ?_)
        refine S.g_yes rfl rfl rfl ((by decide)) (S.q (q_loadS [_, _, _, _, _, _, _] Try.ag34 rfl rfl ⟨rfl, rfl, rfl, rfl, rfl, rfl, rfl, trivial⟩) rfl rfl ?_)
        refine S.g_yes rfl rfl rfl ((by decide)) (S.q (q_build (pvs := []) [_, _, _, _, _, _, _] Try.z34 Try.p34 trivial rfl) rfl rfl ?_)
        refine S.g_yes rfl rfl rfl ((by decide)) (S.callP Try.en20 (vs := [_, _]) ⟨rfl, rfl, trivial⟩ (fun w hs => SamePacket_P 0 0 0 0 0 false SV.nil [] 0 0 0 0 0 false SV.nil [] w (SlAt.nil _ _) (SlAt.nil _ _) Rng.nil Rng.nil) rfl ?_)
        refine S.g_op rfl (S.q (q_pickT rfl ((by decide)) rfl) rfl rfl ?_)
        refine S.g_op rfl (S.q (q_move rfl) rfl rfl ?_)
        refine S.g_yes rfl rfl rfl ((by decide)) (S.q (q_move rfl) rfl rfl ?_)
        refine S.g_yes rfl rfl rfl ((by decide)) (S.call Try.en17 (vs := [_]) ⟨rfl, trivial⟩ (Open_S t 2 3 4 q 0 ov) rfl ?_)
        rintro v Θ ⟨rfl, rfl⟩
        refine S.g_yes rfl rfl rfl ((by decide)) (S.q (q_move rfl) rfl rfl ?_)
        refine S.g_yes rfl rfl rfl ((by decide)) (S.q (q_eq rfl rfl) rfl rfl ?_)
        refine S.g_op rfl (S.q (q_pickT rfl ((by decide)) rfl) rfl rfl ?_)
        refine S.g_op rfl (S.q (q_move rfl) rfl rfl ?_)
        refine S.g_yes rfl rfl rfl ((decide_eq_true rfl)) (S.q (q_move rfl) rfl rfl ?_)
        refine S.g_yes rfl rfl rfl ((decide_eq_true rfl)) (S.call Try.en26 (vs := [_]) ⟨rfl, trivial⟩ (Heard_S t 2 3 4 q 0 ov) rfl ?_)
        rintro v Θ ⟨rfl, rfl⟩
        refine S.g_yes rfl rfl rfl ((decide_eq_true rfl)) (S.q (q_eq rfl rfl) rfl rfl ?_)
        refine S.g_op rfl (S.q (q_pickT rfl ((decide_eq_true rfl)) rfl) rfl rfl ?_)
        refine S.g_op rfl (S.q (q_move rfl) rfl rfl ?_)
        refine S.g_yes rfl rfl rfl ((by decide)) (S.q (q_move rfl) rfl rfl ?_)
        refine S.g_yes rfl rfl rfl ((by decide)) (S.q (q_loadS [_, _, _, _, _, _, _] Try.ag34 rfl rfl ⟨rfl, rfl, rfl, rfl, rfl, rfl, rfl, trivial⟩) rfl rfl ?_)
        refine S.g_yes rfl rfl rfl ((by decide)) (S.call Try.en23 (vs := [_, _]) ⟨rfl, rfl, trivial⟩ (Mine_S t 2 3 4 q 0 ov n e l s a pl u.v) rfl ?_)
        rintro v Θ ⟨rfl, rfl⟩
        refine S.g_yes rfl rfl rfl ((by decide)) (S.q (q_not rfl) rfl rfl ?_)
        refine S.g_op rfl (S.q (q_pickT rfl ((by decide)) rfl) rfl rfl ?_)
        refine S.g_op rfl (S.q (q_assign rfl) rfl rfl ?_)
        first | with_reducible refine S.g_nilK ?_ | refine S.g_nil ?_
        refine hK18 _ _ ?_
        refine S.ret ?_
        with_reducible repeat (first | refine S.then_n ?_ | refine S.then_x ?_ | refine S.then_r ?_ | refine S.inBlock_n ?_ | refine S.inBlock_r ?_ | refine S.inBlock_x rfl ?_ | refine S.noGoto_r ?_ | refine S.noGoto_n ?_ | refine S.noGoto_x ?_)
        exact S.fin (rs := [_]) (vs := [_]) Try.results7 (⟨rfl, trivial⟩)  (⟨by simp only [resV]; rw [hm]; rfl, rfl⟩) Sub.ent
open Go.ChangeShapes Go.WideShapes Go.ChangeAt
theorem rd_packet {W : World} {cs : List Value} (h : Rd W (.cat 1 (.int .u8) (.cat 1 (.int .u32) (.cat 1 (.int .u32) (.cat 1 (.int .u32) (.cat 1 (.int .u32) (.cat 1 .bool (.cat 1 tsBytes .nil))))))) cs) :
    ∃ n e l s a pl dv ld, cs = pkC n e l s a pl dv ∧ BW W dv ld ∧ (0 ≤ n ∧ n ≤ 255) ∧ (0 ≤ e ∧ e ≤ 4294967295) ∧ (0 ≤ l ∧ l ≤ 4294967295) ∧ (0 ≤ s ∧ s ≤ 4294967295) ∧ (0 ≤ a ∧ a ≤ 4294967295) := by
  obtain ⟨_, _, rfl, _, ⟨n, rfl, hn⟩, _, _, rfl, _, ⟨e, rfl, he⟩, _, _, rfl, _, ⟨l, rfl, hl⟩, _, _, rfl, _, ⟨s, rfl, hs⟩, _, _, rfl, _, ⟨a, rfl, ha⟩, _, _, rfl, _, ⟨pl, rfl⟩, _, _, rfl, _, h7, rfl⟩ := h
  obtain ⟨dv, ld, rfl, hb⟩ := rd_bytes h7
  exact ⟨n, e, l, s, a, pl, dv, ld, rfl, hb, u8_rng hn, u32_rng he, u32_rng hl, u32_rng hs, u32_rng ha⟩
theorem TalkOthers_law {H : Type} (enc : TypeId × Value → H) : LawWalk enc 7 Try.f7 := by
  intro W base args ds before hval hA _ _
  rw [Try.params7] at hA hval
  obtain ⟨v0, vs0, d0, ds0, p0, q0, hargs, rfl, rfl, h0, r0⟩ := trodAll_cons hA
  obtain ⟨v1, vs1, d1, ds1, p1, q1, rfl, rfl, rfl, h1, r1⟩ := trodAll_cons r0
  obtain ⟨rfl, rfl, rfl⟩ := trodAll_nil r1
  obtain rfl : args = #[v0, v1] := by cases args; simp_all
  obtain ⟨s0, rs, e0, hn, hs, hb⟩ := rd_rows (arg_slice 4 Try.underlying28 (by kernel_rfl) (hval 0 28 v0 rfl rfl) h0)
  simp only [List.cons.injEq, and_true] at e0
  subst e0
  obtain ⟨cs, rfl, hcs⟩ := arg_struct 4 Try.underlying34 (by kernel_rfl) (hval 1 34 v1 rfl rfl) h1
  obtain ⟨n, e, l, s, a, pl, dv, ld, rfl, hd, _, _, _, _, ha⟩ := rd_packet hcs
  exact law_run (TalkOthers_S s0 rs n e l s a pl dv ld W hn hs hb hd ha)
set_option maxRecDepth 100000 in
theorem TalkOthers_lifted (os : Os) (started : os.Started) (H : Type) (enc : TypeId × Value → H) :
    ReturnsInHanded {} Try.checked os 7 .any (Rows.talkOthersSpec.pre6 enc Try.prog Try.f7 Rows.talkOthersRow.domain false) (Rows.talkOthersSpec.post enc Try.prog Try.f7 false true false false) :=
  lift_true started Try.func7 (by kernel_rfl)
    (ChangeSpec.witness6 (enc := enc) (C := Try.checked) false ⟨#[], #[.slice none 0 0, .agg #[.int .u8 0, .int .u32 0, .int .u32 0, .int .u32 0, .int .u32 0, .bool false, .slice none 0 0]], []⟩ 8 (by kernel_rfl) (by kernel_rfl) (by kernel_rfl) (by kernel_rfl))
    rfl rfl (by kernel_rfl) (fun ds h => by match ds, h with | [a0, a1], _ => rfl) (TalkOthers_law enc)
theorem TalkOthers_over : Rows.talkOthersRow.holds Try.pinned (OpenSpec.ofChange Rows.talkOthersSpec) :=
  OpenClaim.holds_of_wide 7 Try.f7 rfl rfl rfl rfl rfl rfl rfl ⟨rfl, rfl, rfl, rfl, rfl⟩ rfl rfl rfl rfl rfl (by kernel_rfl) Try.func7 (by kernel_rfl)
    (of_decide_eq_true (by kernel_rfl)) (by unfold Func.isWrapper; rw [if_neg (of_decide_eq_false (by kernel_rfl))]; exact ⟨rfl, rfl⟩)
    (fun os started H enc _ => TalkOthers_lifted os started H enc)
theorem TalkOthers_holds : Rows.TalkOthersSaid := TalkOthers_over
#print axioms TalkOthers_holds
end Go.Proofs.Ytdlddggjjibeaaa
