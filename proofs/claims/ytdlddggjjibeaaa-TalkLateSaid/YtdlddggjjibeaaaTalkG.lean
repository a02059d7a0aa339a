/- The law TalkLate: however late an answer comes, it answers no more than it did. -/
import Derived.Test.YtdlddggjjibeaaaTalkF
namespace Go.Proofs.Ytdlddggjjibeaaa
open Go.RowKit
set_option maxHeartbeats 400000 in
theorem TalkLate_S (s0 s1 : SV) (rs : List BR) (aks : List Int) (W : World) (hn0 : s0.n = rs.length) (h0 : SlAt W s0.v rs.length 1 (rs.flatMap fun r => [r.v.v])) (hr : ∀ r ∈ rs, BW W r.v r.l) (h1 : BW W s1 aks) : LawS 8 [s0.v, s1.v] W := by
  have hm0 := slAt_cap h0
  have hm1 := slAt_cap h1.at_
  have hc1 := h1.at_
  have hl1 := h1.len
  unfold maxLen at hm0 hm1
  refine Spec.of_body Try.func8 rfl Try.ntmps8 rfl ?_
  intro w0 Γ
  show S _ w0 [(0, s0.v), (1, s1.v)] (old W :: Γ) _
  refine S.seq fun K1 hK1 => ?_
  refine S.region rfl ?_
  refine S.op (S.q (q_assign rfl) rfl rfl ?_)
  first | with_reducible refine S.nilK ?_ | refine S.nil ?_
  refine hK1 _ _ ?_
  refine S.seq fun K2 hK2 => ?_
  refine S.seq fun K3 hK3 => ?_
  refine S.region rfl ?_
  refine S.op (S.call Try.en9 (vs := []) trivial (awake_S) rfl ?_)
  rintro v Θ ⟨rfl, rfl⟩
  refine S.op (S.q (q_not rfl) rfl rfl ?_)
  first | with_reducible refine S.nilK ?_ | refine S.nil ?_
  refine hK3 _ _ ?_
  refine S.condF rfl ?_
  refine S.skip ?_
  with_reducible repeat (first | refine S.then_n ?_ | refine S.then_x ?_ | refine S.then_r ?_ | refine S.inBlock_n ?_ | refine S.inBlock_r ?_ | refine S.inBlock_x rfl ?_ | refine S.noGoto_r ?_ | refine S.noGoto_n ?_ | refine S.noGoto_x ?_)
  refine hK2 _ _ ?_
  refine S.seq fun K4 hK4 => ?_
  refine S.region rfl ?_
  refine S.op (S.call Try.en10 (vs := [_, _, _]) ⟨rfl, rfl, rfl, trivial⟩ (New_S 1 2 3) rfl ?_)
  rintro v Θ ⟨t, rfl, rfl⟩
  refine S.op (S.q (q_assign rfl) rfl rfl ?_)
  first | with_reducible refine S.nilK ?_ | refine S.nil ?_
  refine hK4 _ _ ?_
  refine S.seq fun K5 hK5 => ?_
  refine S.region rfl ?_
  refine S.talk0 ?_
  refine S.op (S.q (q_assign rfl) rfl rfl ?_)
  first | with_reducible refine S.nilK ?_ | refine S.nil ?_
  refine hK5 _ _ ?_
  refine S.seq fun K6 hK6 => ?_
  refine S.seq fun K7 hK7 => ?_
  refine S.region rfl ?_
  refine S.op (S.q (q_move rfl) rfl rfl ?_)
  refine S.op (S.q (q_len Try.underlying28 rfl) rfl rfl ?_)
  refine S.op (S.q (q_move rfl) rfl rfl ?_)
  first | with_reducible refine S.nilK ?_ | refine S.nil ?_
  refine hK7 _ _ ?_
  refine S.block ?_
  refine S.loop (fun m ρ' Γ' => ∃ (k : Nat) (q : Int) (ov : SV) (os : List Slt), m + k = rs.length ∧ q = os.length ∧ os.length ≤ 30 ∧ Seqs 0 os ∧ ρ' = [(0, s0.v), (1, s1.v), (5, .pointer (some ⟨t, 0, none⟩)), (6, .int .i64 q), (16, s0.v), (17, .int .i64 s0.n), (18, .int .i64 k)] ∧ Γ' = blk t 72 (tk 1 2 3 q 0 ov).toArray :: own ov 76 3 (os.flatMap sltC) :: alls os sltB :: old W :: Γ) (m := _) (ρ0 := _) (Γ0 := _) (⟨0, 0, SV.nil, [], rfl, rfl, by simp, Seqs.nil _, rfl, rfl⟩) (by repeat (first | exact trivial | refine ⟨rfl, ?_⟩)) Sub.ent ?_
  rintro m ρ' Γ' ⟨k, q, ov, os, hk1, hq, hos, hsq, rfl, rfl⟩
  refine S.seq fun K8 hK8 => ?_
  refine S.region rfl ?_
  refine S.op (S.q (q_lt rfl rfl) rfl rfl ?_)
  first | with_reducible refine S.nilK ?_ | refine S.nil ?_
  refine hK8 _ _ ?_
  refine S.seq fun K9 hK9 => ?_
  refine S.condD rfl (fun h2 => ?_) (fun h2 => ?_)
  · obtain ⟨r, hrk⟩ := getE (l := rs) (i := k) (by omega)
    have hbr := hr r (List.mem_of_getElem? hrk)
    have hcr := slAt_cap hbr.at_
    have hlr := hbr.len
    unfold maxLen at hcr
    obtain ⟨b, off, hb, hcell⟩ := slAt_some h0 (by omega)
    refine S.skip ?_
    with_reducible repeat (first | refine S.then_n ?_ | refine S.then_x ?_ | refine S.then_r ?_ | refine S.inBlock_n ?_ | refine S.inBlock_r ?_ | refine S.inBlock_x rfl ?_ | refine S.noGoto_r ?_ | refine S.noGoto_n ?_ | refine S.noGoto_x ?_)
    refine hK9 _ _ ?_
    refine S.seq fun K10 hK10 => ?_
    refine S.block ?_
    refine S.seq fun K11 hK11 => ?_
    refine S.region rfl ?_
    refine S.op (S.q (q_indexO (k) Try.el28 rfl hb rfl rfl (by omega)) rfl rfl ?_)
    refine S.op (S.q (q_loadW Try.at32 rfl (hcell _ _ (rows_get hrk))) rfl rfl ?_)
    refine S.op (S.q (q_assign rfl) rfl rfl ?_)
    first | with_reducible refine S.nilK ?_ | refine S.nil ?_
    refine hK11 _ _ ?_
    refine S.seq fun K12 hK12 => ?_
    refine S.region rfl ?_
    refine S.op (S.q (q_move rfl) rfl rfl ?_)
    refine S.op (S.q (q_lt rfl rfl) rfl rfl ?_)
    first | with_reducible refine S.nilK ?_ | refine S.nil ?_
    refine hK12 _ _ ?_
    refine S.condD rfl (fun h3 => ?_) (fun h3 => ?_)
    · have hlate : os.length < 30 := by omega
      refine S.seq fun K13 hK13 => ?_
      refine S.region rfl ?_
      refine S.op (S.q (q_move rfl) rfl rfl ?_)
      refine S.op (S.q (q_move rfl) rfl rfl ?_)
      refine S.op (S.q (q_move rfl) rfl rfl ?_)
      refine S.op (S.q (q_len Try.underlying32 rfl) rfl rfl ?_)
      refine S.op (S.q (q_min (((min r.l.length 20 : Nat) : Int)) rfl rfl (by omega)) rfl rfl ?_)
      refine S.op (S.q (q_sliceTo (min r.l.length 20) Try.el32 rfl rfl rfl (by omega)) rfl rfl ?_)
      refine S.op (S.call Try.en15 (vs := [_, _]) ⟨rfl, rfl, trivial⟩ (Say_S t 1 2 3 q 0 ov os ⟨r.v.a, min r.l.length 20, r.v.c⟩ (r.l.take (min r.l.length 20)) (old W) (fun Γ w h => (hbr.take _ (by omega)).old h) (by simp only [List.length_take]; omega) (by simp only [List.length_take]; omega) (by omega) (by omega) (by omega)) rfl ?_)
      rintro v Θ ⟨s, ov', u, rfl, hs, rfl⟩
      first | with_reducible refine S.nilK ?_ | refine S.nil ?_
      refine hK13 _ _ ?_
      refine S.region rfl ?_
      refine S.op (S.q (q_move rfl) rfl rfl ?_)
      refine S.op (S.q (q_add rfl rfl (inI64 (by omega) (by omega))) rfl rfl ?_)
      refine S.op (S.q (q_assign rfl) rfl rfl ?_)
      first | with_reducible refine S.nilK ?_ | refine S.nil ?_
      with_reducible repeat (first | refine S.then_n ?_ | refine S.then_x ?_ | refine S.then_r ?_ | refine S.inBlock_n ?_ | refine S.inBlock_r ?_ | refine S.inBlock_x rfl ?_ | refine S.noGoto_r ?_ | refine S.noGoto_n ?_ | refine S.noGoto_x ?_)
      refine hK10 _ _ ?_
      refine S.region rfl ?_
      refine S.op (S.q (q_add rfl rfl (inI64 (by omega) (by omega))) rfl rfl ?_)
      refine S.op (S.q (q_move rfl) rfl rfl ?_)
      first | with_reducible refine S.nilK ?_ | refine S.nil ?_
      with_reducible repeat (first | refine S.then_n ?_ | refine S.then_x ?_ | refine S.then_r ?_ | refine S.inBlock_n ?_ | refine S.inBlock_r ?_ | refine S.inBlock_x rfl ?_ | refine S.noGoto_r ?_ | refine S.noGoto_n ?_ | refine S.noGoto_x ?_)
      first
      | exact S.next (rs.length - (k + 1)) ⟨k + 1, q + 1, ov', os ++ [⟨q + 1, r.l.take (min r.l.length 20), 0, u⟩], by omega, by rw [hq]; simp, by simp; omega, hsq.snoc _ (by simp only; omega), rfl, rfl⟩ (by omega) (by repeat (first | exact trivial | refine ⟨rfl, ?_⟩)) Sub.ent
      | exact S.next (rs.length - (k + 1)) ⟨k + 1, q, ov, os, by omega, hq, by omega, hsq, rfl, rfl⟩ (by omega) (by repeat (first | exact trivial | refine ⟨rfl, ?_⟩)) Sub.ent
    · refine S.skip ?_
      with_reducible repeat (first | refine S.then_n ?_ | refine S.then_x ?_ | refine S.then_r ?_ | refine S.inBlock_n ?_ | refine S.inBlock_r ?_ | refine S.inBlock_x rfl ?_ | refine S.noGoto_r ?_ | refine S.noGoto_n ?_ | refine S.noGoto_x ?_)
      with_reducible repeat (first | refine S.then_n ?_ | refine S.then_x ?_ | refine S.then_r ?_ | refine S.inBlock_n ?_ | refine S.inBlock_r ?_ | refine S.inBlock_x rfl ?_ | refine S.noGoto_r ?_ | refine S.noGoto_n ?_ | refine S.noGoto_x ?_)
      refine hK10 _ _ ?_
      refine S.region rfl ?_
      refine S.op (S.q (q_add rfl rfl (inI64 (by omega) (by omega))) rfl rfl ?_)
      refine S.op (S.q (q_move rfl) rfl rfl ?_)
      first | with_reducible refine S.nilK ?_ | refine S.nil ?_
      with_reducible repeat (first | refine S.then_n ?_ | refine S.then_x ?_ | refine S.then_r ?_ | refine S.inBlock_n ?_ | refine S.inBlock_r ?_ | refine S.inBlock_x rfl ?_ | refine S.noGoto_r ?_ | refine S.noGoto_n ?_ | refine S.noGoto_x ?_)
      first
      | exact S.next (rs.length - (k + 1)) ⟨k + 1, q + 1, ov', os ++ [⟨q + 1, r.l.take (min r.l.length 20), 0, u⟩], by omega, by rw [hq]; simp, by simp; omega, hsq.snoc _ (by simp only; omega), rfl, rfl⟩ (by omega) (by repeat (first | exact trivial | refine ⟨rfl, ?_⟩)) Sub.ent
      | exact S.next (rs.length - (k + 1)) ⟨k + 1, q, ov, os, by omega, hq, by omega, hsq, rfl, rfl⟩ (by omega) (by repeat (first | exact trivial | refine ⟨rfl, ?_⟩)) Sub.ent
  · refine S.exit ?_
    with_reducible repeat (first | refine S.then_n ?_ | refine S.then_x ?_ | refine S.then_r ?_ | refine S.inBlock_n ?_ | refine S.inBlock_r ?_ | refine S.inBlock_x rfl ?_ | refine S.noGoto_r ?_ | refine S.noGoto_n ?_ | refine S.noGoto_x ?_)
    with_reducible refine S.inBlock_s ?_
    with_reducible repeat (first | refine S.then_n ?_ | refine S.then_x ?_ | refine S.then_r ?_ | refine S.inBlock_n ?_ | refine S.inBlock_r ?_ | refine S.inBlock_x rfl ?_ | refine S.noGoto_r ?_ | refine S.noGoto_n ?_ | refine S.noGoto_x ?_)
    refine hK6 _ _ ?_
    refine S.seq fun K14 hK14 => ?_
    refine S.region rfl ?_
    refine S.op (S.q (q_assign rfl) rfl rfl ?_)
    first | with_reducible refine S.nilK ?_ | refine S.nil ?_
    refine hK14 _ _ ?_
    refine S.seq fun K15 hK15 => ?_
    refine S.seq fun K16 hK16 => ?_
    refine S.region rfl ?_
    refine S.op (S.q (q_move rfl) rfl rfl ?_)
    refine S.op (S.q (q_len Try.underlying32 rfl) rfl rfl ?_)
    refine S.op (S.q (q_move rfl) rfl rfl ?_)
    first | with_reducible refine S.nilK ?_ | refine S.nil ?_
    refine hK16 _ _ ?_
    refine S.block ?_
    refine S.loop (fun m ρ' Γ' => ∃ (k : Nat) (bst : Int) (ov2 : SV) (os2 : List Slt), m + k = aks.length ∧ 0 ≤ bst ∧ (os2.length : Int) = q - bst ∧ Seqs bst os2 ∧ ρ' = [(0, s0.v), (1, s1.v), (5, .pointer (some ⟨t, 0, none⟩)), (6, .int .i64 q), (9, .int .i64 bst), (34, s1.v), (35, .int .i64 s1.n), (36, .int .i64 k)] ∧ Γ' = blk t 72 (tk 1 2 3 q 0 ov2).toArray :: own ov2 76 3 (os2.flatMap sltC) :: alls os2 sltB :: old W :: Γ) (m := _) (ρ0 := _) (Γ0 := _) (⟨0, 0, ov, os, rfl, by omega, by omega, hsq, rfl, rfl⟩) (by repeat (first | exact trivial | refine ⟨rfl, ?_⟩)) Sub.ent ?_
    rintro m ρ' Γ' ⟨k2, bst, ov2, os2, hk2, hb0, hos2, hsq2, rfl, rfl⟩
    refine S.seq fun K17 hK17 => ?_
    refine S.region rfl ?_
    refine S.op (S.q (q_lt rfl rfl) rfl rfl ?_)
    first | with_reducible refine S.nilK ?_ | refine S.nil ?_
    refine hK17 _ _ ?_
    refine S.seq fun K18 hK18 => ?_
    refine S.condD rfl (fun h4 => ?_) (fun h4 => ?_)
    · obtain ⟨a, hak⟩ := getE (l := aks) (i := k2) (by omega)
      have har := h1.rng a (List.mem_of_getElem? hak)
      obtain ⟨b, off, hb, hcell⟩ := slAt_some hc1 (by omega)
      have hmod : 0 ≤ a % (q + 1) ∧ a % (q + 1) ≤ q := by have := Int.emod_nonneg a (b := q + 1) (by omega); have := Int.emod_lt_of_pos a (b := q + 1) (by omega); omega
      refine S.skip ?_
      with_reducible repeat (first | refine S.then_n ?_ | refine S.then_x ?_ | refine S.then_r ?_ | refine S.inBlock_n ?_ | refine S.inBlock_r ?_ | refine S.inBlock_x rfl ?_ | refine S.noGoto_r ?_ | refine S.noGoto_n ?_ | refine S.noGoto_x ?_)
      refine hK18 _ _ ?_
      refine S.seq fun K19 hK19 => ?_
      refine S.block ?_
      refine S.seq fun K20 hK20 => ?_
      refine S.region rfl ?_
      refine S.op (S.q (q_move rfl) rfl rfl ?_)
      refine S.op (S.q (q_indexO (k2) Try.el32 rfl hb rfl rfl (by omega)) rfl rfl ?_)
      refine S.op (S.q (q_loadW Try.at5 rfl (hcell _ _ (by have := hak; unfold bcells; rw [Nat.mul_one, List.getElem?_map, this]; rfl))) rfl rfl ?_)
      refine S.op (S.q (q_assign rfl) rfl rfl ?_)
      refine S.op (S.q (q_assign rfl) rfl rfl ?_)
      first | with_reducible refine S.nilK ?_ | refine S.nil ?_
      refine hK20 _ _ ?_
      refine S.seq fun K21 hK21 => ?_
      refine S.seq fun K22 hK22 => ?_
      refine S.region rfl ?_
      refine S.op (S.q (q_move rfl) rfl rfl ?_)
      refine S.op (S.q (q_ge rfl rfl) rfl rfl ?_)
      first | with_reducible refine S.nilK ?_ | refine S.nil ?_
      refine hK22 _ _ ?_
      refine S.condD rfl (fun h5 => ?_) (fun h5 => ?_)
      · refine S.exit ?_
        with_reducible repeat (first | refine S.then_n ?_ | refine S.then_x ?_ | refine S.then_r ?_ | refine S.inBlock_n ?_ | refine S.inBlock_r ?_ | refine S.inBlock_x rfl ?_ | refine S.noGoto_r ?_ | refine S.noGoto_n ?_ | refine S.noGoto_x ?_)
        with_reducible refine S.inBlock_s ?_
        with_reducible repeat (first | refine S.then_n ?_ | refine S.then_x ?_ | refine S.then_r ?_ | refine S.inBlock_n ?_ | refine S.inBlock_r ?_ | refine S.inBlock_x rfl ?_ | refine S.noGoto_r ?_ | refine S.noGoto_n ?_ | refine S.noGoto_x ?_)
        refine hK15 _ _ ?_
        refine S.seq fun K23 hK23 => ?_
        refine S.region rfl ?_
        refine S.op (S.q (q_assign rfl) rfl rfl ?_)
        first | with_reducible refine S.nilK ?_ | refine S.nil ?_
        refine hK23 _ _ ?_
        refine S.ret ?_
        with_reducible repeat (first | refine S.then_n ?_ | refine S.then_x ?_ | refine S.then_r ?_ | refine S.inBlock_n ?_ | refine S.inBlock_r ?_ | refine S.inBlock_x rfl ?_ | refine S.noGoto_r ?_ | refine S.noGoto_n ?_ | refine S.noGoto_x ?_)
        exact S.fin (rs := [_]) (vs := [_]) Try.results8 (⟨rfl, trivial⟩)  (⟨rfl, rfl⟩) Sub.ent
      · refine S.skip ?_
        with_reducible repeat (first | refine S.then_n ?_ | refine S.then_x ?_ | refine S.then_r ?_ | refine S.inBlock_n ?_ | refine S.inBlock_r ?_ | refine S.inBlock_x rfl ?_ | refine S.noGoto_r ?_ | refine S.noGoto_n ?_ | refine S.noGoto_x ?_)
        refine hK21 _ _ ?_
        refine S.seq fun K24 hK24 => ?_
        refine S.region rfl ?_
        refine S.op (S.q (q_move rfl) rfl rfl ?_)
        refine S.op (S.q (q_conv Try.it3 (by rw [Try.underlying5]; rfl) rfl (inI64 (by omega) (by omega))) rfl rfl ?_)
        refine S.op (S.q (q_move rfl) rfl rfl ?_)
        refine S.op (S.q (q_add rfl rfl (inI64 (by omega) (by omega))) rfl rfl ?_)
        refine S.op (S.q (q_rem rfl rfl (⟨by omega, by omega⟩)) rfl rfl ?_)
        refine S.op (S.q (q_assign rfl) rfl rfl ?_)
        first | with_reducible refine S.nilK ?_ | refine S.nil ?_
        refine hK24 _ _ ?_
        refine S.seq fun K25 hK25 => ?_
        refine S.region rfl ?_
        refine S.op (S.q (q_move rfl) rfl rfl ?_)
        refine S.op (S.q (q_move rfl) rfl rfl ?_)
        refine S.op (S.q (q_conv Try.it26 (by rw [Try.underlying3]; rfl) rfl (inU32 (by omega) (by omega))) rfl rfl ?_)
        refine S.op (S.q (q_build (pvs := [(_, _), (_, _), (_, _), (_, _)]) [_, _, _, _, _, _, _] Try.z34 Try.p34 ⟨⟨rfl, rfl⟩, ⟨rfl, rfl⟩, ⟨rfl, rfl⟩, ⟨rfl, rfl⟩, trivial⟩ rfl) rfl rfl ?_)
        refine S.op (S.call Try.en12 (vs := [_, _]) ⟨rfl, rfl, trivial⟩ (HearZero_S t 1 2 3 q 0 ov2 os2 1 2 3 0 (a % (q + 1)) false SV.nil (by simp [mineB]; omega) rfl) rfl ?_)
        rintro v Θ ⟨ov3, rfl, rfl⟩
        have hans := hsq2.ans (a := a % (q + 1)) (by omega)
        have hal : (ans (a % (q + 1)) os2).length = os2.length - (a % (q + 1) - bst).toNat := by rw [hans, List.length_drop]
        have hsq3 : Seqs (max bst (a % (q + 1))) (ans (a % (q + 1)) os2) := by
          rw [hans]
          have := hsq2.drop (a % (q + 1) - bst).toNat
          rwa [show bst + ((a % (q + 1) - bst).toNat : Int) = max bst (a % (q + 1)) by omega] at this
        refine S.ownLen ov3 fun hlen3 _ _ => ?_
        rw [flat_length sltC_len] at hlen3
        first | with_reducible refine S.nilK ?_ | refine S.nil ?_
        refine hK25 _ _ ?_
        refine S.seq fun K26 hK26 => ?_
        refine S.region rfl ?_
        refine S.op (S.q (q_move rfl) rfl rfl ?_)
        refine S.op (S.q (q_move rfl) rfl rfl ?_)
        refine S.op (S.q (q_max (max bst (a % (q + 1))) rfl rfl (by omega)) rfl rfl ?_)
        refine S.op (S.q (q_assign rfl) rfl rfl ?_)
        first | with_reducible refine S.nilK ?_ | refine S.nil ?_
        refine hK26 _ _ ?_
        refine S.seq fun K27 hK27 => ?_
        refine S.regionG ?_
        refine S.g_op rfl (S.q (q_move rfl) rfl rfl ?_)
        refine S.g_op rfl (S.call Try.en17 (vs := [_]) ⟨rfl, trivial⟩ (Open_S t 1 2 3 q 0 ov3) rfl ?_)
        rintro v Θ ⟨rfl, rfl⟩
        refine S.g_op rfl (S.q (q_move rfl) rfl rfl ?_)
        refine S.g_op rfl (S.q (q_move rfl) rfl rfl ?_)
        refine S.g_op rfl (S.q (q_sub rfl rfl (inI64 (by omega) (by omega))) rfl rfl ?_)
        refine S.g_op rfl (S.q (q_ne rfl rfl) rfl rfl ?_)
        refine S.g_op rfl (S.q (q_move rfl) rfl rfl ?_)
        refine S.g_yes rfl rfl rfl ((decide_eq_false (by omega))) (S.q (q_move rfl) rfl rfl ?_)
        refine S.g_yes rfl rfl rfl ((decide_eq_false (by omega))) (S.call Try.en26 (vs := [_]) ⟨rfl, trivial⟩ (Heard_S t 1 2 3 q 0 ov3) rfl ?_)
        rintro v Θ ⟨rfl, rfl⟩
        refine S.g_yes rfl rfl rfl ((decide_eq_false (by omega))) (S.q (q_ne rfl rfl) rfl rfl ?_)
        refine S.g_op rfl (S.q (q_pickF rfl ((decide_eq_false (by omega))) rfl) rfl rfl ?_)
        first | with_reducible refine S.g_nilK ?_ | refine S.g_nil ?_
        refine hK27 _ _ ?_
        refine S.condD rfl (fun h6 => ?_) (fun h6 => ?_)
        · exact absurd rfl h6
        · refine S.skip ?_
          with_reducible repeat (first | refine S.then_n ?_ | refine S.then_x ?_ | refine S.then_r ?_ | refine S.inBlock_n ?_ | refine S.inBlock_r ?_ | refine S.inBlock_x rfl ?_ | refine S.noGoto_r ?_ | refine S.noGoto_n ?_ | refine S.noGoto_x ?_)
          with_reducible repeat (first | refine S.then_n ?_ | refine S.then_x ?_ | refine S.then_r ?_ | refine S.inBlock_n ?_ | refine S.inBlock_r ?_ | refine S.inBlock_x rfl ?_ | refine S.noGoto_r ?_ | refine S.noGoto_n ?_ | refine S.noGoto_x ?_)
          refine hK19 _ _ ?_
          refine S.region rfl ?_
          refine S.op (S.q (q_add rfl rfl (inI64 (by omega) (by omega))) rfl rfl ?_)
          refine S.op (S.q (q_move rfl) rfl rfl ?_)
          first | with_reducible refine S.nilK ?_ | refine S.nil ?_
          with_reducible repeat (first | refine S.then_n ?_ | refine S.then_x ?_ | refine S.then_r ?_ | refine S.inBlock_n ?_ | refine S.inBlock_r ?_ | refine S.inBlock_x rfl ?_ | refine S.noGoto_r ?_ | refine S.noGoto_n ?_ | refine S.noGoto_x ?_)
          exact S.next (aks.length - (k2 + 1)) (⟨k2 + 1, max bst (a % (q + 1)), ov3, ans (a % (q + 1)) os2, by omega, by omega, by omega, hsq3, rfl, rfl⟩) (by omega) (by repeat (first | exact trivial | refine ⟨rfl, ?_⟩)) Sub.ent
    · refine S.exit ?_
      with_reducible repeat (first | refine S.then_n ?_ | refine S.then_x ?_ | refine S.then_r ?_ | refine S.inBlock_n ?_ | refine S.inBlock_r ?_ | refine S.inBlock_x rfl ?_ | refine S.noGoto_r ?_ | refine S.noGoto_n ?_ | refine S.noGoto_x ?_)
      with_reducible refine S.inBlock_s ?_
      with_reducible repeat (first | refine S.then_n ?_ | refine S.then_x ?_ | refine S.then_r ?_ | refine S.inBlock_n ?_ | refine S.inBlock_r ?_ | refine S.inBlock_x rfl ?_ | refine S.noGoto_r ?_ | refine S.noGoto_n ?_ | refine S.noGoto_x ?_)
      refine hK15 _ _ ?_
      refine S.seq fun K28 hK28 => ?_
      refine S.region rfl ?_
      refine S.op (S.q (q_assign rfl) rfl rfl ?_)
      first | with_reducible refine S.nilK ?_ | refine S.nil ?_
      refine hK28 _ _ ?_
      refine S.ret ?_
      with_reducible repeat (first | refine S.then_n ?_ | refine S.then_x ?_ | refine S.then_r ?_ | refine S.inBlock_n ?_ | refine S.inBlock_r ?_ | refine S.inBlock_x rfl ?_ | refine S.noGoto_r ?_ | refine S.noGoto_n ?_ | refine S.noGoto_x ?_)
      exact S.fin (rs := [_]) (vs := [_]) Try.results8 (⟨rfl, trivial⟩)  (⟨rfl, rfl⟩) Sub.ent
open Go.ChangeShapes Go.WideShapes Go.ChangeAt
theorem TalkLate_law {H : Type} (enc : TypeId × Value → H) : LawWalk enc 8 Try.f8 := by
  intro W base args ds before hval hA _ _
  rw [Try.params8] at hA hval
  obtain ⟨v0, vs0, d0, ds0, p0, q0, hargs, rfl, rfl, h0, r0⟩ := trodAll_cons hA
  obtain ⟨v1, vs1, d1, ds1, p1, q1, rfl, rfl, rfl, h1, r1⟩ := trodAll_cons r0
  obtain ⟨rfl, rfl, rfl⟩ := trodAll_nil r1
  obtain rfl : args = #[v0, v1] := by cases args; simp_all
  obtain ⟨s0, rs, e0, hn, hs, hb⟩ := rd_rows (arg_slice 4 Try.underlying28 (by kernel_rfl) (hval 0 28 v0 rfl rfl) h0)
  obtain ⟨s1, aks, e1, hb1⟩ := rd_bytes (arg_slice 4 Try.underlying32 (by kernel_rfl) (hval 1 32 v1 rfl rfl) h1)
  simp only [List.cons.injEq, and_true] at e0 e1
  subst e0 e1
  exact law_run (TalkLate_S s0 s1 rs aks W hn hs hb hb1)
set_option maxRecDepth 100000 in
theorem TalkLate_lifted (os : Os) (started : os.Started) (H : Type) (enc : TypeId × Value → H) :
    ReturnsInHanded {} Try.checked os 8 .any (Rows.talkLateSpec.pre6 enc Try.prog Try.f8 Rows.talkLateRow.domain false) (Rows.talkLateSpec.post enc Try.prog Try.f8 false true false false) :=
  lift_true started Try.func8 (by kernel_rfl)
    (ChangeSpec.witness6 (enc := enc) (C := Try.checked) false ⟨#[], #[.slice none 0 0, .slice none 0 0], []⟩ 8 (by kernel_rfl) (by kernel_rfl) (by kernel_rfl) (by kernel_rfl))
    rfl rfl (by kernel_rfl) (fun ds h => by match ds, h with | [a0, a1], _ => rfl) (TalkLate_law enc)
theorem TalkLate_over : Rows.talkLateRow.holds Try.pinned (OpenSpec.ofChange Rows.talkLateSpec) :=
  OpenClaim.holds_of_wide 8 Try.f8 rfl rfl rfl rfl rfl rfl rfl ⟨rfl, rfl, rfl, rfl, rfl⟩ rfl rfl rfl rfl rfl (by kernel_rfl) Try.func8 (by kernel_rfl)
    (of_decide_eq_true (by kernel_rfl)) (by unfold Func.isWrapper; rw [if_neg (of_decide_eq_false (by kernel_rfl))]; exact ⟨rfl, rfl⟩)
    (fun os started H enc _ => TalkLate_lifted os started H enc)
theorem TalkLate_holds : Rows.TalkLateSaid := TalkLate_over
#print axioms TalkLate_holds
end Go.Proofs.Ytdlddggjjibeaaa
