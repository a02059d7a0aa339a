/- VictimFew: no row could do with fewer. -/
import Derived.Test.YtbhnbnecaejjiaaDoorVicF
namespace Go.Proofs.YtbhnbnecaejjiaaDoor
open Go.RowKit
set_option maxRecDepth 20000
/-- Is there one among the first i rows? -/
def anyUp (m : Mx) (tier k : Int) (l : List Cd) : Nat → Bool
  | 0 => false
  | i + 1 => anyUp m tier k l i || (ofV m (i : Nat) tier k l).2
theorem cmpV_le {v w : List Cd} (h : w.length < v.length) : ¬ cmpV v w < 0 := by
  unfold cmpV orI cmpI
  rw [if_neg (show ¬ ((v.length : Int) < w.length) by omega), if_pos (show ((w.length : Int) < v.length) by omega)]
  simp
theorem chUp_few (m : Mx) (tier k : Int) (l : List Cd) : ∀ i, (chUp m tier k l i).2.2 = anyUp m tier k l i ∧ ∀ r, r < i → (ofV m (r : Nat) tier k l).2 = true → (chUp m tier k l i).1.length ≤ (ofV m (r : Nat) tier k l).1.length
  | 0 => ⟨rfl, fun r hr => by omega⟩
  | i + 1 => by
    obtain ⟨h1, h2⟩ := chUp_few m tier k l i
    rw [chUp, anyUp]
    by_cases h : ((ofV m (i : Nat) tier k l).2 && (!(chUp m tier k l i).2.2 || decide (cmpV (ofV m (i : Nat) tier k l).1 (chUp m tier k l i).1 < 0))) = true
    · rw [if_pos h]
      rw [Bool.and_eq_true, Bool.or_eq_true, decide_eq_true_eq] at h
      refine ⟨by rw [h.1]; simp, fun r hr hv => ?_⟩
      show (ofV m (i : Nat) tier k l).1.length ≤ _
      by_cases e : r = i
      · subst e; exact Nat.le_refl _
      · have h3 := h2 r (by omega) hv
        rcases h.2 with h4 | h4
        · have h5 : (chUp m tier k l i).2.2 = false := by simpa using h4
          have h6 := ((chUp_inv m tier k l i).2 h5).2 r (by omega)
          rw [hv] at h6
          cases h6
        · rcases Nat.lt_or_ge (chUp m tier k l i).1.length (ofV m (i : Nat) tier k l).1.length with h5 | h5
          · exact absurd h4 (cmpV_le h5)
          · omega
    · rw [if_neg h]
      cases hv : (ofV m (i : Nat) tier k l).2 with
      | false =>
        refine ⟨by rw [h1, Bool.or_false], fun r hr hr2 => ?_⟩
        by_cases e : r = i
        · subst e; rw [hv] at hr2; cases hr2
        · exact h2 r (by omega) hr2
      | true =>
        rw [hv, Bool.true_and] at h
        have h3 : (chUp m tier k l i).2.2 = true := by
          cases e : (chUp m tier k l i).2.2 with
          | true => rfl
          | false => rw [e] at h; simp at h
        rw [h3] at h
        refine ⟨by rw [h3]; simp, fun r hr hr2 => ?_⟩
        by_cases e : r = i
        · subst e
          rcases Nat.lt_or_ge (ofV m (r : Nat) tier k l).1.length (chUp m tier k l r).1.length with h5 | h5
          · exact absurd (by rw [decide_eq_true (cmpV_less h5)]; rfl) h
          · exact h5
        · exact h2 r (by omega) hr2
theorem anyUp_true {m : Mx} {tier k : Int} {l : List Cd} {r : Nat} (h : (ofV m (r : Nat) tier k l).2 = true) : ∀ i, r < i → anyUp m tier k l i = true
  | 0, hi => by omega
  | i + 1, hi => by
    rw [anyUp]
    by_cases e : r = i
    · subst e; rw [h]; simp
    · rw [anyUp_true h i (by omega)]; rfl
theorem VictimFew_S (r n t k : Int) (d : Bs) (l : List Vd) (s : SV) (hr : 0 ≤ r ∧ r ≤ 255) (hn : 0 ≤ n ∧ n ≤ 255) (hk : 0 ≤ k ∧ k ≤ 255) {W : World} (hW : TabW W) (hs : VW W s l) : LawS 11 [.int .u8 r, .int .u8 n, s.v, bsv d, .int .u8 t, .int .u8 k] W := by
  refine Spec.of_body Tryd.func11 rfl Tryd.ntmps11 rfl ?_
  intro w0 Γ
  show S _ w0 [(0, .int .u8 r), (1, .int .u8 n), (2, s.v), (3, bsv d), (4, .int .u8 t), (5, .int .u8 k)] (old W :: Γ) _
  obtain ⟨m, hm⟩ : ∃ m, m = bldR r n l d := ⟨_, rfl⟩
  obtain ⟨hok, hmR⟩ := bldR_ok r n l d
  rw [← hm] at hok hmR
  have hR8 := hok.R8
  obtain ⟨ask, hask⟩ : ∃ ask, ask = 1 + k % 16 := ⟨_, rfl⟩
  have hask1 : 1 ≤ ask ∧ ask ≤ 16 := by omega
  obtain ⟨cl, hcl⟩ : ∃ cl, cl = cdR l := ⟨_, rfl⟩
  have hcl40 : cl.length ≤ 40 := by rw [hcl, cdR]; have := cdUp_len l (min l.length 40); omega
  have hct : ∀ x ∈ cl, 0 ≤ x.2 ∧ x.2 ≤ 255 := by rw [hcl]; exact cdUp_tier hs.rng _ (by omega)
  obtain ⟨best, row, found, hch⟩ : ∃ best row found, choR m t ask cl = (best, row, found) := ⟨_, _, _, rfl⟩
  obtain ⟨hf1, hf2⟩ := chUp_few m t ask cl m.R
  have hch2 : chUp m t ask cl m.R = (best, row, found) := hch
  rw [hch2] at hf1 hf2
  simp only at hf1 hf2
  refine S.seq fun K1 hK1 => ?_
  refine S.region rfl ?_
  refine S.op (S.q (q_assign rfl) rfl rfl ?_)
  first | with_reducible refine S.nilK ?_ | refine S.nil ?_
  refine hK1 _ _ ?_
  refine S.seq fun K2 hK2 => ?_
  refine S.seq fun K3 hK3 => ?_
  refine S.region rfl ?_
  refine S.op (S.call Tryd.en31 (vs := []) trivial (awake_S hW) rfl ?_)
  rintro v Θ ⟨rfl, rfl⟩
  refine S.op (S.q (q_not rfl) rfl rfl ?_)
  first | with_reducible refine S.nilK ?_ | refine S.nil ?_
  refine hK3 _ _ ?_
  refine S.condF rfl ?_
  refine S.skip ?_
  with_reducible repeat (first | refine S.then_n ?_ | refine S.then_x ?_ | refine S.then_r ?_ | refine S.inBlock_n ?_ | refine S.inBlock_r ?_ | refine S.inBlock_x rfl ?_ | refine S.noGoto_r ?_ | refine S.noGoto_n ?_ | refine S.noGoto_x ?_)
  refine hK2 _ _ ?_
  refine S.seq fun K4 hK4 => ?_
  refine S.region rfl ?_
  refine S.op (S.q (q_move rfl) rfl rfl ?_)
  refine S.op (S.q (q_move rfl) rfl rfl ?_)
  refine S.op (S.q (q_move rfl) rfl rfl ?_)
  refine S.op (S.q (q_move rfl) rfl rfl ?_)
  refine S.op (S.call Tryd.en32 (vs := [_, _, _, _]) ⟨rfl, rfl, rfl, rfl, trivial⟩ (build_S r n l d s hr hn hs) rfl ?_)
  rintro v Θ ⟨b, c, p, q, rfl, hp, hq, rfl⟩
  rw [← hm, ← hcl] at *
  refine S.op (S.q (q_move rfl) rfl rfl ?_)
  refine S.op (S.q (q_extract rfl rfl) rfl rfl ?_)
  refine S.op (S.q (q_extract rfl rfl) rfl rfl ?_)
  refine S.op (S.q (q_extract rfl rfl) rfl rfl ?_)
  refine S.op (S.q (q_extract rfl rfl) rfl rfl ?_)
  refine S.op (S.q (q_assign rfl) rfl rfl ?_)
  refine S.op (S.q (q_assign rfl) rfl rfl ?_)
  refine S.op (S.q (q_assign rfl) rfl rfl ?_)
  refine S.op (S.q (q_assign rfl) rfl rfl ?_)
  first | with_reducible refine S.nilK ?_ | refine S.nil ?_
  refine hK4 _ _ ?_
  refine S.seq fun K5 hK5 => ?_
  refine S.region rfl ?_
  refine S.op (S.q (q_move rfl) rfl rfl ?_)
  refine S.op (S.q (q_rem rfl rfl (⟨by omega, by omega⟩)) rfl rfl ?_)
  refine S.op (S.q (q_conv Tryd.it3 (by rw [Tryd.underlying5]; rfl) rfl (inI64 (by omega) (by omega))) rfl rfl ?_)
  refine S.op (S.q (q_add rfl rfl (inI64 (by omega) (by omega))) rfl rfl ?_)
  refine S.op (S.q (q_assign rfl) rfl rfl ?_)
  first | with_reducible refine S.nilK ?_ | refine S.nil ?_
  refine hK5 _ _ ?_
  refine S.seq fun K6 hK6 => ?_
  refine S.region rfl ?_
  rw [← hask]
  refine S.op (S.q (q_move rfl) rfl rfl ?_)
  refine S.op (S.q (q_move rfl) rfl rfl ?_)
  refine S.op (S.q (q_move rfl) rfl rfl ?_)
  refine S.op (S.q (q_move rfl) rfl rfl ?_)
  refine S.op (S.call Tryd.en34 (vs := [_, _, _, _]) ⟨rfl, rfl, rfl, rfl, trivial⟩ (Choose_S b m t ask (own p 75 2 (cl.flatMap cdC)) p cl hp (by omega) hct RdS.own hW) rfl ?_)
  rintro v Θ ⟨u, rfl, hu, rfl⟩
  rw [hch] at hu ⊢
  simp only at hu ⊢
  refine S.op (S.q (q_move rfl) rfl rfl ?_)
  refine S.op (S.q (q_extract rfl rfl) rfl rfl ?_)
  refine S.op (S.q (q_extract rfl rfl) rfl rfl ?_)
  refine S.op (S.alloc Tryd.z70 rfl ?_)
  intro b18
  refine S.op (S.storeS (cs' := [_, _]) Tryd.ag70 rfl rfl rfl rfl rfl rfl ?_)
  refine S.op (S.q (q_assign rfl) rfl rfl ?_)
  first | with_reducible refine S.nilK ?_ | refine S.nil ?_
  refine hK6 _ _ ?_
  refine S.seq fun K7 hK7 => ?_
  refine S.region rfl ?_
  refine S.op (S.q (q_assign rfl) rfl rfl ?_)
  first | with_reducible refine S.nilK ?_ | refine S.nil ?_
  refine hK7 _ _ ?_
  refine S.seq fun K8 hK8 => ?_
  refine S.seq fun K9 hK9 => ?_
  refine S.region rfl ?_
  refine S.op (S.q (q_move rfl) rfl rfl ?_)
  refine S.op (S.q (q_rem rfl rfl (⟨by omega, by omega⟩)) rfl rfl ?_)
  refine S.op (S.q (q_conv Tryd.it3 (by rw [Tryd.underlying5]; rfl) rfl (inI64 (by omega) (by omega))) rfl rfl ?_)
  refine S.op (S.q (q_add rfl rfl (inI64 (by omega) (by omega))) rfl rfl ?_)
  rw [show 1 + r % 8 = (m.R : Int) by omega]
  refine S.op (S.q (q_move rfl) rfl rfl ?_)
  first | with_reducible refine S.nilK ?_ | refine S.nil ?_
  refine hK9 _ _ ?_
  refine S.block ?_
  refine S.loop (fun q ρ' Γ' => ∃ i : Nat, q = m.R - i ∧ i ≤ m.R ∧ ρ' = [(4, .int .u8 t), (13, .pointer (some ⟨b, 0, none⟩)), (15, p.v), (17, .int .i64 ask), (18, .pointer (some ⟨b18, 0, none⟩)), (19, .bool found), (20, .bool (anyUp m t ask cl i)), (51, .int .i64 (m.R : Int)), (52, .int .i64 (i : Int))] ∧   Γ' = own p 75 2 (cl.flatMap cdC) :: blk b18 70 #[.int .i64 (row : Int), u.v] :: MI b m :: old W :: Γ) (m := _) (ρ0 := _) (Γ0 := _) (⟨0, rfl, by omega, rfl, rfl⟩) (by repeat (first | exact trivial | refine ⟨rfl, ?_⟩)) Sub.ent ?_
  rintro q' ρ' Γ' ⟨i, hq', hi, rfl, rfl⟩
  refine S.seq fun K10 hK10 => ?_
  refine S.region rfl ?_
  refine S.op (S.q (q_lt rfl rfl) rfl rfl ?_)
  first | with_reducible refine S.nilK ?_ | refine S.nil ?_
  refine hK10 _ _ ?_
  refine S.seq fun K11 hK11 => ?_
  refine S.condD rfl (fun h2 => ?_) (fun h2 => ?_)
  · obtain ⟨vl, is, hv⟩ : ∃ vl is, ofV m (i : Nat) t ask cl = (vl, is) := ⟨_, _, rfl⟩
    have hany : anyUp m t ask cl (i + 1) = (anyUp m t ask cl i || is) := by rw [anyUp, hv]
    have hfew := hf2 i (by omega)
    rw [hv] at hfew
    simp only at hfew
    have hfnd : is = true → found = true := fun h => by rw [hf1]; exact anyUp_true (r := i) (by rw [hv]; exact h) m.R (by omega)
    refine S.skip ?_
    with_reducible repeat (first | refine S.then_n ?_ | refine S.then_x ?_ | refine S.then_r ?_ | refine S.inBlock_n ?_ | refine S.inBlock_r ?_ | refine S.inBlock_x rfl ?_ | refine S.noGoto_r ?_ | refine S.noGoto_n ?_ | refine S.noGoto_x ?_)
    refine hK11 _ _ ?_
    refine S.seq fun K12 hK12 => ?_
    refine S.cut (fun ρ' Γ' => ρ' = [(4, .int .u8 t), (13, .pointer (some ⟨b, 0, none⟩)), (15, p.v), (17, .int .i64 ask), (18, .pointer (some ⟨b18, 0, none⟩)), (19, .bool found), (20, .bool (anyUp m t ask cl (i + 1))), (51, .int .i64 (m.R : Int)), (52, .int .i64 (i : Int))] ∧   Γ' = own p 75 2 (cl.flatMap cdC) :: blk b18 70 #[.int .i64 (row : Int), u.v] :: MI b m :: old W :: Γ) ?_ ?_
    · refine S.block ?_
      refine S.seq fun K13 hK13 => ?_
      refine S.region rfl ?_
      refine S.op (S.q (q_move rfl) rfl rfl ?_)
      refine S.op (S.q (q_assign rfl) rfl rfl ?_)
      first | with_reducible refine S.nilK ?_ | refine S.nil ?_
      refine hK13 _ _ ?_
      refine S.seq fun K14 hK14 => ?_
      refine S.region rfl ?_
      refine S.op (S.q (q_move rfl) rfl rfl ?_)
      refine S.op (S.q (q_move rfl) rfl rfl ?_)
      refine S.op (S.q (q_move rfl) rfl rfl ?_)
      refine S.op (S.q (q_move rfl) rfl rfl ?_)
      refine S.op (S.q (q_move rfl) rfl rfl ?_)
      refine S.op (S.call Tryd.en36 (vs := [_, _, _, _, _]) ⟨rfl, rfl, rfl, rfl, rfl, trivial⟩ (VOf_S b m (i : Nat) t ask (own p 75 2 (cl.flatMap cdC)) p cl hp (by omega) RdS.own hW) rfl ?_)
      rintro v Θ ⟨u2, rfl, hu2, rfl⟩
      rw [hv] at hu2 ⊢
      simp only at hu2 ⊢
      refine S.op (S.q (q_move rfl) rfl rfl ?_)
      refine S.op (S.q (q_extract rfl rfl) rfl rfl ?_)
      refine S.op (S.q (q_extract rfl rfl) rfl rfl ?_)
      refine S.op (S.q (q_assign rfl) rfl rfl ?_)
      refine S.op (S.q (q_assign rfl) rfl rfl ?_)
      first | with_reducible refine S.nilK ?_ | refine S.nil ?_
      refine hK14 _ _ ?_
      refine S.seq fun K15 hK15 => ?_
      refine S.regionG ?_
      refine S.g_op rfl (S.q (q_move rfl) rfl rfl ?_)
      refine S.g_op rfl (S.q (q_move rfl) rfl rfl ?_)
      rcases Bool.eq_false_or_eq_true (anyUp m t ask cl i) with hg11_1 | hg11_1
      · have hrm : anyUp m t ask cl (i + 1) = true := by rw [hany, hg11_1]; rfl
        refine S.g_no rfl rfl rfl (hg11_1) rfl rfl ?_
        refine S.g_op rfl (S.q (q_pickT rfl (hg11_1) rfl) rfl rfl ?_)
        refine S.g_op rfl (S.q (q_assign rfl) rfl rfl ?_)
        first | with_reducible refine S.g_nilK ?_ | refine S.g_nil ?_
        refine hK15 _ _ ?_
        refine S.seq fun K16 hK16 => ?_
        refine S.regionG ?_
        refine S.g_op rfl (S.q (q_move rfl) rfl rfl ?_)
        refine S.g_op rfl (S.q (q_move rfl) rfl rfl ?_)
        rcases Bool.eq_false_or_eq_true (is) with hg12_1 | hg12_1
        · have hfo := hfnd hg12_1
          have hfew2 := hfew hg12_1
          refine S.g_yes rfl rfl rfl (hg12_1) (S.q (q_move rfl) rfl rfl ?_)
          refine S.g_yes rfl rfl rfl (hg12_1) (S.q (q_not rfl) rfl rfl ?_)
          refine S.g_yes rfl rfl rfl (hg12_1) (S.q (q_move rfl) rfl rfl ?_)
          refine S.g_yes rfl rfl rfl ((by rw [hfo]; rfl)) (S.q (q_move rfl) rfl rfl ?_)
          refine S.g_yes rfl rfl rfl ((by rw [hfo]; rfl)) (S.q (q_len Tryd.underlying34 rfl) rfl rfl ?_)
          refine S.g_yes rfl rfl rfl ((by rw [hfo]; rfl)) (S.q (q_field Tryd.fo70_1 rfl) rfl rfl ?_)
          refine S.g_yes rfl rfl rfl ((by rw [hfo]; rfl)) (S.q (q_load Tryd.at34 rfl rfl) rfl rfl ?_)
          refine S.g_yes rfl rfl rfl ((by rw [hfo]; rfl)) (S.q (q_len Tryd.underlying34 rfl) rfl rfl ?_)
          refine S.g_yes rfl rfl rfl ((by rw [hfo]; rfl)) (S.q (q_lt rfl rfl) rfl rfl ?_)
          refine S.g_yes rfl rfl rfl (hg12_1) (S.q (q_pickF rfl ((by rw [hfo]; rfl)) rfl) rfl rfl ?_)
          refine S.g_op rfl (S.q (q_pickT rfl (hg12_1) rfl) rfl rfl ?_)
          first | with_reducible refine S.g_nilK ?_ | refine S.g_nil ?_
          refine hK16 _ _ ?_
          refine S.condD rfl (fun h3 => ?_) (fun h3 => ?_)
          · omega
          · refine S.skip ?_
            with_reducible repeat (first | refine S.then_n ?_ | refine S.then_x ?_ | refine S.then_r ?_ | refine S.inBlock_n ?_ | refine S.inBlock_r ?_ | refine S.inBlock_x rfl ?_ | refine S.noGoto_r ?_ | refine S.noGoto_n ?_ | refine S.noGoto_x ?_)
            with_reducible repeat (first | refine S.then_n ?_ | refine S.then_x ?_ | refine S.then_r ?_ | refine S.inBlock_n ?_ | refine S.inBlock_r ?_ | refine S.inBlock_x rfl ?_ | refine S.noGoto_r ?_ | refine S.noGoto_n ?_ | refine S.noGoto_x ?_)
            with_reducible repeat (first | refine S.then_n ?_ | refine S.then_x ?_ | refine S.then_r ?_ | refine S.inBlock_n ?_ | refine S.inBlock_r ?_ | refine S.inBlock_x rfl ?_ | refine S.noGoto_r ?_ | refine S.noGoto_n ?_ | refine S.noGoto_x ?_)
            rw [hrm]
            exact S.meet ⟨rfl, rfl⟩ ⟨rfl, rfl, rfl, rfl, rfl, rfl, rfl, rfl, rfl, trivial⟩ Sub.ent
        · refine S.g_no rfl rfl rfl (hg12_1) rfl rfl ?_
          refine S.g_no rfl rfl rfl (hg12_1) rfl rfl ?_
          refine S.g_no rfl rfl rfl (hg12_1) rfl rfl ?_
          refine S.g_noU rfl rfl rfl rfl rfl ?_
          refine S.g_noU rfl rfl rfl rfl rfl ?_
          refine S.g_noU rfl rfl rfl rfl rfl ?_
          refine S.g_noU rfl rfl rfl rfl rfl ?_
          refine S.g_noU rfl rfl rfl rfl rfl ?_
          refine S.g_noU rfl rfl rfl rfl rfl ?_
          refine S.g_no rfl rfl rfl (hg12_1) rfl rfl ?_
          refine S.g_op rfl (S.q (q_pickF rfl (hg12_1) rfl) rfl rfl ?_)
          first | with_reducible refine S.g_nilK ?_ | refine S.g_nil ?_
          refine hK16 _ _ ?_
          refine S.condF rfl ?_
          refine S.skip ?_
          with_reducible repeat (first | refine S.then_n ?_ | refine S.then_x ?_ | refine S.then_r ?_ | refine S.inBlock_n ?_ | refine S.inBlock_r ?_ | refine S.inBlock_x rfl ?_ | refine S.noGoto_r ?_ | refine S.noGoto_n ?_ | refine S.noGoto_x ?_)
          with_reducible repeat (first | refine S.then_n ?_ | refine S.then_x ?_ | refine S.then_r ?_ | refine S.inBlock_n ?_ | refine S.inBlock_r ?_ | refine S.inBlock_x rfl ?_ | refine S.noGoto_r ?_ | refine S.noGoto_n ?_ | refine S.noGoto_x ?_)
          with_reducible repeat (first | refine S.then_n ?_ | refine S.then_x ?_ | refine S.then_r ?_ | refine S.inBlock_n ?_ | refine S.inBlock_r ?_ | refine S.inBlock_x rfl ?_ | refine S.noGoto_r ?_ | refine S.noGoto_n ?_ | refine S.noGoto_x ?_)
          rw [hrm]
          exact S.meet ⟨rfl, rfl⟩ ⟨rfl, rfl, rfl, rfl, rfl, rfl, rfl, rfl, rfl, trivial⟩ Sub.ent
      · have hrm : anyUp m t ask cl (i + 1) = is := by rw [hany, hg11_1]; rfl
        refine S.g_yes rfl rfl rfl (hg11_1) (S.q (q_move rfl) rfl rfl ?_)
        refine S.g_op rfl (S.q (q_pickF rfl (hg11_1) rfl) rfl rfl ?_)
        refine S.g_op rfl (S.q (q_assign rfl) rfl rfl ?_)
        first | with_reducible refine S.g_nilK ?_ | refine S.g_nil ?_
        refine hK15 _ _ ?_
        refine S.seq fun K17 hK17 => ?_
        refine S.regionG ?_
        refine S.g_op rfl (S.q (q_move rfl) rfl rfl ?_)
        refine S.g_op rfl (S.q (q_move rfl) rfl rfl ?_)
        rcases Bool.eq_false_or_eq_true (is) with hg12_1 | hg12_1
        · have hfo := hfnd hg12_1
          have hfew2 := hfew hg12_1
          refine S.g_yes rfl rfl rfl (hg12_1) (S.q (q_move rfl) rfl rfl ?_)
          refine S.g_yes rfl rfl rfl (hg12_1) (S.q (q_not rfl) rfl rfl ?_)
          refine S.g_yes rfl rfl rfl (hg12_1) (S.q (q_move rfl) rfl rfl ?_)
          refine S.g_yes rfl rfl rfl ((by rw [hfo]; rfl)) (S.q (q_move rfl) rfl rfl ?_)
          refine S.g_yes rfl rfl rfl ((by rw [hfo]; rfl)) (S.q (q_len Tryd.underlying34 rfl) rfl rfl ?_)
          refine S.g_yes rfl rfl rfl ((by rw [hfo]; rfl)) (S.q (q_field Tryd.fo70_1 rfl) rfl rfl ?_)
          refine S.g_yes rfl rfl rfl ((by rw [hfo]; rfl)) (S.q (q_load Tryd.at34 rfl rfl) rfl rfl ?_)
          refine S.g_yes rfl rfl rfl ((by rw [hfo]; rfl)) (S.q (q_len Tryd.underlying34 rfl) rfl rfl ?_)
          refine S.g_yes rfl rfl rfl ((by rw [hfo]; rfl)) (S.q (q_lt rfl rfl) rfl rfl ?_)
          refine S.g_yes rfl rfl rfl (hg12_1) (S.q (q_pickF rfl ((by rw [hfo]; rfl)) rfl) rfl rfl ?_)
          refine S.g_op rfl (S.q (q_pickT rfl (hg12_1) rfl) rfl rfl ?_)
          first | with_reducible refine S.g_nilK ?_ | refine S.g_nil ?_
          refine hK17 _ _ ?_
          refine S.condD rfl (fun h3 => ?_) (fun h3 => ?_)
          · omega
          · refine S.skip ?_
            with_reducible repeat (first | refine S.then_n ?_ | refine S.then_x ?_ | refine S.then_r ?_ | refine S.inBlock_n ?_ | refine S.inBlock_r ?_ | refine S.inBlock_x rfl ?_ | refine S.noGoto_r ?_ | refine S.noGoto_n ?_ | refine S.noGoto_x ?_)
            with_reducible repeat (first | refine S.then_n ?_ | refine S.then_x ?_ | refine S.then_r ?_ | refine S.inBlock_n ?_ | refine S.inBlock_r ?_ | refine S.inBlock_x rfl ?_ | refine S.noGoto_r ?_ | refine S.noGoto_n ?_ | refine S.noGoto_x ?_)
            with_reducible repeat (first | refine S.then_n ?_ | refine S.then_x ?_ | refine S.then_r ?_ | refine S.inBlock_n ?_ | refine S.inBlock_r ?_ | refine S.inBlock_x rfl ?_ | refine S.noGoto_r ?_ | refine S.noGoto_n ?_ | refine S.noGoto_x ?_)
            rw [hrm]
            exact S.meet ⟨rfl, rfl⟩ ⟨rfl, rfl, rfl, rfl, rfl, rfl, rfl, rfl, rfl, trivial⟩ Sub.ent
        · refine S.g_no rfl rfl rfl (hg12_1) rfl rfl ?_
          refine S.g_no rfl rfl rfl (hg12_1) rfl rfl ?_
          refine S.g_no rfl rfl rfl (hg12_1) rfl rfl ?_
          refine S.g_noU rfl rfl rfl rfl rfl ?_
          refine S.g_noU rfl rfl rfl rfl rfl ?_
          refine S.g_noU rfl rfl rfl rfl rfl ?_
          refine S.g_noU rfl rfl rfl rfl rfl ?_
          refine S.g_noU rfl rfl rfl rfl rfl ?_
          refine S.g_noU rfl rfl rfl rfl rfl ?_
          refine S.g_no rfl rfl rfl (hg12_1) rfl rfl ?_
          refine S.g_op rfl (S.q (q_pickF rfl (hg12_1) rfl) rfl rfl ?_)
          first | with_reducible refine S.g_nilK ?_ | refine S.g_nil ?_
          refine hK17 _ _ ?_
          refine S.condF rfl ?_
          refine S.skip ?_
          with_reducible repeat (first | refine S.then_n ?_ | refine S.then_x ?_ | refine S.then_r ?_ | refine S.inBlock_n ?_ | refine S.inBlock_r ?_ | refine S.inBlock_x rfl ?_ | refine S.noGoto_r ?_ | refine S.noGoto_n ?_ | refine S.noGoto_x ?_)
          with_reducible repeat (first | refine S.then_n ?_ | refine S.then_x ?_ | refine S.then_r ?_ | refine S.inBlock_n ?_ | refine S.inBlock_r ?_ | refine S.inBlock_x rfl ?_ | refine S.noGoto_r ?_ | refine S.noGoto_n ?_ | refine S.noGoto_x ?_)
          with_reducible repeat (first | refine S.then_n ?_ | refine S.then_x ?_ | refine S.then_r ?_ | refine S.inBlock_n ?_ | refine S.inBlock_r ?_ | refine S.inBlock_x rfl ?_ | refine S.noGoto_r ?_ | refine S.noGoto_n ?_ | refine S.noGoto_x ?_)
          rw [hrm]
          exact S.meet ⟨rfl, rfl⟩ ⟨rfl, rfl, rfl, rfl, rfl, rfl, rfl, rfl, rfl, trivial⟩ Sub.ent
    · rintro ρ' Γ' ⟨rfl, rfl⟩
      refine hK12 _ _ ?_
      refine S.region rfl ?_
      refine S.op (S.q (q_add rfl rfl (inI64 (by omega) (by omega))) rfl rfl ?_)
      refine S.op (S.q (q_move rfl) rfl rfl ?_)
      first | with_reducible refine S.nilK ?_ | refine S.nil ?_
      with_reducible repeat (first | refine S.then_n ?_ | refine S.then_x ?_ | refine S.then_r ?_ | refine S.inBlock_n ?_ | refine S.inBlock_r ?_ | refine S.inBlock_x rfl ?_ | refine S.noGoto_r ?_ | refine S.noGoto_n ?_ | refine S.noGoto_x ?_)
      exact S.next (q' - 1) (⟨i + 1, by omega, by omega, rfl, rfl⟩) (by omega) (by repeat (first | exact trivial | refine ⟨rfl, ?_⟩)) Sub.ent
  · rw [show i = m.R by omega, ← hf1]
    refine S.exit ?_
    with_reducible repeat (first | refine S.then_n ?_ | refine S.then_x ?_ | refine S.then_r ?_ | refine S.inBlock_n ?_ | refine S.inBlock_r ?_ | refine S.inBlock_x rfl ?_ | refine S.noGoto_r ?_ | refine S.noGoto_n ?_ | refine S.noGoto_x ?_)
    with_reducible refine S.inBlock_s ?_
    with_reducible repeat (first | refine S.then_n ?_ | refine S.then_x ?_ | refine S.then_r ?_ | refine S.inBlock_n ?_ | refine S.inBlock_r ?_ | refine S.inBlock_x rfl ?_ | refine S.noGoto_r ?_ | refine S.noGoto_n ?_ | refine S.noGoto_x ?_)
    refine hK8 _ _ ?_
    refine S.seq fun K18 hK18 => ?_
    refine S.region rfl ?_
    refine S.op (S.q (q_move rfl) rfl rfl ?_)
    refine S.op (S.q (q_move rfl) rfl rfl ?_)
    refine S.op (S.q (q_eqB Tryd.underlying4 rfl rfl) rfl rfl ?_)
    refine S.op (S.q (q_assign rfl) rfl rfl ?_)
    first | with_reducible refine S.nilK ?_ | refine S.nil ?_
    refine hK18 _ _ ?_
    refine S.ret ?_
    with_reducible repeat (first | refine S.then_n ?_ | refine S.then_x ?_ | refine S.then_r ?_ | refine S.inBlock_n ?_ | refine S.inBlock_r ?_ | refine S.inBlock_x rfl ?_ | refine S.noGoto_r ?_ | refine S.noGoto_n ?_ | refine S.noGoto_x ?_)
    exact S.fin (rs := [_]) (vs := [_]) Tryd.results11 (⟨rfl, trivial⟩)  (⟨by cases found <;> rfl, rfl⟩) Sub.ent
open Go.ChangeShapes Go.WideShapes Go.ChangeAt
theorem VictimFew_law {H : Type} (enc : TypeId × Value → H) : LawWalkT enc Rows.victimFewRow.laid 11 Tryd.f11 := by
  intro W base args ds before hval hA _ _ hL
  rw [Tryd.params11] at hA hval
  obtain ⟨v0, vs0, d0, ds0, p0, q0, hargs, rfl, rfl, h0, r0⟩ := trodAll_cons hA
  obtain ⟨v1, vs1, d1, ds1, p1, q1, rfl, rfl, rfl, h1, r1⟩ := trodAll_cons r0
  obtain ⟨v2, vs2, d2, ds2, p2, q2, rfl, rfl, rfl, h2, r2⟩ := trodAll_cons r1
  obtain ⟨v3, vs3, d3, ds3, p3, q3, rfl, rfl, rfl, h3, r3⟩ := trodAll_cons r2
  obtain ⟨v4, vs4, d4, ds4, p4, q4, rfl, rfl, rfl, h4, r4⟩ := trodAll_cons r3
  obtain ⟨v5, vs5, d5, ds5, p5, q5, rfl, rfl, rfl, h5, r5⟩ := trodAll_cons r4
  obtain ⟨rfl, rfl, rfl⟩ := trodAll_nil r5
  obtain rfl : args = #[v0, v1, v2, v3, v4, v5] := by cases args; simp_all
  obtain ⟨r, rfl, hr⟩ := arg_int Tryd.underlying5 (hval 0 5 v0 rfl rfl) h0
  obtain ⟨n, rfl, hn⟩ := arg_int Tryd.underlying5 (hval 1 5 v1 rfl rfl) h1
  obtain ⟨s, l, e2, hs⟩ := rd_vds (arg_slice 7 Tryd.underlying63 (by kernel_rfl) (hval 2 63 v2 rfl rfl) h2)
  simp only [List.cons.injEq, and_true] at e2
  subst e2
  obtain ⟨d, rfl, hd⟩ := arg_int Tryd.underlying28 (hval 3 28 v3 rfl rfl) h3
  obtain ⟨t, rfl, _⟩ := arg_int Tryd.underlying5 (hval 4 5 v4 rfl rfl) h4
  obtain ⟨k, rfl, hk⟩ := arg_int Tryd.underlying5 (hval 5 5 v5 rfl rfl) h5
  have hd2 := u16_rng hd
  have ed : ((BitVec.ofNat 16 d.toNat).toNat : Int) = d := by
    rw [BitVec.toNat_ofNat, Nat.mod_eq_of_lt (by omega)]
    omega
  have hlaw := VictimFew_S r n t k (BitVec.ofNat 16 d.toNat) l s (u8_rng hr) (u8_rng hn) (u8_rng hk) (tabW_of rfl hL) hs
  rw [show bsv (BitVec.ofNat 16 d.toNat) = .int .u16 d by rw [bsv, ed]] at hlaw
  exact law_run hlaw
set_option maxRecDepth 100000 in
theorem VictimFew_met (os : Os) (args : Array Value) : laidMetH Tryd.prog Rows.victimFewRow.laid ((World.doorLaid Tryd.prog 14 os).forCall (fun _ _ => 0) ⟨#[], args, []⟩).memory :=
  laidMetH_of_parts3 (fuel := 8) (laidMet_of_run' 8 (by kernel_rfl) (by kernel_rfl)) (by kernel_rfl) (by kernel_rfl)
set_option maxRecDepth 100000 in
theorem VictimFew_lifted (os : Os) (started : os.Started) (H : Type) (enc : TypeId × Value → H) :
    ReturnsInHanded {} Tryd.checked os 11 .any (fun w args => (Rows.victimFewSpec.pre enc Tryd.prog Tryd.f11 [] false w args ∧ laidMetH Tryd.prog Rows.victimFewRow.laid w) ∧ sizedMet enc Tryd.prog Tryd.f11 (OpenSpec.ofChange Rows.victimFewSpec) false w args) (Rows.victimFewSpec.post enc Tryd.prog Tryd.f11 false true false false) :=
  lift_trueT started Tryd.func11 (by kernel_rfl)
    (ChangeSpec.witness_shaped (enc := enc) (C := Tryd.checked) (os := os) (X := fun w _ => laidMetH Tryd.prog Rows.victimFewRow.laid w) false (World.doorLaid Tryd.prog 14 os) #[.int .u8 0, .int .u8 0, .slice none 0 0, .int .u16 0, .int .u8 0, .int .u8 0] 8 rfl (World.shaped_of_RefB (by kernel_rfl) (by kernel_rfl)) (by kernel_rfl) (by kernel_rfl) (by kernel_rfl) (VictimFew_met os _))
    rfl rfl (by kernel_rfl) (fun ds h => by match ds, h with | [a0, a1, a2, a3, a4, a5], _ => rfl) (VictimFew_law enc)
theorem VictimFew_over : Rows.victimFewRow.holds Tryd.pinned (OpenSpec.ofChange Rows.victimFewSpec) :=
  OpenClaim.holds_of_wide 11 Tryd.f11 rfl rfl rfl rfl rfl rfl rfl ⟨rfl, rfl, rfl, rfl, rfl⟩ rfl rfl rfl rfl rfl (by kernel_rfl) Tryd.func11 (by kernel_rfl)
    (of_decide_eq_true (by kernel_rfl)) (by unfold Func.isWrapper; first | (rw [if_pos (by decide +kernel)]; kernel_rfl) | (rw [if_neg (by decide +kernel)]; exact ⟨rfl, rfl⟩))
    (fun os started H enc _ => VictimFew_lifted os started H enc)
theorem VictimFew_holds : Rows.VictimFewCardSaid :=
  Claim7.holds_tied_plain_at .later [] [.data] true (true, "159500d8f53921207f8a94d76c36f16f18e500f3350336e687406a81b385dd96") true
    VictimFew_over (fun _ h => by cases h) (by kernel_rfl) (fun _ h => by cases h) victimFew_row_tie rfl ⟨rfl, rfl⟩ (by kernel_rfl) rfl
    (fun f fn hf hfn => by
      obtain rfl : f = 11 := Option.some.inj ((show Tryd.prog.funcNamed "quadrille/quadrillelaw15.VictimFew" = some 11 by kernel_rfl).symm.trans hf) |>.symm
      obtain rfl : fn = Tryd.f11 := (Option.some.inj (Tryd.func11.symm.trans hfn)).symm
      exact ⟨by kernel_rfl, fun j t ht => by
        rw [Tryd.params11] at ht
        have hm : t ∈ [5, 5, 63, 28, 5, 5] := by simpa using Array.mem_of_getElem? ht
        have hall : ([5, 5, 63, 28, 5, 5].all fun u => !Tryd.prog.wantsStandIn u) = true := by kernel_rfl
        exact (show Tryd.prog.wantsStandIn t = false by simpa using List.all_eq_true.1 hall t hm)⟩)
    (by kernel_rfl)
#print axioms VictimFew_holds
end Go.Proofs.YtbhnbnecaejjiaaDoor
