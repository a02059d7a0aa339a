/- VictimFree: where there is room already nobody has to go. -/
import Derived.Test.YtbhnbnecaejjiaaDoorVicF
namespace Go.Proofs.YtbhnbnecaejjiaaDoor
open Go.RowKit
set_option maxRecDepth 20000
theorem VictimFree_S (r n t k : Int) (l : List Vd) (s : SV) (hr : 0 ≤ r ∧ r ≤ 255) (hn : 0 ≤ n ∧ n ≤ 255) (hk : 0 ≤ k ∧ k ≤ 255) {W : World} (hW : TabW W) (hs : VW W s l) : LawS 8 [.int .u8 r, .int .u8 n, s.v, .int .u8 t, .int .u8 k] W := by
  refine Spec.of_body Tryd.func8 rfl Tryd.ntmps8 rfl ?_
  intro w0 Γ
  show S _ w0 [(0, .int .u8 r), (1, .int .u8 n), (2, s.v), (3, .int .u8 t), (4, .int .u8 k)] (old W :: Γ) _
  obtain ⟨m, hm⟩ : ∃ m, m = bldR r n l 0#16 := ⟨_, rfl⟩
  obtain ⟨hok, hmR⟩ := bldR_ok r n l 0#16
  rw [← hm] at hok hmR
  have hR8 := hok.R8
  obtain ⟨ask, hask⟩ : ∃ ask, ask = 1 + k % 16 := ⟨_, rfl⟩
  have hask1 : 1 ≤ ask ∧ ask ≤ 16 := by omega
  obtain ⟨cl, hcl⟩ : ∃ cl, cl = cdR l := ⟨_, rfl⟩
  have hcl40 : cl.length ≤ 40 := by rw [hcl, cdR]; have := cdUp_len l (min l.length 40); omega
  have hct : ∀ x ∈ cl, 0 ≤ x.2 ∧ x.2 ≤ 255 := by rw [hcl]; exact cdUp_tier hs.rng _ (by omega)
  obtain ⟨best, row, found, hch⟩ : ∃ best row found, choR m t ask cl = (best, row, found) := ⟨_, _, _, rfl⟩
  refine S.seq fun K1 hK1 => ?_
  refine S.region rfl ?_
  refine S.op (S.q (q_assign rfl) rfl rfl ?_)
  first | with_reducible refine S.nilK ?_ | refine S.nil ?_
  refine hK1 _ _ ?_
  refine S.seq fun K2 hK2 => ?_
  refine S.seq fun K3 hK3 => ?_
  refine S.region rfl ?_
  refine S.op (S.call Tryd.en31 (vs := []) trivial (awake_S hW) rfl ?_)
  rintro v Θ ⟨rfl, rfl⟩
  refine S.op (S.q (q_not rfl) rfl rfl ?_)
  first | with_reducible refine S.nilK ?_ | refine S.nil ?_
  refine hK3 _ _ ?_
  refine S.condF rfl ?_
  refine S.skip ?_
  with_reducible repeat (first | refine S.then_n ?_ | refine S.then_x ?_ | refine S.then_r ?_ | refine S.inBlock_n ?_ | refine S.inBlock_r ?_ | refine S.inBlock_x rfl ?_ | refine S.noGoto_r ?_ | refine S.noGoto_n ?_ | refine S.noGoto_x ?_)
  refine hK2 _ _ ?_
  refine S.seq fun K4 hK4 => ?_
  refine S.region rfl ?_
  refine S.op (S.q (q_move rfl) rfl rfl ?_)
  refine S.op (S.q (q_move rfl) rfl rfl ?_)
  refine S.op (S.q (q_move rfl) rfl rfl ?_)
  refine S.op (S.call Tryd.en32 (vs := [_, _, _, _]) ⟨rfl, rfl, rfl, rfl, trivial⟩ (build_S r n l 0#16 s hr hn hs) rfl ?_)
  rintro v Θ ⟨b, c, p, q, rfl, hp, hq, rfl⟩
  rw [← hm, ← hcl] at *
  refine S.op (S.q (q_move rfl) rfl rfl ?_)
  refine S.op (S.q (q_extract rfl rfl) rfl rfl ?_)
  refine S.op (S.q (q_extract rfl rfl) rfl rfl ?_)
  refine S.op (S.q (q_extract rfl rfl) rfl rfl ?_)
  refine S.op (S.q (q_extract rfl rfl) rfl rfl ?_)
  refine S.op (S.q (q_assign rfl) rfl rfl ?_)
  refine S.op (S.q (q_assign rfl) rfl rfl ?_)
  refine S.op (S.q (q_assign rfl) rfl rfl ?_)
  refine S.op (S.q (q_assign rfl) rfl rfl ?_)
  first | with_reducible refine S.nilK ?_ | refine S.nil ?_
  refine hK4 _ _ ?_
  refine S.seq fun K5 hK5 => ?_
  refine S.region rfl ?_
  refine S.op (S.q (q_move rfl) rfl rfl ?_)
  refine S.op (S.q (q_rem rfl rfl (⟨by omega, by omega⟩)) rfl rfl ?_)
  refine S.op (S.q (q_conv Tryd.it3 (by rw [Tryd.underlying5]; rfl) rfl (inI64 (by omega) (by omega))) rfl rfl ?_)
  refine S.op (S.q (q_add rfl rfl (inI64 (by omega) (by omega))) rfl rfl ?_)
  refine S.op (S.q (q_assign rfl) rfl rfl ?_)
  first | with_reducible refine S.nilK ?_ | refine S.nil ?_
  refine hK5 _ _ ?_
  refine S.seq fun K6 hK6 => ?_
  refine S.region rfl ?_
  rw [← hask]
  refine S.op (S.q (q_assign rfl) rfl rfl ?_)
  first | with_reducible refine S.nilK ?_ | refine S.nil ?_
  refine hK6 _ _ ?_
  refine S.seq fun K7 hK7 => ?_
  refine S.seq fun K8 hK8 => ?_
  refine S.region rfl ?_
  refine S.op (S.q (q_move rfl) rfl rfl ?_)
  refine S.op (S.q (q_rem rfl rfl (⟨by omega, by omega⟩)) rfl rfl ?_)
  refine S.op (S.q (q_conv Tryd.it3 (by rw [Tryd.underlying5]; rfl) rfl (inI64 (by omega) (by omega))) rfl rfl ?_)
  refine S.op (S.q (q_add rfl rfl (inI64 (by omega) (by omega))) rfl rfl ?_)
  rw [show 1 + r % 8 = (m.R : Int) by omega]
  refine S.op (S.q (q_move rfl) rfl rfl ?_)
  first | with_reducible refine S.nilK ?_ | refine S.nil ?_
  refine hK8 _ _ ?_
  refine S.block ?_
  refine S.loop (fun q ρ' Γ' => ∃ i : Nat, q = m.R - i ∧ i ≤ m.R ∧ ρ' = [(3, .int .u8 t), (11, .pointer (some ⟨b, 0, none⟩)), (13, p.v), (15, .int .i64 ask), (16, .bool (rmUp m ask i)), (38, .int .i64 (m.R : Int)), (39, .int .i64 (i : Int))] ∧ Γ' = own p 75 2 (cl.flatMap cdC) :: MI b m :: old W :: Γ) (m := _) (ρ0 := _) (Γ0 := _) (⟨0, rfl, by omega, rfl, rfl⟩) (by repeat (first | exact trivial | refine ⟨rfl, ?_⟩)) Sub.ent ?_
  rintro q' ρ' Γ' ⟨i, hq', hi, rfl, rfl⟩
  refine S.seq fun K9 hK9 => ?_
  refine S.region rfl ?_
  refine S.op (S.q (q_lt rfl rfl) rfl rfl ?_)
  first | with_reducible refine S.nilK ?_ | refine S.nil ?_
  refine hK9 _ _ ?_
  refine S.seq fun K10 hK10 => ?_
  refine S.condD rfl (fun h2 => ?_) (fun h2 => ?_)
  · refine S.skip ?_
    with_reducible repeat (first | refine S.then_n ?_ | refine S.then_x ?_ | refine S.then_r ?_ | refine S.inBlock_n ?_ | refine S.inBlock_r ?_ | refine S.inBlock_x rfl ?_ | refine S.noGoto_r ?_ | refine S.noGoto_n ?_ | refine S.noGoto_x ?_)
    refine hK10 _ _ ?_
    refine S.seq fun K11 hK11 => ?_
    refine S.cut (fun ρ' Γ' => ρ' = [(3, .int .u8 t), (11, .pointer (some ⟨b, 0, none⟩)), (13, p.v), (15, .int .i64 ask), (16, .bool (rmUp m ask (i + 1))), (38, .int .i64 (m.R : Int)), (39, .int .i64 (i : Int))] ∧ Γ' = own p 75 2 (cl.flatMap cdC) :: MI b m :: old W :: Γ) ?_ ?_
    · refine S.block ?_
      refine S.seq fun K12 hK12 => ?_
      refine S.region rfl ?_
      refine S.op (S.q (q_move rfl) rfl rfl ?_)
      refine S.op (S.q (q_assign rfl) rfl rfl ?_)
      first | with_reducible refine S.nilK ?_ | refine S.nil ?_
      refine hK12 _ _ ?_
      refine S.regionG ?_
      refine S.g_op rfl (S.q (q_move rfl) rfl rfl ?_)
      refine S.g_op rfl (S.q (q_move rfl) rfl rfl ?_)
      rcases Bool.eq_false_or_eq_true (rmUp m ask i) with hg9_1 | hg9_1
      · have hrm : rmUp m ask (i + 1) = true := by rw [rmUp, hg9_1]; rfl
        refine S.g_no rfl rfl rfl (hg9_1) rfl rfl ?_
        refine S.g_no rfl rfl rfl (hg9_1) rfl rfl ?_
        refine S.g_no rfl rfl rfl (hg9_1) rfl rfl ?_
        refine S.g_no rfl rfl rfl (hg9_1) rfl rfl ?_
        refine S.g_no rfl rfl rfl (hg9_1) rfl rfl ?_
        refine S.g_op rfl (S.q (q_pickT rfl (hg9_1) rfl) rfl rfl ?_)
        refine S.g_op rfl (S.q (q_assign rfl) rfl rfl ?_)
        first | with_reducible refine S.g_nilK ?_ | refine S.g_nil ?_
        with_reducible repeat (first | refine S.then_n ?_ | refine S.then_x ?_ | refine S.then_r ?_ | refine S.inBlock_n ?_ | refine S.inBlock_r ?_ | refine S.inBlock_x rfl ?_ | refine S.noGoto_r ?_ | refine S.noGoto_n ?_ | refine S.noGoto_x ?_)
        with_reducible repeat (first | refine S.then_n ?_ | refine S.then_x ?_ | refine S.then_r ?_ | refine S.inBlock_n ?_ | refine S.inBlock_r ?_ | refine S.inBlock_x rfl ?_ | refine S.noGoto_r ?_ | refine S.noGoto_n ?_ | refine S.noGoto_x ?_)
        rw [hrm]
        exact S.meet ⟨rfl, rfl⟩ ⟨rfl, rfl, rfl, rfl, rfl, rfl, rfl, trivial⟩ Sub.ent
      · have hrm : rmUp m ask (i + 1) = decide (ask ≤ (freeR m (i : Nat) : Nat)) := by rw [rmUp, hg9_1]; rfl
        refine S.g_yes rfl rfl rfl (hg9_1) (S.q (q_move rfl) rfl rfl ?_)
        refine S.g_yes rfl rfl rfl (hg9_1) (S.q (q_move rfl) rfl rfl ?_)
        refine S.g_yes rfl rfl rfl (hg9_1) (S.call Tryd.en33 (vs := [_, _]) ⟨rfl, rfl, trivial⟩ (Free_S b m i) rfl ?_)
        rintro v Θ ⟨rfl, rfl⟩
        refine S.g_yes rfl rfl rfl (hg9_1) (S.q (q_move rfl) rfl rfl ?_)
        refine S.g_yes rfl rfl rfl (hg9_1) (S.q (q_ge rfl rfl) rfl rfl ?_)
        refine S.g_op rfl (S.q (q_pickF rfl (hg9_1) rfl) rfl rfl ?_)
        refine S.g_op rfl (S.q (q_assign rfl) rfl rfl ?_)
        first | with_reducible refine S.g_nilK ?_ | refine S.g_nil ?_
        with_reducible repeat (first | refine S.then_n ?_ | refine S.then_x ?_ | refine S.then_r ?_ | refine S.inBlock_n ?_ | refine S.inBlock_r ?_ | refine S.inBlock_x rfl ?_ | refine S.noGoto_r ?_ | refine S.noGoto_n ?_ | refine S.noGoto_x ?_)
        with_reducible repeat (first | refine S.then_n ?_ | refine S.then_x ?_ | refine S.then_r ?_ | refine S.inBlock_n ?_ | refine S.inBlock_r ?_ | refine S.inBlock_x rfl ?_ | refine S.noGoto_r ?_ | refine S.noGoto_n ?_ | refine S.noGoto_x ?_)
        rw [hrm]
        exact S.meet ⟨rfl, rfl⟩ ⟨rfl, rfl, rfl, rfl, rfl, rfl, rfl, trivial⟩ Sub.ent
    · rintro ρ' Γ' ⟨rfl, rfl⟩
      refine hK11 _ _ ?_
      refine S.region rfl ?_
      refine S.op (S.q (q_add rfl rfl (inI64 (by omega) (by omega))) rfl rfl ?_)
      refine S.op (S.q (q_move rfl) rfl rfl ?_)
      first | with_reducible refine S.nilK ?_ | refine S.nil ?_
      with_reducible repeat (first | refine S.then_n ?_ | refine S.then_x ?_ | refine S.then_r ?_ | refine S.inBlock_n ?_ | refine S.inBlock_r ?_ | refine S.inBlock_x rfl ?_ | refine S.noGoto_r ?_ | refine S.noGoto_n ?_ | refine S.noGoto_x ?_)
      exact S.next (q' - 1) (⟨i + 1, by omega, by omega, rfl, rfl⟩) (by omega) (by repeat (first | exact trivial | refine ⟨rfl, ?_⟩)) Sub.ent
  · obtain ⟨rm, hrm⟩ : ∃ rm, rm = rmUp m ask i := ⟨_, rfl⟩
    rw [show i = m.R by omega] at hrm
    rw [show i = m.R by omega, ← hrm]
    refine S.exit ?_
    with_reducible repeat (first | refine S.then_n ?_ | refine S.then_x ?_ | refine S.then_r ?_ | refine S.inBlock_n ?_ | refine S.inBlock_r ?_ | refine S.inBlock_x rfl ?_ | refine S.noGoto_r ?_ | refine S.noGoto_n ?_ | refine S.noGoto_x ?_)
    with_reducible refine S.inBlock_s ?_
    with_reducible repeat (first | refine S.then_n ?_ | refine S.then_x ?_ | refine S.then_r ?_ | refine S.inBlock_n ?_ | refine S.inBlock_r ?_ | refine S.inBlock_x rfl ?_ | refine S.noGoto_r ?_ | refine S.noGoto_n ?_ | refine S.noGoto_x ?_)
    refine hK7 _ _ ?_
    refine S.seq fun K13 hK13 => ?_
    refine S.region rfl ?_
    refine S.op (S.q (q_move rfl) rfl rfl ?_)
    refine S.op (S.q (q_move rfl) rfl rfl ?_)
    refine S.op (S.q (q_move rfl) rfl rfl ?_)
    refine S.op (S.q (q_move rfl) rfl rfl ?_)
    refine S.op (S.call Tryd.en34 (vs := [_, _, _, _]) ⟨rfl, rfl, rfl, rfl, trivial⟩ (Choose_S b m t ask (own p 75 2 (cl.flatMap cdC)) p cl hp (by omega) hct RdS.own hW) rfl ?_)
    rintro v Θ ⟨u, rfl, hu, rfl⟩
    rw [hch] at hu ⊢
    simp only at hu ⊢
    refine S.op (S.q (q_move rfl) rfl rfl ?_)
    refine S.op (S.q (q_extract rfl rfl) rfl rfl ?_)
    refine S.op (S.q (q_extract rfl rfl) rfl rfl ?_)
    refine S.op (S.alloc Tryd.z70 rfl ?_)
    intro b18
    refine S.op (S.storeS (cs' := [_, _]) Tryd.ag70 rfl rfl rfl rfl rfl rfl ?_)
    refine S.op (S.q (q_assign rfl) rfl rfl ?_)
    first | with_reducible refine S.nilK ?_ | refine S.nil ?_
    refine hK13 _ _ ?_
    refine S.seq fun K14 hK14 => ?_
    refine S.regionG ?_
    refine S.g_op rfl (S.q (q_move rfl) rfl rfl ?_)
    refine S.g_op rfl (S.q (q_not rfl) rfl rfl ?_)
    refine S.g_op rfl (S.q (q_move rfl) rfl rfl ?_)
    rcases Bool.eq_false_or_eq_true (!rm) with hg12_2 | hg12_2
    · refine S.g_no rfl rfl rfl (hg12_2) rfl rfl ?_
      refine S.g_no rfl rfl rfl (hg12_2) rfl rfl ?_
      refine S.g_noU rfl rfl rfl rfl rfl ?_
      refine S.g_noU rfl rfl rfl rfl rfl ?_
      refine S.g_noU rfl rfl rfl rfl rfl ?_
      refine S.g_noU rfl rfl rfl rfl rfl ?_
      refine S.g_no rfl rfl rfl (hg12_2) rfl rfl ?_
      refine S.g_no rfl rfl rfl (hg12_2) rfl rfl ?_
      refine S.g_noU rfl rfl rfl rfl rfl ?_
      refine S.g_noU rfl rfl rfl rfl rfl ?_
      refine S.g_noU rfl rfl rfl rfl rfl ?_
      refine S.g_noU rfl rfl rfl rfl rfl ?_
      refine S.g_noU rfl rfl rfl rfl rfl ?_
      refine S.g_noU rfl rfl rfl rfl rfl ?_
      refine S.g_no rfl rfl rfl (hg12_2) rfl rfl ?_
      refine S.g_op rfl (S.q (q_pickT rfl (hg12_2) rfl) rfl rfl ?_)
      refine S.g_op rfl (S.q (q_assign rfl) rfl rfl ?_)
      first | with_reducible refine S.g_nilK ?_ | refine S.g_nil ?_
      refine hK14 _ _ ?_
      refine S.ret ?_
      with_reducible repeat (first | refine S.then_n ?_ | refine S.then_x ?_ | refine S.then_r ?_ | refine S.inBlock_n ?_ | refine S.inBlock_r ?_ | refine S.inBlock_x rfl ?_ | refine S.noGoto_r ?_ | refine S.noGoto_n ?_ | refine S.noGoto_x ?_)
      exact S.fin (rs := [_]) (vs := [_]) Tryd.results8 (⟨rfl, trivial⟩)  (⟨by first | (simp only [resV]; rw [decide_eq_true hfree]; done) | (simp only [resV]; done), rfl⟩) Sub.ent
    · have hrt : rm = true := by simpa using hg12_2
      obtain ⟨f1, f2⟩ := chUp_free (m := m) (tier := t) (k := ask) (l := cl) hask1.1 m.R (Nat.le_refl _) (rmUp_ex (by rw [← hrm]; exact hrt))
      have hinv := (chUp_inv m t ask cl m.R).1 f1
      have hch2 : chUp m t ask cl m.R = (best, row, found) := hch
      rw [hch2] at f1 f2 hinv
      simp only at f1 f2 hinv
      rw [f2] at hu hinv
      have hfree := ofV_nil hinv.2
      have hu0 : u.n = 0 := hu
      refine S.g_yes rfl rfl rfl (hg12_2) (S.q (q_move rfl) rfl rfl ?_)
      refine S.g_yes rfl rfl rfl (hg12_2) (S.q (q_move rfl) rfl rfl ?_)
      refine S.g_yes rfl rfl rfl (f1) (S.q (q_field Tryd.fo70_1 rfl) rfl rfl ?_)
      refine S.g_yes rfl rfl rfl (f1) (S.q (q_load Tryd.at34 rfl rfl) rfl rfl ?_)
      refine S.g_yes rfl rfl rfl (f1) (S.q (q_len Tryd.underlying34 rfl) rfl rfl ?_)
      refine S.g_yes rfl rfl rfl (f1) (S.q (q_eq rfl rfl) rfl rfl ?_)
      refine S.g_yes rfl rfl rfl (hg12_2) (S.q (q_pickT rfl (f1) rfl) rfl rfl ?_)
      refine S.g_yes rfl rfl rfl (hg12_2) (S.q (q_move rfl) rfl rfl ?_)
      refine S.g_yes rfl rfl rfl ((decide_eq_true (by omega))) (S.q (q_move rfl) rfl rfl ?_)
      refine S.g_yes rfl rfl rfl ((decide_eq_true (by omega))) (S.q (q_field Tryd.fo70_0 rfl) rfl rfl ?_)
      refine S.g_yes rfl rfl rfl ((decide_eq_true (by omega))) (S.q (q_load Tryd.at3 rfl rfl) rfl rfl ?_)
      refine S.g_yes rfl rfl rfl ((decide_eq_true (by omega))) (S.call Tryd.en33 (vs := [_, _]) ⟨rfl, rfl, trivial⟩ (Free_S b m (row : Nat)) rfl ?_)
      rintro v Θ ⟨rfl, rfl⟩
      refine S.g_yes rfl rfl rfl ((decide_eq_true (by omega))) (S.q (q_move rfl) rfl rfl ?_)
      refine S.g_yes rfl rfl rfl ((decide_eq_true (by omega))) (S.q (q_ge rfl rfl) rfl rfl ?_)
      refine S.g_yes rfl rfl rfl (hg12_2) (S.q (q_pickT rfl ((decide_eq_true (by omega))) rfl) rfl rfl ?_)
      refine S.g_op rfl (S.q (q_pickF rfl (hg12_2) rfl) rfl rfl ?_)
      refine S.g_op rfl (S.q (q_assign rfl) rfl rfl ?_)
      first | with_reducible refine S.g_nilK ?_ | refine S.g_nil ?_
      refine hK14 _ _ ?_
      refine S.ret ?_
      with_reducible repeat (first | refine S.then_n ?_ | refine S.then_x ?_ | refine S.then_r ?_ | refine S.inBlock_n ?_ | refine S.inBlock_r ?_ | refine S.inBlock_x rfl ?_ | refine S.noGoto_r ?_ | refine S.noGoto_n ?_ | refine S.noGoto_x ?_)
      exact S.fin (rs := [_]) (vs := [_]) Tryd.results8 (⟨rfl, trivial⟩)  (⟨by first | (simp only [resV]; rw [decide_eq_true hfree]; done) | (simp only [resV]; done), rfl⟩) Sub.ent
open Go.ChangeShapes Go.WideShapes Go.ChangeAt
theorem VictimFree_law {H : Type} (enc : TypeId × Value → H) : LawWalkT enc Rows.victimFreeRow.laid 8 Tryd.f8 := by
  intro W base args ds before hval hA _ _ hL
  rw [Tryd.params8] at hA hval
  obtain ⟨v0, vs0, d0, ds0, p0, q0, hargs, rfl, rfl, h0, r0⟩ := trodAll_cons hA
  obtain ⟨v1, vs1, d1, ds1, p1, q1, rfl, rfl, rfl, h1, r1⟩ := trodAll_cons r0
  obtain ⟨v2, vs2, d2, ds2, p2, q2, rfl, rfl, rfl, h2, r2⟩ := trodAll_cons r1
  obtain ⟨v3, vs3, d3, ds3, p3, q3, rfl, rfl, rfl, h3, r3⟩ := trodAll_cons r2
  obtain ⟨v4, vs4, d4, ds4, p4, q4, rfl, rfl, rfl, h4, r4⟩ := trodAll_cons r3
  obtain ⟨rfl, rfl, rfl⟩ := trodAll_nil r4
  obtain rfl : args = #[v0, v1, v2, v3, v4] := by cases args; simp_all
  obtain ⟨r, rfl, hr⟩ := arg_int Tryd.underlying5 (hval 0 5 v0 rfl rfl) h0
  obtain ⟨n, rfl, hn⟩ := arg_int Tryd.underlying5 (hval 1 5 v1 rfl rfl) h1
  obtain ⟨s, l, e2, hs⟩ := rd_vds (arg_slice 7 Tryd.underlying63 (by kernel_rfl) (hval 2 63 v2 rfl rfl) h2)
  simp only [List.cons.injEq, and_true] at e2
  subst e2
  obtain ⟨t, rfl, _⟩ := arg_int Tryd.underlying5 (hval 3 5 v3 rfl rfl) h3
  obtain ⟨k, rfl, hk⟩ := arg_int Tryd.underlying5 (hval 4 5 v4 rfl rfl) h4
  exact law_run (VictimFree_S r n t k l s (u8_rng hr) (u8_rng hn) (u8_rng hk) (tabW_of rfl hL) hs)
set_option maxRecDepth 100000 in
theorem VictimFree_met (os : Os) (args : Array Value) : laidMetH Tryd.prog Rows.victimFreeRow.laid ((World.doorLaid Tryd.prog 14 os).forCall (fun _ _ => 0) ⟨#[], args, []⟩).memory :=
  laidMetH_of_parts3 (fuel := 8) (laidMet_of_run' 8 (by kernel_rfl) (by kernel_rfl)) (by kernel_rfl) (by kernel_rfl)
set_option maxRecDepth 100000 in
theorem VictimFree_lifted (os : Os) (started : os.Started) (H : Type) (enc : TypeId × Value → H) :
    ReturnsInHanded {} Tryd.checked os 8 .any (fun w args => (Rows.victimFreeSpec.pre enc Tryd.prog Tryd.f8 [] false w args ∧ laidMetH Tryd.prog Rows.victimFreeRow.laid w) ∧ sizedMet enc Tryd.prog Tryd.f8 (OpenSpec.ofChange Rows.victimFreeSpec) false w args) (Rows.victimFreeSpec.post enc Tryd.prog Tryd.f8 false true false false) :=
  lift_trueT started Tryd.func8 (by kernel_rfl)
    (ChangeSpec.witness_shaped (enc := enc) (C := Tryd.checked) (os := os) (X := fun w _ => laidMetH Tryd.prog Rows.victimFreeRow.laid w) false (World.doorLaid Tryd.prog 14 os) #[.int .u8 0, .int .u8 0, .slice none 0 0, .int .u8 0, .int .u8 0] 8 rfl (World.shaped_of_RefB (by kernel_rfl) (by kernel_rfl)) (by kernel_rfl) (by kernel_rfl) (by kernel_rfl) (VictimFree_met os _))
    rfl rfl (by kernel_rfl) (fun ds h => by match ds, h with | [a0, a1, a2, a3, a4], _ => rfl) (VictimFree_law enc)
theorem VictimFree_over : Rows.victimFreeRow.holds Tryd.pinned (OpenSpec.ofChange Rows.victimFreeSpec) :=
  OpenClaim.holds_of_wide 8 Tryd.f8 rfl rfl rfl rfl rfl rfl rfl ⟨rfl, rfl, rfl, rfl, rfl⟩ rfl rfl rfl rfl rfl (by kernel_rfl) Tryd.func8 (by kernel_rfl)
    (of_decide_eq_true (by kernel_rfl)) (by unfold Func.isWrapper; first | (rw [if_pos (by decide +kernel)]; kernel_rfl) | (rw [if_neg (by decide +kernel)]; exact ⟨rfl, rfl⟩))
    (fun os started H enc _ => VictimFree_lifted os started H enc)
theorem VictimFree_holds : Rows.VictimFreeCardSaid :=
  Claim7.holds_tied_plain_at .later [] [.data] true (true, "159500d8f53921207f8a94d76c36f16f18e500f3350336e687406a81b385dd96") true
    VictimFree_over (fun _ h => by cases h) (by kernel_rfl) (fun _ h => by cases h) victimFree_row_tie rfl ⟨rfl, rfl⟩ (by kernel_rfl) rfl
    (fun f fn hf hfn => by
      obtain rfl : f = 8 := Option.some.inj ((show Tryd.prog.funcNamed "quadrille/quadrillelaw15.VictimFree" = some 8 by kernel_rfl).symm.trans hf) |>.symm
      obtain rfl : fn = Tryd.f8 := (Option.some.inj (Tryd.func8.symm.trans hfn)).symm
      exact ⟨by kernel_rfl, fun j t ht => by
        rw [Tryd.params8] at ht
        have hm : t ∈ [5, 5, 63, 5, 5] := by simpa using Array.mem_of_getElem? ht
        have hall : ([5, 5, 63, 5, 5].all fun u => !Tryd.prog.wantsStandIn u) = true := by kernel_rfl
        exact (show Tryd.prog.wantsStandIn t = false by simpa using List.all_eq_true.1 hall t hm)⟩)
    (by kernel_rfl)
#print axioms VictimFree_holds
end Go.Proofs.YtbhnbnecaejjiaaDoor
