/- ShuffleFull: once rows were put together no two that have anybody can be; a second time moves nothing. -/
import Derived.Test.YtbhnbnecaejjiaaDoorShuffleAgain
namespace Go.Proofs.YtbhnbnecaejjiaaDoor
open Go.RowKit
set_option maxRecDepth 20000
/-- At the first x nodes: does nobody stand in both rows? -/
def apUp (m : Mx) (i j : Nat) : Nat → Bool
  | 0 => true
  | x + 1 => apUp m i j x && (decide (atR m i x = 0) || decide (atR m j x = 0))
theorem apUp_no {m : Mx} (hm : MxOk m) {i j : Nat} (hi : i < m.R) (hj : j < m.R) (h : tk m.js j &&& tk m.js i ≠ 0#16) : apUp m i j m.N = false := by
  obtain ⟨k, k1, k2⟩ := meet_iff.1 h
  have hkN : k < m.N := by
    obtain ⟨x, x1, _, x3⟩ := (tk_bit _ _ _).1 k1
    exact hm.ns x x1 k x3
  have hat : ∀ r, r < m.R → (tk m.js r).getLsbD k = true → atR m r k ≠ 0 := fun r hr hb => by
    rw [atR, rowB_iff.2 ⟨by omega, by omega⟩, nodeB_iff.2 ⟨by omega, by omega⟩]
    intro e
    have e : atJ m.js r k = 0 := e
    rw [(busy_iff hm).1 e] at hb
    cases hb
  have hall : ∀ x, k < x → apUp m i j x = false := fun x => by
    induction x with
    | zero => intro h; omega
    | succ x ih =>
      intro hx
      rw [apUp]
      by_cases e : k = x
      · subst e
        rw [decide_eq_false (hat i hi k2), decide_eq_false (hat j hj k1)]
        simp
      · rw [ih (by omega)]
        rfl
  exact hall m.N hkN
theorem apUp_eq (m : Mx) (i j x : Nat) : apUp m i j (x + 1) = (apUp m i j x && (decide (((atR m i x : Nat) : Int) = 0) || decide (((atR m j x : Nat) : Int) = 0))) := by
  rw [apUp]
  have e1 : decide (atR m i x = 0) = decide (((atR m i x : Nat) : Int) = 0) := decide_eq_decide.2 (by omega)
  have e2 : decide (atR m j x = 0) = decide (((atR m j x : Nat) : Int) = 0) := decide_eq_decide.2 (by omega)
  rw [e1, e2]
theorem ShuffleFull_S (r n : Int) (l : List Sd) (s : SV) (hr : 0 ≤ r ∧ r ≤ 255) (hn : 0 ≤ n ∧ n ≤ 255) {W : World} (hW : TabW W) (hs : SW W s l) : LawS 3 [.int .u8 r, .int .u8 n, s.v] W := by
  refine Spec.of_body Tryd.func3 rfl Tryd.ntmps3 rfl ?_
  intro w0 Γ
  show S _ w0 [(0, .int .u8 r), (1, .int .u8 n), (2, s.v)] (old W :: Γ) _
  obtain ⟨m, hm⟩ : ∃ m, m = bldR r n l 0#16 := ⟨_, rfl⟩
  have hok : MxOk m := by rw [hm]; exact bldR_ok r n l _
  obtain ⟨c, hc⟩ : ∃ c, c = (unifyR m).1 := ⟨_, rfl⟩
  have hst := unify_Cr hok
  rw [← hc] at hst
  obtain ⟨hco, hcR, hcr⟩ := hst
  rw [← hcR] at hcr
  have hun := unify_still hco hcr
  have hR8 := hco.R8
  have hN16 := hco.N16
  refine S.seq fun K1 hK1 => ?_
  refine S.region rfl ?_
  refine S.op (S.q (q_assign rfl) rfl rfl ?_)
  first | with_reducible refine S.nilK ?_ | refine S.nil ?_
  refine hK1 _ _ ?_
  refine S.seq fun K2 hK2 => ?_
  refine S.seq fun K3 hK3 => ?_
  refine S.region rfl ?_
  refine S.op (S.call Tryd.en13 (vs := []) trivial (awake_S hW) rfl ?_)
  rintro v Θ ⟨rfl, rfl⟩
  refine S.op (S.q (q_not rfl) rfl rfl ?_)
  first | with_reducible refine S.nilK ?_ | refine S.nil ?_
  refine hK3 _ _ ?_
  refine S.condF rfl ?_
  refine S.skip ?_
  with_reducible repeat (first | refine S.then_n ?_ | refine S.then_x ?_ | refine S.then_r ?_ | refine S.inBlock_n ?_ | refine S.inBlock_r ?_ | refine S.inBlock_x rfl ?_ | refine S.noGoto_r ?_ | refine S.noGoto_n ?_ | refine S.noGoto_x ?_)
  refine hK2 _ _ ?_
  refine S.seq fun K4 hK4 => ?_
  refine S.region rfl ?_
  refine S.op (S.q (q_move rfl) rfl rfl ?_)
  refine S.op (S.q (q_move rfl) rfl rfl ?_)
  refine S.op (S.q (q_move rfl) rfl rfl ?_)
  refine S.op (S.call Tryd.en14 (vs := [_, _, _, _]) ⟨rfl, rfl, rfl, rfl, trivial⟩ (build_S r n l 0#16 s hr hn hs) rfl ?_)
  rintro v Θ ⟨b, x, rfl, rfl⟩
  rw [← hm]
  refine S.op (S.q (q_move rfl) rfl rfl ?_)
  refine S.op (S.q (q_extract rfl rfl) rfl rfl ?_)
  refine S.op (S.q (q_extract rfl rfl) rfl rfl ?_)
  refine S.op (S.q (q_assign rfl) rfl rfl ?_)
  refine S.op (S.q (q_assign rfl) rfl rfl ?_)
  first | with_reducible refine S.nilK ?_ | refine S.nil ?_
  refine hK4 _ _ ?_
  refine S.seq fun K5 hK5 => ?_
  refine S.region rfl ?_
  refine S.op (S.q (q_move rfl) rfl rfl ?_)
  refine S.op (S.call Tryd.en15 (vs := [_]) ⟨rfl, trivial⟩ (Unify_S b m hW) rfl ?_)
  rintro v Θ ⟨b2, sv, rfl, _, rfl⟩
  rw [← hc]
  refine S.op (S.q (q_move rfl) rfl rfl ?_)
  refine S.op (S.q (q_extract rfl rfl) rfl rfl ?_)
  refine S.op (S.q (q_extract rfl rfl) rfl rfl ?_)
  refine S.op (S.q (q_assign rfl) rfl rfl ?_)
  refine S.op (S.q (q_assign rfl) rfl rfl ?_)
  first | with_reducible refine S.nilK ?_ | refine S.nil ?_
  refine hK5 _ _ ?_
  refine S.seq fun K6 hK6 => ?_
  refine S.region rfl ?_
  refine S.op (S.q (q_move rfl) rfl rfl ?_)
  refine S.op (S.call Tryd.en15 (vs := [_]) ⟨rfl, trivial⟩ (Unify_S b2 c hW) rfl ?_)
  rintro v Θ ⟨b3, s3, rfl, hs3, rfl⟩
  rw [hun] at hs3 ⊢
  simp only at hs3 ⊢
  have hs30 : s3.n = 0 := hs3
  refine S.op (S.q (q_move rfl) rfl rfl ?_)
  refine S.op (S.q (q_extract rfl rfl) rfl rfl ?_)
  refine S.op (S.q (q_extract rfl rfl) rfl rfl ?_)
  refine S.op (S.q (q_assign rfl) rfl rfl ?_)
  refine S.op (S.q (q_assign rfl) rfl rfl ?_)
  first | with_reducible refine S.nilK ?_ | refine S.nil ?_
  refine hK6 _ _ ?_
  refine S.seq fun K7 hK7 => ?_
  refine S.seq fun K8 hK8 => ?_
  refine S.region rfl ?_
  refine S.op (S.q (q_move rfl) rfl rfl ?_)
  refine S.op (S.q (q_len Tryd.underlying29 rfl) rfl rfl ?_)
  refine S.op (S.q (q_gt rfl rfl) rfl rfl ?_)
  first | with_reducible refine S.nilK ?_ | refine S.nil ?_
  refine hK8 _ _ ?_
  refine S.condD rfl (fun h2 => ?_) (fun h2 => ?_)
  · omega
  · refine S.skip ?_
    with_reducible repeat (first | refine S.then_n ?_ | refine S.then_x ?_ | refine S.then_r ?_ | refine S.inBlock_n ?_ | refine S.inBlock_r ?_ | refine S.inBlock_x rfl ?_ | refine S.noGoto_r ?_ | refine S.noGoto_n ?_ | refine S.noGoto_x ?_)
    refine hK7 _ _ ?_
    refine S.seq fun K9 hK9 => ?_
    refine S.region rfl ?_
    refine S.op (S.q (q_move rfl) rfl rfl ?_)
    refine S.op (S.call Tryd.en16 (vs := [_]) ⟨rfl, trivial⟩ (Size_S b2 c) rfl ?_)
    rintro v Θ ⟨rfl, rfl⟩
    refine S.op (S.q (q_move rfl) rfl rfl ?_)
    refine S.op (S.q (q_extract rfl rfl) rfl rfl ?_)
    refine S.op (S.q (q_extract rfl rfl) rfl rfl ?_)
    refine S.op (S.q (q_assign rfl) rfl rfl ?_)
    refine S.op (S.q (q_assign rfl) rfl rfl ?_)
    first | with_reducible refine S.nilK ?_ | refine S.nil ?_
    refine hK9 _ _ ?_
    refine S.seq fun K10 hK10 => ?_
    refine S.seq fun K11 hK11 => ?_
    refine S.region rfl ?_
    refine S.op (S.q (q_move rfl) rfl rfl ?_)
    refine S.op (S.q (q_move rfl) rfl rfl ?_)
    first | with_reducible refine S.nilK ?_ | refine S.nil ?_
    refine hK11 _ _ ?_
    refine S.block ?_
    refine S.loop (fun q ρ' Γ' => ∃ i : Nat, q = c.R - i ∧ i ≤ c.R ∧ ρ' = [(9, .pointer (some ⟨b2, 0, none⟩)), (14, .int .i64 (c.N : Int)), (46, .int .i64 (c.R : Int)), (47, .int .i64 (i : Int))] ∧ Γ' = MI b2 c :: old W :: Γ) (m := _) (ρ0 := _) (Γ0 := _) (⟨0, rfl, by omega, rfl, rfl⟩) (by repeat (first | exact trivial | refine ⟨rfl, ?_⟩)) Sub.ent ?_
    rintro q ρ' Γ' ⟨i, hq, hi, rfl, rfl⟩
    refine S.seq fun K12 hK12 => ?_
    refine S.region rfl ?_
    refine S.op (S.q (q_lt rfl rfl) rfl rfl ?_)
    first | with_reducible refine S.nilK ?_ | refine S.nil ?_
    refine hK12 _ _ ?_
    refine S.seq fun K13 hK13 => ?_
    refine S.condD rfl (fun h3 => ?_) (fun h3 => ?_)
    · refine S.skip ?_
      with_reducible repeat (first | refine S.then_n ?_ | refine S.then_x ?_ | refine S.then_r ?_ | refine S.inBlock_n ?_ | refine S.inBlock_r ?_ | refine S.inBlock_x rfl ?_ | refine S.noGoto_r ?_ | refine S.noGoto_n ?_ | refine S.noGoto_x ?_)
      refine hK13 _ _ ?_
      refine S.seq fun K14 hK14 => ?_
      refine S.block ?_
      refine S.seq fun K15 hK15 => ?_
      refine S.region rfl ?_
      refine S.op (S.q (q_move rfl) rfl rfl ?_)
      refine S.op (S.q (q_assign rfl) rfl rfl ?_)
      first | with_reducible refine S.nilK ?_ | refine S.nil ?_
      refine hK15 _ _ ?_
      refine S.seq fun K16 hK16 => ?_
      refine S.region rfl ?_
      refine S.op (S.q (q_move rfl) rfl rfl ?_)
      refine S.op (S.q (q_move rfl) rfl rfl ?_)
      first | with_reducible refine S.nilK ?_ | refine S.nil ?_
      refine hK16 _ _ ?_
      refine S.block ?_
      refine S.loop (fun q2 ρ' Γ' => ∃ j : Nat, q2 = i - j ∧ j ≤ i ∧ ρ' = [(9, .pointer (some ⟨b2, 0, none⟩)), (14, .int .i64 (c.N : Int)), (15, .int .i64 (i : Int)), (46, .int .i64 (c.R : Int)), (47, .int .i64 (i : Int)), (50, .int .i64 (i : Int)), (51, .int .i64 (j : Int))] ∧ Γ' = MI b2 c :: old W :: Γ) (m := _) (ρ0 := _) (Γ0 := _) (⟨0, rfl, by omega, rfl, rfl⟩) (by repeat (first | exact trivial | refine ⟨rfl, ?_⟩)) Sub.ent ?_
      rintro q2 ρ' Γ' ⟨j, hq2, hj, rfl, rfl⟩
      refine S.seq fun K17 hK17 => ?_
      refine S.region rfl ?_
      refine S.op (S.q (q_lt rfl rfl) rfl rfl ?_)
      first | with_reducible refine S.nilK ?_ | refine S.nil ?_
      refine hK17 _ _ ?_
      refine S.seq fun K18 hK18 => ?_
      refine S.condD rfl (fun h4 => ?_) (fun h4 => ?_)
      · refine S.skip ?_
        with_reducible repeat (first | refine S.then_n ?_ | refine S.then_x ?_ | refine S.then_r ?_ | refine S.inBlock_n ?_ | refine S.inBlock_r ?_ | refine S.inBlock_x rfl ?_ | refine S.noGoto_r ?_ | refine S.noGoto_n ?_ | refine S.noGoto_x ?_)
        refine hK18 _ _ ?_
        refine S.seq fun K19 hK19 => ?_
        refine S.cut (fun ρ' Γ' => ρ' = [(9, .pointer (some ⟨b2, 0, none⟩)), (14, .int .i64 (c.N : Int)), (15, .int .i64 (i : Int)), (46, .int .i64 (c.R : Int)), (47, .int .i64 (i : Int)), (50, .int .i64 (i : Int)), (51, .int .i64 (j : Int))] ∧ Γ' = MI b2 c :: old W :: Γ) ?_ ?_
        · refine S.block ?_
          refine S.seq fun K20 hK20 => ?_
          refine S.region rfl ?_
          refine S.op (S.q (q_move rfl) rfl rfl ?_)
          refine S.op (S.q (q_assign rfl) rfl rfl ?_)
          first | with_reducible refine S.nilK ?_ | refine S.nil ?_
          refine hK20 _ _ ?_
          refine S.seq fun K21 hK21 => ?_
          refine S.seq fun K22 hK22 => ?_
          refine S.regionG ?_
          refine S.g_op rfl (S.q (q_move rfl) rfl rfl ?_)
          refine S.g_op rfl (S.q (q_move rfl) rfl rfl ?_)
          refine S.g_op rfl (S.call Tryd.en17 (vs := [_, _]) ⟨rfl, rfl, trivial⟩ (Row_S b2 c i hW) rfl ?_)
          rintro v Θ ⟨r1, rfl, hr1, rfl⟩
          refine S.g_op rfl (S.q (q_len Tryd.underlying34 rfl) rfl rfl ?_)
          refine S.g_op rfl (S.q (q_eq rfl rfl) rfl rfl ?_)
          refine S.g_op rfl (S.q (q_move rfl) rfl rfl ?_)
          by_cases hg15_5 : (r1.n : Int) = 0
          · refine S.g_no rfl rfl rfl (decide_eq_true hg15_5) rfl rfl ?_
            refine S.g_no rfl rfl rfl (decide_eq_true hg15_5) rfl rfl ?_
            refine S.g_no rfl rfl rfl (decide_eq_true hg15_5) rfl rfl ?_
            refine S.g_no rfl rfl rfl (decide_eq_true hg15_5) rfl rfl ?_
            refine S.g_no rfl rfl rfl (decide_eq_true hg15_5) rfl rfl ?_
            refine S.g_op rfl (S.q (q_pickT rfl (decide_eq_true hg15_5) rfl) rfl rfl ?_)
            first | with_reducible refine S.g_nilK ?_ | refine S.g_nil ?_
            refine hK22 _ _ ?_
            refine S.condT rfl ?_
            refine S.exit ?_
            with_reducible repeat (first | refine S.then_n ?_ | refine S.then_x ?_ | refine S.then_r ?_ | refine S.inBlock_n ?_ | refine S.inBlock_r ?_ | refine S.inBlock_x rfl ?_ | refine S.noGoto_r ?_ | refine S.noGoto_n ?_ | refine S.noGoto_x ?_)
            with_reducible refine S.inBlock_s ?_
            with_reducible repeat (first | refine S.then_n ?_ | refine S.then_x ?_ | refine S.then_r ?_ | refine S.inBlock_n ?_ | refine S.inBlock_r ?_ | refine S.inBlock_x rfl ?_ | refine S.noGoto_r ?_ | refine S.noGoto_n ?_ | refine S.noGoto_x ?_)
            with_reducible repeat (first | refine S.then_n ?_ | refine S.then_x ?_ | refine S.then_r ?_ | refine S.inBlock_n ?_ | refine S.inBlock_r ?_ | refine S.inBlock_x rfl ?_ | refine S.noGoto_r ?_ | refine S.noGoto_n ?_ | refine S.noGoto_x ?_)
            exact S.meet ⟨rfl, rfl⟩ ⟨rfl, rfl, rfl, rfl, rfl, rfl, rfl, trivial⟩ Sub.ent
          · refine S.g_yes rfl rfl rfl (decide_eq_false hg15_5) (S.q (q_move rfl) rfl rfl ?_)
            refine S.g_yes rfl rfl rfl (decide_eq_false hg15_5) (S.q (q_move rfl) rfl rfl ?_)
            refine S.g_yes rfl rfl rfl (decide_eq_false hg15_5) (S.call Tryd.en17 (vs := [_, _]) ⟨rfl, rfl, trivial⟩ (Row_S b2 c j hW) rfl ?_)
            rintro v Θ ⟨r2, rfl, hr2, rfl⟩
            refine S.g_yes rfl rfl rfl (decide_eq_false hg15_5) (S.q (q_len Tryd.underlying34 rfl) rfl rfl ?_)
            refine S.g_yes rfl rfl rfl (decide_eq_false hg15_5) (S.q (q_eq rfl rfl) rfl rfl ?_)
            refine S.g_op rfl (S.q (q_pickF rfl (decide_eq_false hg15_5) rfl) rfl rfl ?_)
            first | with_reducible refine S.g_nilK ?_ | refine S.g_nil ?_
            refine hK22 _ _ ?_
            refine S.condD rfl (fun h5 => ?_) (fun h5 => ?_)
            · refine S.exit ?_
              with_reducible repeat (first | refine S.then_n ?_ | refine S.then_x ?_ | refine S.then_r ?_ | refine S.inBlock_n ?_ | refine S.inBlock_r ?_ | refine S.inBlock_x rfl ?_ | refine S.noGoto_r ?_ | refine S.noGoto_n ?_ | refine S.noGoto_x ?_)
              with_reducible refine S.inBlock_s ?_
              with_reducible repeat (first | refine S.then_n ?_ | refine S.then_x ?_ | refine S.then_r ?_ | refine S.inBlock_n ?_ | refine S.inBlock_r ?_ | refine S.inBlock_x rfl ?_ | refine S.noGoto_r ?_ | refine S.noGoto_n ?_ | refine S.noGoto_x ?_)
              with_reducible repeat (first | refine S.then_n ?_ | refine S.then_x ?_ | refine S.then_r ?_ | refine S.inBlock_n ?_ | refine S.inBlock_r ?_ | refine S.inBlock_x rfl ?_ | refine S.noGoto_r ?_ | refine S.noGoto_n ?_ | refine S.noGoto_x ?_)
              exact S.meet ⟨rfl, rfl⟩ ⟨rfl, rfl, rfl, rfl, rfl, rfl, rfl, trivial⟩ Sub.ent
            · have hne : tk c.js j &&& tk c.js i ≠ 0#16 := by
                rcases hcr j i (by omega) (by omega) with h9 | h9
                · have h8 := (rowIds_nil hco (show i < c.R by omega)).2 h9
                  rw [h8] at hr1
                  simp at hr1
                  omega
                · exact h9
              have hap := apUp_no hco (show i < c.R by omega) (show j < c.R by omega) hne
              refine S.skip ?_
              with_reducible repeat (first | refine S.then_n ?_ | refine S.then_x ?_ | refine S.then_r ?_ | refine S.inBlock_n ?_ | refine S.inBlock_r ?_ | refine S.inBlock_x rfl ?_ | refine S.noGoto_r ?_ | refine S.noGoto_n ?_ | refine S.noGoto_x ?_)
              refine hK21 _ _ ?_
              refine S.seq fun K23 hK23 => ?_
              refine S.region rfl ?_
              refine S.op (S.q (q_assign rfl) rfl rfl ?_)
              first | with_reducible refine S.nilK ?_ | refine S.nil ?_
              refine hK23 _ _ ?_
              refine S.seq fun K24 hK24 => ?_
              refine S.seq fun K25 hK25 => ?_
              refine S.region rfl ?_
              refine S.op (S.q (q_move rfl) rfl rfl ?_)
              refine S.op (S.q (q_move rfl) rfl rfl ?_)
              first | with_reducible refine S.nilK ?_ | refine S.nil ?_
              refine hK25 _ _ ?_
              refine S.block ?_
              refine S.loop (fun q3 ρ' Γ' => ∃ x : Nat, q3 = c.N - x ∧ x ≤ c.N ∧ ρ' = [(9, .pointer (some ⟨b2, 0, none⟩)), (14, .int .i64 (c.N : Int)), (15, .int .i64 (i : Int)), (16, .int .i64 (j : Int)), (17, .bool (apUp c i j x)), (46, .int .i64 (c.R : Int)), (47, .int .i64 (i : Int)), (50, .int .i64 (i : Int)), (51, .int .i64 (j : Int)), (66, .int .i64 (c.N : Int)), (67, .int .i64 (x : Int))] ∧ Γ' = MI b2 c :: old W :: Γ) (m := _) (ρ0 := _) (Γ0 := _) (⟨0, rfl, by omega, rfl, rfl⟩) (by repeat (first | exact trivial | refine ⟨rfl, ?_⟩)) Sub.ent ?_
              rintro q3 ρ' Γ' ⟨x, hq3, hx, rfl, rfl⟩
              refine S.seq fun K26 hK26 => ?_
              refine S.region rfl ?_
              refine S.op (S.q (q_lt rfl rfl) rfl rfl ?_)
              first | with_reducible refine S.nilK ?_ | refine S.nil ?_
              refine hK26 _ _ ?_
              refine S.seq fun K27 hK27 => ?_
              refine S.condD rfl (fun h6 => ?_) (fun h6 => ?_)
              · refine S.skip ?_
                with_reducible repeat (first | refine S.then_n ?_ | refine S.then_x ?_ | refine S.then_r ?_ | refine S.inBlock_n ?_ | refine S.inBlock_r ?_ | refine S.inBlock_x rfl ?_ | refine S.noGoto_r ?_ | refine S.noGoto_n ?_ | refine S.noGoto_x ?_)
                refine hK27 _ _ ?_
                refine S.seq fun K28 hK28 => ?_
                refine S.cut (fun ρ' Γ' => ρ' = [(9, .pointer (some ⟨b2, 0, none⟩)), (14, .int .i64 (c.N : Int)), (15, .int .i64 (i : Int)), (16, .int .i64 (j : Int)), (17, .bool (apUp c i j (x + 1))), (46, .int .i64 (c.R : Int)), (47, .int .i64 (i : Int)), (50, .int .i64 (i : Int)), (51, .int .i64 (j : Int)), (66, .int .i64 (c.N : Int)), (67, .int .i64 (x : Int))] ∧ Γ' = MI b2 c :: old W :: Γ) ?_ ?_
                · refine S.block ?_
                  refine S.seq fun K29 hK29 => ?_
                  refine S.region rfl ?_
                  refine S.op (S.q (q_move rfl) rfl rfl ?_)
                  refine S.op (S.q (q_assign rfl) rfl rfl ?_)
                  first | with_reducible refine S.nilK ?_ | refine S.nil ?_
                  refine hK29 _ _ ?_
                  refine S.regionG ?_
                  refine S.g_op rfl (S.q (q_move rfl) rfl rfl ?_)
                  refine S.g_op rfl (S.q (q_move rfl) rfl rfl ?_)
                  rcases Bool.eq_false_or_eq_true (apUp c i j x) with hg20_1 | hg20_1
                  · refine S.g_yes rfl rfl rfl (hg20_1) (S.q (q_move rfl) rfl rfl ?_)
                    refine S.g_yes rfl rfl rfl (hg20_1) (S.q (q_move rfl) rfl rfl ?_)
                    refine S.g_yes rfl rfl rfl (hg20_1) (S.q (q_move rfl) rfl rfl ?_)
                    refine S.g_yes rfl rfl rfl (hg20_1) (S.call Tryd.en18 (vs := [_, _, _]) ⟨rfl, rfl, rfl, trivial⟩ (At_S b2 c i x) rfl ?_)
                    rintro v Θ ⟨rfl, rfl⟩
                    refine S.g_yes rfl rfl rfl (hg20_1) (S.q (q_eq rfl rfl) rfl rfl ?_)
                    refine S.g_yes rfl rfl rfl (hg20_1) (S.q (q_move rfl) rfl rfl ?_)
                    by_cases hg20_7 : ((atR c i x : Nat) : Int) = 0
                    · refine S.g_no rfl rfl rfl (decide_eq_true hg20_7) rfl rfl ?_
                      refine S.g_no rfl rfl rfl (decide_eq_true hg20_7) rfl rfl ?_
                      refine S.g_no rfl rfl rfl (decide_eq_true hg20_7) rfl rfl ?_
                      refine S.g_no rfl rfl rfl (decide_eq_true hg20_7) rfl rfl ?_
                      refine S.g_no rfl rfl rfl (decide_eq_true hg20_7) rfl rfl ?_
                      refine S.g_yes rfl rfl rfl (hg20_1) (S.q (q_pickT rfl (decide_eq_true hg20_7) rfl) rfl rfl ?_)
                      refine S.g_op rfl (S.q (q_pickT rfl (hg20_1) rfl) rfl rfl ?_)
                      refine S.g_op rfl (S.q (q_assign rfl) rfl rfl ?_)
                      first | with_reducible refine S.g_nilK ?_ | refine S.g_nil ?_
                      with_reducible repeat (first | refine S.then_n ?_ | refine S.then_x ?_ | refine S.then_r ?_ | refine S.inBlock_n ?_ | refine S.inBlock_r ?_ | refine S.inBlock_x rfl ?_ | refine S.noGoto_r ?_ | refine S.noGoto_n ?_ | refine S.noGoto_x ?_)
                      with_reducible repeat (first | refine S.then_n ?_ | refine S.then_x ?_ | refine S.then_r ?_ | refine S.inBlock_n ?_ | refine S.inBlock_r ?_ | refine S.inBlock_x rfl ?_ | refine S.noGoto_r ?_ | refine S.noGoto_n ?_ | refine S.noGoto_x ?_)
                      have he := apUp_eq c i j x
                      first | (rw [he, hg20_1, decide_eq_true hg20_7]; exact S.meet ⟨rfl, rfl⟩ ⟨rfl, rfl, rfl, rfl, rfl, rfl, rfl, rfl, rfl, rfl, rfl, trivial⟩ Sub.ent) | (rw [he, hg20_1, decide_eq_false hg20_7]; exact S.meet ⟨rfl, rfl⟩ ⟨rfl, rfl, rfl, rfl, rfl, rfl, rfl, rfl, rfl, rfl, rfl, trivial⟩ Sub.ent) | (rw [he, hg20_1]; exact S.meet ⟨rfl, rfl⟩ ⟨rfl, rfl, rfl, rfl, rfl, rfl, rfl, rfl, rfl, rfl, rfl, trivial⟩ Sub.ent)
                    · refine S.g_yes rfl rfl rfl (decide_eq_false hg20_7) (S.q (q_move rfl) rfl rfl ?_)
                      refine S.g_yes rfl rfl rfl (decide_eq_false hg20_7) (S.q (q_move rfl) rfl rfl ?_)
                      refine S.g_yes rfl rfl rfl (decide_eq_false hg20_7) (S.q (q_move rfl) rfl rfl ?_)
                      refine S.g_yes rfl rfl rfl (decide_eq_false hg20_7) (S.call Tryd.en18 (vs := [_, _, _]) ⟨rfl, rfl, rfl, trivial⟩ (At_S b2 c j x) rfl ?_)
                      rintro v Θ ⟨rfl, rfl⟩
                      refine S.g_yes rfl rfl rfl (decide_eq_false hg20_7) (S.q (q_eq rfl rfl) rfl rfl ?_)
                      refine S.g_yes rfl rfl rfl (hg20_1) (S.q (q_pickF rfl (decide_eq_false hg20_7) rfl) rfl rfl ?_)
                      refine S.g_op rfl (S.q (q_pickT rfl (hg20_1) rfl) rfl rfl ?_)
                      refine S.g_op rfl (S.q (q_assign rfl) rfl rfl ?_)
                      first | with_reducible refine S.g_nilK ?_ | refine S.g_nil ?_
                      with_reducible repeat (first | refine S.then_n ?_ | refine S.then_x ?_ | refine S.then_r ?_ | refine S.inBlock_n ?_ | refine S.inBlock_r ?_ | refine S.inBlock_x rfl ?_ | refine S.noGoto_r ?_ | refine S.noGoto_n ?_ | refine S.noGoto_x ?_)
                      with_reducible repeat (first | refine S.then_n ?_ | refine S.then_x ?_ | refine S.then_r ?_ | refine S.inBlock_n ?_ | refine S.inBlock_r ?_ | refine S.inBlock_x rfl ?_ | refine S.noGoto_r ?_ | refine S.noGoto_n ?_ | refine S.noGoto_x ?_)
                      have he := apUp_eq c i j x
                      first | (rw [he, hg20_1, decide_eq_true hg20_7]; exact S.meet ⟨rfl, rfl⟩ ⟨rfl, rfl, rfl, rfl, rfl, rfl, rfl, rfl, rfl, rfl, rfl, trivial⟩ Sub.ent) | (rw [he, hg20_1, decide_eq_false hg20_7]; exact S.meet ⟨rfl, rfl⟩ ⟨rfl, rfl, rfl, rfl, rfl, rfl, rfl, rfl, rfl, rfl, rfl, trivial⟩ Sub.ent) | (rw [he, hg20_1]; exact S.meet ⟨rfl, rfl⟩ ⟨rfl, rfl, rfl, rfl, rfl, rfl, rfl, rfl, rfl, rfl, rfl, trivial⟩ Sub.ent)
                  · refine S.g_no rfl rfl rfl (hg20_1) rfl rfl ?_
                    refine S.g_no rfl rfl rfl (hg20_1) rfl rfl ?_
                    refine S.g_no rfl rfl rfl (hg20_1) rfl rfl ?_
                    refine S.g_no rfl rfl rfl (hg20_1) rfl rfl ?_
                    refine S.g_no rfl rfl rfl (hg20_1) rfl rfl ?_
                    refine S.g_no rfl rfl rfl (hg20_1) rfl rfl ?_
                    refine S.g_noU rfl rfl rfl rfl rfl ?_
                    refine S.g_noU rfl rfl rfl rfl rfl ?_
                    refine S.g_noU rfl rfl rfl rfl rfl ?_
                    refine S.g_noU rfl rfl rfl rfl rfl ?_
                    refine S.g_noU rfl rfl rfl rfl rfl ?_
                    refine S.g_no rfl rfl rfl (hg20_1) rfl rfl ?_
                    refine S.g_op rfl (S.q (q_pickF rfl (hg20_1) rfl) rfl rfl ?_)
                    refine S.g_op rfl (S.q (q_assign rfl) rfl rfl ?_)
                    first | with_reducible refine S.g_nilK ?_ | refine S.g_nil ?_
                    with_reducible repeat (first | refine S.then_n ?_ | refine S.then_x ?_ | refine S.then_r ?_ | refine S.inBlock_n ?_ | refine S.inBlock_r ?_ | refine S.inBlock_x rfl ?_ | refine S.noGoto_r ?_ | refine S.noGoto_n ?_ | refine S.noGoto_x ?_)
                    with_reducible repeat (first | refine S.then_n ?_ | refine S.then_x ?_ | refine S.then_r ?_ | refine S.inBlock_n ?_ | refine S.inBlock_r ?_ | refine S.inBlock_x rfl ?_ | refine S.noGoto_r ?_ | refine S.noGoto_n ?_ | refine S.noGoto_x ?_)
                    have he := apUp_eq c i j x
                    first | (rw [he, hg20_1, decide_eq_true hg20_7]; exact S.meet ⟨rfl, rfl⟩ ⟨rfl, rfl, rfl, rfl, rfl, rfl, rfl, rfl, rfl, rfl, rfl, trivial⟩ Sub.ent) | (rw [he, hg20_1, decide_eq_false hg20_7]; exact S.meet ⟨rfl, rfl⟩ ⟨rfl, rfl, rfl, rfl, rfl, rfl, rfl, rfl, rfl, rfl, rfl, trivial⟩ Sub.ent) | (rw [he, hg20_1]; exact S.meet ⟨rfl, rfl⟩ ⟨rfl, rfl, rfl, rfl, rfl, rfl, rfl, rfl, rfl, rfl, rfl, trivial⟩ Sub.ent)
                · rintro ρ' Γ' ⟨rfl, rfl⟩
                  refine hK28 _ _ ?_
                  refine S.region rfl ?_
                  refine S.op (S.q (q_add rfl rfl (inI64 (by omega) (by omega))) rfl rfl ?_)
                  refine S.op (S.q (q_move rfl) rfl rfl ?_)
                  first | with_reducible refine S.nilK ?_ | refine S.nil ?_
                  with_reducible repeat (first | refine S.then_n ?_ | refine S.then_x ?_ | refine S.then_r ?_ | refine S.inBlock_n ?_ | refine S.inBlock_r ?_ | refine S.inBlock_x rfl ?_ | refine S.noGoto_r ?_ | refine S.noGoto_n ?_ | refine S.noGoto_x ?_)
                  exact S.next (q3 - 1) (⟨x + 1, by omega, by omega, rfl, rfl⟩) (by omega) (by repeat (first | exact trivial | refine ⟨rfl, ?_⟩)) Sub.ent
              · rw [show x = c.N by omega, hap]
                refine S.exit ?_
                with_reducible repeat (first | refine S.then_n ?_ | refine S.then_x ?_ | refine S.then_r ?_ | refine S.inBlock_n ?_ | refine S.inBlock_r ?_ | refine S.inBlock_x rfl ?_ | refine S.noGoto_r ?_ | refine S.noGoto_n ?_ | refine S.noGoto_x ?_)
                with_reducible refine S.inBlock_s ?_
                with_reducible repeat (first | refine S.then_n ?_ | refine S.then_x ?_ | refine S.then_r ?_ | refine S.inBlock_n ?_ | refine S.inBlock_r ?_ | refine S.inBlock_x rfl ?_ | refine S.noGoto_r ?_ | refine S.noGoto_n ?_ | refine S.noGoto_x ?_)
                refine hK24 _ _ ?_
                refine S.seq fun K30 hK30 => ?_
                refine S.region rfl ?_
                refine S.op (S.q (q_move rfl) rfl rfl ?_)
                first | with_reducible refine S.nilK ?_ | refine S.nil ?_
                refine hK30 _ _ ?_
                refine S.condF rfl ?_
                refine S.skip ?_
                with_reducible repeat (first | refine S.then_n ?_ | refine S.then_x ?_ | refine S.then_r ?_ | refine S.inBlock_n ?_ | refine S.inBlock_r ?_ | refine S.inBlock_x rfl ?_ | refine S.noGoto_r ?_ | refine S.noGoto_n ?_ | refine S.noGoto_x ?_)
                with_reducible repeat (first | refine S.then_n ?_ | refine S.then_x ?_ | refine S.then_r ?_ | refine S.inBlock_n ?_ | refine S.inBlock_r ?_ | refine S.inBlock_x rfl ?_ | refine S.noGoto_r ?_ | refine S.noGoto_n ?_ | refine S.noGoto_x ?_)
                with_reducible repeat (first | refine S.then_n ?_ | refine S.then_x ?_ | refine S.then_r ?_ | refine S.inBlock_n ?_ | refine S.inBlock_r ?_ | refine S.inBlock_x rfl ?_ | refine S.noGoto_r ?_ | refine S.noGoto_n ?_ | refine S.noGoto_x ?_)
                exact S.meet ⟨rfl, rfl⟩ ⟨rfl, rfl, rfl, rfl, rfl, rfl, rfl, trivial⟩ Sub.ent
        · rintro ρ' Γ' ⟨rfl, rfl⟩
          refine hK19 _ _ ?_
          refine S.region rfl ?_
          refine S.op (S.q (q_add rfl rfl (inI64 (by omega) (by omega))) rfl rfl ?_)
          refine S.op (S.q (q_move rfl) rfl rfl ?_)
          first | with_reducible refine S.nilK ?_ | refine S.nil ?_
          with_reducible repeat (first | refine S.then_n ?_ | refine S.then_x ?_ | refine S.then_r ?_ | refine S.inBlock_n ?_ | refine S.inBlock_r ?_ | refine S.inBlock_x rfl ?_ | refine S.noGoto_r ?_ | refine S.noGoto_n ?_ | refine S.noGoto_x ?_)
          exact S.next (q2 - 1) (⟨j + 1, by omega, by omega, rfl, rfl⟩) (by omega) (by repeat (first | exact trivial | refine ⟨rfl, ?_⟩)) Sub.ent
      · refine S.exit ?_
        with_reducible repeat (first | refine S.then_n ?_ | refine S.then_x ?_ | refine S.then_r ?_ | refine S.inBlock_n ?_ | refine S.inBlock_r ?_ | refine S.inBlock_x rfl ?_ | refine S.noGoto_r ?_ | refine S.noGoto_n ?_ | refine S.noGoto_x ?_)
        with_reducible refine S.inBlock_s ?_
        with_reducible repeat (first | refine S.then_n ?_ | refine S.then_x ?_ | refine S.then_r ?_ | refine S.inBlock_n ?_ | refine S.inBlock_r ?_ | refine S.inBlock_x rfl ?_ | refine S.noGoto_r ?_ | refine S.noGoto_n ?_ | refine S.noGoto_x ?_)
        with_reducible repeat (first | refine S.then_n ?_ | refine S.then_x ?_ | refine S.then_r ?_ | refine S.inBlock_n ?_ | refine S.inBlock_r ?_ | refine S.inBlock_x rfl ?_ | refine S.noGoto_r ?_ | refine S.noGoto_n ?_ | refine S.noGoto_x ?_)
        refine hK14 _ _ ?_
        refine S.region rfl ?_
        refine S.op (S.q (q_add rfl rfl (inI64 (by omega) (by omega))) rfl rfl ?_)
        refine S.op (S.q (q_move rfl) rfl rfl ?_)
        first | with_reducible refine S.nilK ?_ | refine S.nil ?_
        with_reducible repeat (first | refine S.then_n ?_ | refine S.then_x ?_ | refine S.then_r ?_ | refine S.inBlock_n ?_ | refine S.inBlock_r ?_ | refine S.inBlock_x rfl ?_ | refine S.noGoto_r ?_ | refine S.noGoto_n ?_ | refine S.noGoto_x ?_)
        exact S.next (q - 1) (⟨i + 1, by omega, by omega, rfl, rfl⟩) (by omega) (by repeat (first | exact trivial | refine ⟨rfl, ?_⟩)) Sub.ent
    · refine S.exit ?_
      with_reducible repeat (first | refine S.then_n ?_ | refine S.then_x ?_ | refine S.then_r ?_ | refine S.inBlock_n ?_ | refine S.inBlock_r ?_ | refine S.inBlock_x rfl ?_ | refine S.noGoto_r ?_ | refine S.noGoto_n ?_ | refine S.noGoto_x ?_)
      with_reducible refine S.inBlock_s ?_
      with_reducible repeat (first | refine S.then_n ?_ | refine S.then_x ?_ | refine S.then_r ?_ | refine S.inBlock_n ?_ | refine S.inBlock_r ?_ | refine S.inBlock_x rfl ?_ | refine S.noGoto_r ?_ | refine S.noGoto_n ?_ | refine S.noGoto_x ?_)
      refine hK10 _ _ ?_
      refine S.seq fun K31 hK31 => ?_
      refine S.region rfl ?_
      refine S.op (S.q (q_assign rfl) rfl rfl ?_)
      first | with_reducible refine S.nilK ?_ | refine S.nil ?_
      refine hK31 _ _ ?_
      refine S.ret ?_
      with_reducible repeat (first | refine S.then_n ?_ | refine S.then_x ?_ | refine S.then_r ?_ | refine S.inBlock_n ?_ | refine S.inBlock_r ?_ | refine S.inBlock_x rfl ?_ | refine S.noGoto_r ?_ | refine S.noGoto_n ?_ | refine S.noGoto_x ?_)
      exact S.fin (rs := [_]) (vs := [_]) Tryd.results3 (⟨rfl, trivial⟩)  (⟨rfl, rfl⟩) Sub.ent
open Go.ChangeShapes Go.WideShapes Go.ChangeAt
theorem ShuffleFull_law {H : Type} (enc : TypeId × Value → H) : LawWalkT enc Rows.shuffleFullRow.laid 3 Tryd.f3 := by
  intro W base args ds before hval hA _ _ hL
  rw [Tryd.params3] at hA hval
  obtain ⟨v0, vs0, d0, ds0, p0, q0, hargs, rfl, rfl, h0, r0⟩ := trodAll_cons hA
  obtain ⟨v1, vs1, d1, ds1, p1, q1, rfl, rfl, rfl, h1, r1⟩ := trodAll_cons r0
  obtain ⟨v2, vs2, d2, ds2, p2, q2, rfl, rfl, rfl, h2, r2⟩ := trodAll_cons r1
  obtain ⟨rfl, rfl, rfl⟩ := trodAll_nil r2
  obtain rfl : args = #[v0, v1, v2] := by cases args; simp_all
  obtain ⟨r, rfl, hr⟩ := arg_int Tryd.underlying5 (hval 0 5 v0 rfl rfl) h0
  obtain ⟨n, rfl, hn⟩ := arg_int Tryd.underlying5 (hval 1 5 v1 rfl rfl) h1
  obtain ⟨s, l, e2, hs⟩ := rd_sds (arg_slice 5 Tryd.underlying22 (by kernel_rfl) (hval 2 22 v2 rfl rfl) h2)
  simp only [List.cons.injEq, and_true] at e2
  subst e2
  exact law_run (ShuffleFull_S r n l s (u8_rng hr) (u8_rng hn) (tabW_of rfl hL) hs)
set_option maxRecDepth 100000 in
theorem ShuffleFull_met (os : Os) (args : Array Value) : laidMetH Tryd.prog Rows.shuffleFullRow.laid ((World.doorLaid Tryd.prog 14 os).forCall (fun _ _ => 0) ⟨#[], args, []⟩).memory :=
  laidMetH_of_parts3 (fuel := 8) (laidMet_of_run' 8 (by kernel_rfl) (by kernel_rfl)) (by kernel_rfl) (by kernel_rfl)
set_option maxRecDepth 100000 in
theorem ShuffleFull_lifted (os : Os) (started : os.Started) (H : Type) (enc : TypeId × Value → H) :
    ReturnsInHanded {} Tryd.checked os 3 .any (fun w args => (Rows.shuffleFullSpec.pre enc Tryd.prog Tryd.f3 [] false w args ∧ laidMetH Tryd.prog Rows.shuffleFullRow.laid w) ∧ sizedMet enc Tryd.prog Tryd.f3 (OpenSpec.ofChange Rows.shuffleFullSpec) false w args) (Rows.shuffleFullSpec.post enc Tryd.prog Tryd.f3 false true false false) :=
  lift_trueT started Tryd.func3 (by kernel_rfl)
    (ChangeSpec.witness_shaped (enc := enc) (C := Tryd.checked) (os := os) (X := fun w _ => laidMetH Tryd.prog Rows.shuffleFullRow.laid w) false (World.doorLaid Tryd.prog 14 os) #[.int .u8 0, .int .u8 0, .slice none 0 0] 8 rfl (World.shaped_of_RefB (by kernel_rfl) (by kernel_rfl)) (by kernel_rfl) (by kernel_rfl) (by kernel_rfl) (ShuffleFull_met os _))
    rfl rfl (by kernel_rfl) (fun ds h => by match ds, h with | [a0, a1, a2], _ => rfl) (ShuffleFull_law enc)
theorem ShuffleFull_over : Rows.shuffleFullRow.holds Tryd.pinned (OpenSpec.ofChange Rows.shuffleFullSpec) :=
  OpenClaim.holds_of_wide 3 Tryd.f3 rfl rfl rfl rfl rfl rfl rfl ⟨rfl, rfl, rfl, rfl, rfl⟩ rfl rfl rfl rfl rfl (by kernel_rfl) Tryd.func3 (by kernel_rfl)
    (of_decide_eq_true (by kernel_rfl)) (by unfold Func.isWrapper; first | (rw [if_pos (by decide +kernel)]; kernel_rfl) | (rw [if_neg (by decide +kernel)]; exact ⟨rfl, rfl⟩))
    (fun os started H enc _ => ShuffleFull_lifted os started H enc)
theorem ShuffleFull_holds : Rows.ShuffleFullCardSaid :=
  Claim7.holds_tied_plain_at .later [] [.data] true (true, "159500d8f53921207f8a94d76c36f16f18e500f3350336e687406a81b385dd96") true
    ShuffleFull_over (fun _ h => by cases h) (by kernel_rfl) (fun _ h => by cases h) shuffleFull_row_tie rfl ⟨rfl, rfl⟩ (by kernel_rfl) rfl
    (fun f fn hf hfn => by
      obtain rfl : f = 3 := Option.some.inj ((show Tryd.prog.funcNamed "quadrille/quadrillelaw13.ShuffleFull" = some 3 by kernel_rfl).symm.trans hf) |>.symm
      obtain rfl : fn = Tryd.f3 := (Option.some.inj (Tryd.func3.symm.trans hfn)).symm
      exact ⟨by kernel_rfl, fun j t ht => by
        rw [Tryd.params3] at ht
        have hm : t ∈ [5, 5, 22] := by simpa using Array.mem_of_getElem? ht
        have hall : ([5, 5, 22].all fun u => !Tryd.prog.wantsStandIn u) = true := by kernel_rfl
        exact (show Tryd.prog.wantsStandIn t = false by simpa using List.all_eq_true.1 hall t hm)⟩)
    (by kernel_rfl)
#print axioms ShuffleFull_holds
end Go.Proofs.YtbhnbnecaejjiaaDoor
